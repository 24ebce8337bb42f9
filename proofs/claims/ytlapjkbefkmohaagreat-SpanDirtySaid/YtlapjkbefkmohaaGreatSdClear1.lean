/- Package ref14: a range of the guest's bytes is nothing. -/
import Derived.Test.YtlapjkbefkmohaaGreatSdWipe1
import Derived.Test.YtlapjkbefkmohaaGreatSdSpan8
set_option linter.unusedVariables false
namespace Go.Proofs.YtlapjkbefkmohaaGreat
open Go.RowKit Go.Shelf
attribute [local go_sem] bs_mk bs_append bs_extract bs_size bs_toList bs_get
namespace Im
noncomputable def clN (L : List Cut) (x : Im) (i : Nat) : Im × Int := (L.take i).foldl (clearStep true) (x, 0)
theorem clN_next {L : List Cut} {x X : Im} {i : Nat} (hi : i < L.length) (h : clN L x i = (X, 0)) : clN L x (i + 1) = if L[i].2.2 = 128 then X.wipe L[i].1 true else X.write L[i].1 L[i].2.1 (List.replicate L[i].2.2.toNat 0) := by
 unfold clN at *
 rw [List.take_add_one, List.foldl_append, h, List.getElem?_eq_getElem hi]
 simp [clearStep]
theorem clear_stays (X : Im × Int) (h : X.2 ≠ 0) : ∀ l : List Cut, l.foldl (clearStep true) X = X := fun l => by
 induction l with
 | nil => rfl
 | cons p l ih => rw [List.foldl_cons, clearStep, if_pos h, ih]
theorem clN_stop {L : List Cut} {x : Im} (i : Nat) (h : (clN L x (i + 1)).2 ≠ 0) : L.foldl (clearStep true) (x, 0) = clN L x (i + 1) := by
 have e := List.take_append_drop (i + 1) L
 conv => lhs; rw [← e]
 rw [List.foldl_append]
 exact clear_stays _ h _
theorem clN_ok {L : List Cut} {x : Im} (hx : x.Ok) (hL : ∀ p ∈ L, 0 ≤ p.1 ∧ 1 ≤ p.2.2) (i : Nat) : (clN L x i).1.Ok := by
 have H : ∀ (l : List Cut) (X : Im × Int), Kept x X.1 → (∀ p ∈ l, 0 ≤ p.1 ∧ 1 ≤ p.2.2) → Kept x (l.foldl (clearStep true) X).1 := fun l => by
  induction l with
  | nil => exact fun X hX _ => hX
  | cons p l ih =>
   intro X hX hl
   obtain ⟨p0, p1⟩ := hl p List.mem_cons_self
   exact ih _ (clearStep_kept hX true p0 p1).1 fun q hq => hl q (List.mem_cons_of_mem _ hq)
 exact (H (L.take i) (x, 0) (Kept.refl hx) fun p hp => hL p (List.mem_of_mem_take hp)).ok
end Im
set_option maxRecDepth 100000 in
set_option maxHeartbeats 8000000 in
theorem r14_clear_in (x : Im) (p q r : Pl) (w : World) (hI : IsIm w x p q r) (ok : x.Ok) (hbr : x.br = false) (a n : Int) (ha : okInt a) (hn : okInt n) (hw : Im.within x.g a n = true) :
 Calls Tryz.prog 17 #[imval x p q r, .int .i64 a, .int .i64 n, .bool true] w fun e w' => RetIm w.heap.size x p q r (x.clear a n true) e w' ∧ Below w.heap.size w w' := by
 have hwi := fun (W : World) => r14_within x.g x.h ok.g a n ha hn W
 rw [hw] at hwi
 have hcut := fun (W : World) => r14_cut a n W
 obtain ⟨w1, w2, w3, w4⟩ := within_iff.1 hw
 have hgg := ok.g
 have hT := (cuts_tiles (a := a) (n := n) (by omega)).mem w1
 have HB := hid (show ∀ p ∈ Im.cuts a n, 0 ≤ p.1 ∧ p.1 ≤ 10000 ∧ 0 ≤ p.2.1 ∧ p.2.1 ≤ 128 ∧ 1 ≤ p.2.2 ∧ p.2.2 ≤ 128 from fun p hp => by have := hT p hp; omega)
 have HF := hid (show x.clear a n true = Im.clN (Im.cuts a n) x (Im.cuts a n).length by
  rw [Im.clear, if_neg (by rw [hbr]; simp), if_neg (by rw [hw]; simp), Im.clN, List.take_length])
 have HS := hid (fun i (hi : i < (Im.cuts a n).length) (h : (Im.clN (Im.cuts a n) x (i + 1)).2 ≠ 0) => show x.clear a n true = Im.clN (Im.cuts a n) x (i + 1) by
  rw [Im.clear, if_neg (by rw [hbr]; simp), if_neg (by rw [hw]; simp)]; exact Im.clN_stop i h)
 have HN := hid (fun i X (hi : i < (Im.cuts a n).length) (h : Im.clN (Im.cuts a n) x i = (X, 0)) => Im.clN_next hi h)
 have HOk := hid (fun i => Im.clN_ok ok (L := Im.cuts a n) (fun p hp => by have := HB.out p hp; omega) i)
 have H0 := hid (show Im.clN (Im.cuts a n) x 0 = (x, 0) from rfl)
 have hll := cuts_length a n
 generalize Im.cuts a n = L at *
 generalize Im.clN L x = cl at *
 generalize x.clear a n true = FIN at *
 have Hap := hid (fun g (hg : w.heap.size ≤ g) => hI.apart hg)
 obtain ⟨D, g, h, ⟨seq, pos⟩, maps, br⟩ := x
 simp only at hbr hwi hgg
 subst hbr
 obtain ⟨hd, hm⟩ := hI
 simp only at hd hm
 clear ok hT w1 w2 w3 w4 hw
 obtain ⟨A1, a1⟩ := p
 obtain ⟨A2, a2⟩ := q
 obtain ⟨A3, a3⟩ := r
 have or9 := (Hap.out (w.heap.size + 1) (by omega)).1
 have or8 := (Hap.out (w.heap.size + 1) (by omega)).2
 have hB := Below.refl w.heap.size w
 have x := Blk.new w 33 #[.string (bs D.data), .slice A1 D.cache.length a1, .int .i64 D.fuse, .bool D.off, .slice A2 D.bad.length a2, .int .i64 g, .int .i64 h, .int .u64 seq, .int .i64 pos, .slice A3 maps.length a3, .bool false]
 have xk := blk11 x
 have xkf := x.frozen
 have hB_1 := hB.alloc hB.size (.cells #[.string (bs D.data), .slice A1 D.cache.length a1, .int .i64 D.fuse, .bool D.off, .slice A2 D.bad.length a2, .int .i64 g, .int .i64 h, .int .u64 seq, .int .i64 pos, .slice A3 maps.length a3, .bool false] 33)
 have hd_2 := hd.below ((Below.refl _ _).alloc (Nat.le_refl _) (.cells #[.string (bs D.data), .slice A1 D.cache.length a1, .int .i64 D.fuse, .bool D.off, .slice A2 D.bad.length a2, .int .i64 g, .int .i64 h, .int .u64 seq, .int .i64 pos, .slice A3 maps.length a3, .bool false] 33))
 have hm_3 := hm.below ((Below.refl _ _).alloc (Nat.le_refl _) (.cells #[.string (bs D.data), .slice A1 D.cache.length a1, .int .i64 D.fuse, .bool D.off, .slice A2 D.bad.length a2, .int .i64 g, .int .i64 h, .int .u64 seq, .int .i64 pos, .slice A3 maps.length a3, .bool false] 33))
 have r := Blk.new (w.alloc (.cells #[.string (bs D.data), .slice A1 D.cache.length a1, .int .i64 D.fuse, .bool D.off, .slice A2 D.bad.length a2, .int .i64 g, .int .i64 h, .int .u64 seq, .int .i64 pos, .slice A3 maps.length a3, .bool false] 33)) 33 #[.string (bs []), .slice none 0 0, .int .i64 0, .bool false, .slice none 0 0, .int .i64 0, .int .i64 0, .int .u64 0, .int .i64 0, .slice none 0 0, .bool false]
 simp only [World.size_alloc] at r
 have rk := blk11 r
 have rkf := r.frozen
 have hB_4 := hB_1.alloc hB_1.size (.cells #[.string (bs []), .slice none 0 0, .int .i64 0, .bool false, .slice none 0 0, .int .i64 0, .int .i64 0, .int .u64 0, .int .i64 0, .slice none 0 0, .bool false] 33)
 have hd_5 := hd_2.below ((Below.refl _ _).alloc (Nat.le_refl _) (.cells #[.string (bs []), .slice none 0 0, .int .i64 0, .bool false, .slice none 0 0, .int .i64 0, .int .i64 0, .int .u64 0, .int .i64 0, .slice none 0 0, .bool false] 33))
 have hm_6 := hm_3.below ((Below.refl _ _).alloc (Nat.le_refl _) (.cells #[.string (bs []), .slice none 0 0, .int .i64 0, .bool false, .slice none 0 0, .int .i64 0, .int .i64 0, .int .u64 0, .int .i64 0, .slice none 0 0, .bool false] 33))
 have x_7 := x.alloc (.cells #[.string (bs []), .slice none 0 0, .int .i64 0, .bool false, .slice none 0 0, .int .i64 0, .int .i64 0, .int .u64 0, .int .i64 0, .slice none 0 0, .bool false] 33)
 have xk_7 := blk11 x_7
 have xkf_7 := x_7.frozen
 clear or9 or8
 go_enter Tryz.func17, Tryz.ntmps17
 go_wp2_with fail
 go_at_call 25
 refine ((hwi _)).mono ?_
 rintro e wa ⟨rfl, hba⟩
 replace hB := bt hB_4 hba
 replace hd := hd_5.below hba
 replace hm := hm_6.below hba
 replace x := x_7.below hba x_7.lt
 replace xk := blk11 x
 replace xkf := x.frozen
 replace r := r.below hba r.lt
 replace rk := blk11 r
 replace rkf := r.frozen
 clear hB_1 hd_2 hm_3 hB_4 hd_5 hm_6 xk_7 xkf_7 x_7
 have hwa := (hB).size
 have hrl := r.lt
 go_wp2_with fail
 go_at_call 26
 refine ((hcut _)).mono ?_
 rintro e wb ⟨⟨v, rfl, hv⟩, hbb⟩
 replace hB := bt hB hbb
 replace hd := hd.below hbb
 replace hm := hm.below hbb
 replace x := x.below hbb x.lt
 replace xk := blk11 x
 replace xkf := x.frozen
 replace r := r.below hbb r.lt
 replace rk := blk11 r
 replace rkf := r.frozen
 obtain ⟨A4, c4, rfl, hn4, hc4, hm4⟩ := own_slice hv
 have HC := hid (Cells.of_own hv)
 have Hne := hid (own_beyond hv (g := w.heap.size) (by omega))
 clear hv hcut hwi
 go_wp2_with fail
 go_loopw [11] (fun u W => ∃ (i : Nat) (X : Im) (P Q R : Pl), i ≤ L.length ∧ u = .int .i64 i ∧ Hid (cl i = (X, 0)) ∧ Blk W w.heap.size 33 #[.string (bs X.d.data), .slice P.a X.d.cache.length P.c, .int .i64 X.d.fuse, .bool X.d.off, .slice Q.a X.d.bad.length Q.c, .int .i64 X.g, .int .i64 X.h, .int .u64 X.j.seq, .int .i64 X.j.pos, .slice R.a X.maps.length R.c, .bool X.br] ∧ Blk W (w.heap.size + 1) 33 #[.string (bs []), .slice none 0 0, .int .i64 0, .bool false, .slice none 0 0, .int .i64 0, .int .i64 0, .int .u64 0, .int .i64 0, .slice none 0 0, .bool false] ∧ IsIm W X P Q R ∧ Hid (∀ g', g' < w.heap.size + 2 → ImOff g' ⟨D, g, h, ⟨seq, pos⟩, maps, false⟩ ⟨A1, a1⟩ ⟨A2, a2⟩ ⟨A3, a3⟩ → ImOff g' X P Q R) ∧ Cells W A4 (cutCells L) ∧ Below w.heap.size w W) (fun u _ => L.length - (intOf u).toNat)
 case atStart => exact ⟨0, ⟨D, g, h, ⟨seq, pos⟩, maps, false⟩, ⟨A1, a1⟩, ⟨A2, a2⟩, ⟨A3, a3⟩, Nat.zero_le _, rfl, H0, x, r, ⟨hd, hm⟩, hid (fun _ _ h => h), HC.out, hB⟩
 case round =>
  clear x xk r rk hd hm hB xkf rkf HC H0
  obtain ⟨i, ⟨E, g1, h1, ⟨sq1, po1⟩, m1, b1⟩, ⟨P1, cp1⟩, ⟨Q1, cq1⟩, ⟨R1, cr1⟩, hi, rfl, HE, x, r, hX, HO, hC, b⟩ := hrel
  simp only at x
  have okX : (⟨E, g1, h1, ⟨sq1, po1⟩, m1, b1⟩ : Im).Ok := by have := HOk.out i; rw [HE.out] at this; exact this
  have ox := HO.out w.heap.size (by omega) (Hap.out _ (Nat.le_refl _))
  have or0 := Hap.out (w.heap.size + 1) (by omega)
  have or1 := HO.out (w.heap.size + 1) (by omega) or0
  have hrl := r.lt
  have ds := hX.d
  have ms := hX.m
  have xk := blk11 x
  have xkf := x.frozen
  have rk := blk11 r
  have rkf := r.frozen
  by_cases hlt : i < L.length
  · obtain ⟨gA, oA, e4, hc⟩ := hC.cut hlt
    replace hc := hc i hlt
    subst e4
    have hne := Hne.out
    have HP := HN.out i _ hlt HE.out
    have hB9 := HB.out L[i] (List.getElem_mem hlt)
    obtain ⟨⟨k, o, s⟩, hx⟩ : ∃ x, L[i] = x := ⟨_, rfl⟩
    rw [hx] at hc HP hB9
    simp only at hc HP hB9
    clear hx HE HN HOk Hap Hne
    have xr := x
    have rr := r
    by_cases h128 : s = 128
    · subst h128
      rw [if_pos rfl] at HP
      have D1 := fun (W : World) (hW : Below wr.heap.size wr W) => show Calls Tryz.prog 41 #[.agg #[.string (bs E.data), .slice P1 E.cache.length cp1, .int .i64 E.fuse, .bool E.off, .slice Q1 E.bad.length cq1, .int .i64 g1, .int .i64 h1, .int .u64 sq1, .int .i64 po1, .slice R1 m1.length cr1, .bool b1], .int .i64 k, .bool true] W _ from r14_wipe ⟨E, g1, h1, ⟨sq1, po1⟩, m1, b1⟩ ⟨P1, cp1⟩ ⟨Q1, cq1⟩ ⟨R1, cr1⟩ W (hX.below hW) okX k (by unfold okInt; omega)
      generalize Im.wipe ⟨E, g1, h1, ⟨sq1, po1⟩, m1, b1⟩ k true = DN at *
      obtain ⟨⟨F, g9, h9, ⟨sq9, po9⟩, m9, b9⟩, ey⟩ := DN
      have Hn := hid HP
      clear HP okX
      go_upto_region 11 with fail
      have KX := fun (W : World) (hW : Below wr.heap.size wr W) => And.intro (blk11 (xr.below hW xr.lt)) (And.intro (cell_below hW hc.1) (And.intro (cell_below hW hc.2.1) (cell_below hW hc.2.2)))
      have s0 : Below wr.heap.size wr wr.drew := (Below.refl _ _).drew
      refine wp_region_late (S := fun W => Below wr.heap.size wr W) (late := fun i => i == 11) (by kernel_rfl) ?_
      generalize wr.drew = U0 at s0 ⊢
      simp only [List.size_toArray, List.length_cons, List.length_nil, Nat.reduceAdd, Array.replicate_succ, Array.replicate_zero, List.push_toArray, List.nil_append, List.cons_append]
      refine wpLate_take (i := 0) (oi := _) (v := .agg #[.string (bs E.data), .slice P1 E.cache.length cp1, .int .i64 E.fuse, .bool E.off, .slice Q1 E.bad.length cq1, .int .i64 g1, .int .i64 h1, .int .u64 sq1, .int .i64 po1, .slice R1 m1.length cr1, .bool b1]) (d := some 39) rfl rfl (by kernel_rfl) (by kernel_rfl) (by kernel_rfl) (by kernel_rfl) (fun _ _ _ h => h) rfl (fun W hW => by have h := KX W hW; go_simp) s0 ?_
      simp only [Act.put, List.setIfInBounds_toArray, List.set_cons_zero, List.set_cons_succ]
      refine wpLate_take0 (i := 1) (oi := _) (v := .slice (some ⟨gA, oA, none⟩) L.length c4) (d := some 40) rfl rfl (by kernel_rfl) (by kernel_rfl) (by kernel_rfl) (fun _ _ _ h => h) rfl (fun W => by first | rfl | go_simp) ?_
      simp only [Act.put, List.setIfInBounds_toArray, List.set_cons_zero, List.set_cons_succ]
      refine wpLate_take0 (i := 2) (oi := _) (v := .int .i64 (i : Int)) (d := some 41) rfl rfl (by kernel_rfl) (by kernel_rfl) (by kernel_rfl) (fun _ _ _ h => h) rfl (fun W => by first | rfl | go_simp) ?_
      simp only [Act.put, List.setIfInBounds_toArray, List.set_cons_zero, List.set_cons_succ]
      refine wpLate_take0 (i := 3) (oi := _) (v := .pointer (some ⟨gA, oA + i * 3, none⟩)) (d := some 42) rfl rfl (by kernel_rfl) (by kernel_rfl) (by kernel_rfl) (fun _ _ _ h => h) rfl (fun W => by first | rfl | go_simp) ?_
      simp only [Act.put, List.setIfInBounds_toArray, List.set_cons_zero, List.set_cons_succ]
      refine wpLate_take0 (i := 4) (oi := _) (v := .pointer (some ⟨gA, oA + i * 3, none⟩)) (d := some 43) rfl rfl (by kernel_rfl) (by kernel_rfl) (by kernel_rfl) (fun _ _ _ h => h) rfl (fun W => by first | rfl | go_simp) ?_
      simp only [Act.put, List.setIfInBounds_toArray, List.set_cons_zero, List.set_cons_succ]
      refine wpLate_take (i := 5) (oi := _) (v := .int .i64 k) (d := some 44) rfl rfl (by kernel_rfl) (by kernel_rfl) (by kernel_rfl) (by kernel_rfl) (fun _ _ _ h => h) rfl (fun W hW => by have h := KX W hW; go_simp) s0 ?_
      simp only [Act.put, List.setIfInBounds_toArray, List.set_cons_zero, List.set_cons_succ]
      refine wpLate_take0 (i := 6) (oi := _) (v := .bool true) (d := some 45) rfl rfl (by kernel_rfl) (by kernel_rfl) (by kernel_rfl) (fun _ _ _ h => h) rfl (fun W => by first | rfl | go_simp) ?_
      simp only [Act.put, List.setIfInBounds_toArray, List.set_cons_zero, List.set_cons_succ]
      refine wpLate_one (i := 7) (by kernel_rfl) rfl rfl (fun K' hK => ?_)
      refine oper_enter' (f := 41) (args := #[.agg #[.string (bs E.data), .slice P1 E.cache.length cp1, .int .i64 E.fuse, .bool E.off, .slice Q1 E.bad.length cq1, .int .i64 g1, .int .i64 h1, .int .u64 sq1, .int .i64 po1, .slice R1 m1.length cr1, .bool b1], .int .i64 k, .bool true]) (w' := U0) (by go_simp) ((D1 U0 s0).mono ?_)
      rintro e U1 ⟨⟨⟨P9, cp9⟩, ⟨Q9, cq9⟩, ⟨R9, cr9⟩, rfl, iz9, oz9⟩, hb0⟩
      refine ⟨_, rfl, ?_⟩
      show K' (Act.put _ (some 46) _) _
      have s1 := s0.trans (hb0.mono s0.size)
      have xz := xr.below s1 xr.lt
      have rz := rr.below s1 rr.lt
      have cz9 := hC.below s1
      have bz9 := bt b s1
      have hsz := s0.size
      have oF : ImOff w.heap.size ⟨F, g9, h9, ⟨sq9, po9⟩, m9, b9⟩ ⟨P9, cp9⟩ ⟨Q9, cq9⟩ ⟨R9, cr9⟩ := oz9 w.heap.size (by omega) ox
      have O9 : ∀ g', g' < w.heap.size + 2 → ImOff g' ⟨D, g, h, ⟨seq, pos⟩, maps, false⟩ ⟨A1, a1⟩ ⟨A2, a2⟩ ⟨A3, a3⟩ → ImOff g' ⟨F, g9, h9, ⟨sq9, po9⟩, m9, b9⟩ ⟨P9, cp9⟩ ⟨Q9, cq9⟩ ⟨R9, cr9⟩ := fun g' h1 h2 => oz9 g' (by omega) (HO.out g' h1 h2)
      refine hK _ _ (fun _ _ => s1) ?_
      simp only [Act.put, List.setIfInBounds_toArray, List.set_cons_zero, List.set_cons_succ]
      refine wpLate_take0 (i := 8) (oi := _) (v := .tuple #[.agg #[.string (bs F.data), .slice P9 F.cache.length cp9, .int .i64 F.fuse, .bool F.off, .slice Q9 F.bad.length cq9, .int .i64 g9, .int .i64 h9, .int .u64 sq9, .int .i64 po9, .slice R9 m9.length cr9, .bool b9], .int .i64 ey]) (d := some 38) rfl rfl (by kernel_rfl) (by kernel_rfl) (by kernel_rfl) (fun _ _ _ h => h) rfl (fun W => by first | rfl | go_simp) ?_
      simp only [Act.put, List.setIfInBounds_toArray, List.set_cons_zero, List.set_cons_succ]
      refine wpLate_take0 (i := 9) (oi := _) (v := .agg #[.string (bs F.data), .slice P9 F.cache.length cp9, .int .i64 F.fuse, .bool F.off, .slice Q9 F.bad.length cq9, .int .i64 g9, .int .i64 h9, .int .u64 sq9, .int .i64 po9, .slice R9 m9.length cr9, .bool b9]) (d := some 47) rfl rfl (by kernel_rfl) (by kernel_rfl) (by kernel_rfl) (fun _ _ _ h => h) rfl (fun W => by first | rfl | go_simp) ?_
      simp only [Act.put, List.setIfInBounds_toArray, List.set_cons_zero, List.set_cons_succ]
      refine wpLate_take0 (i := 10) (oi := _) (v := .int .i64 ey) (d := some 48) rfl rfl (by kernel_rfl) (by kernel_rfl) (by kernel_rfl) (fun _ _ _ h => h) rfl (fun W => by first | rfl | go_simp) ?_
      simp only [Act.put, List.setIfInBounds_toArray, List.set_cons_zero, List.set_cons_succ]
      refine wpLate_one (i := 11) (by kernel_rfl) rfl rfl (fun K' hK => ?_)
      refine oper_skip (w' := (((((((((((U1.setCell ⟨w.heap.size, 0, none⟩ (.string (bs F.data))).setCell ⟨w.heap.size, 1, none⟩ (.slice P9 F.cache.length cp9)).setCell ⟨w.heap.size, 2, none⟩ (.int .i64 F.fuse)).setCell ⟨w.heap.size, 3, none⟩ (.bool F.off)).setCell ⟨w.heap.size, 4, none⟩ (.slice Q9 F.bad.length cq9)).setCell ⟨w.heap.size, 5, none⟩ (.int .i64 g9)).setCell ⟨w.heap.size, 6, none⟩ (.int .i64 h9)).setCell ⟨w.heap.size, 7, none⟩ (.int .u64 sq9)).setCell ⟨w.heap.size, 8, none⟩ (.int .i64 po9)).setCell ⟨w.heap.size, 9, none⟩ (.slice R9 m9.length cr9)).setCell ⟨w.heap.size, 10, none⟩ (.bool b9))) (by have k0 := blk11 xz; have f0 := xz.frozen; have z1 := xz.set 0 (.string (bs F.data)); simp only [List.setIfInBounds_toArray, List.set_cons_zero] at z1; have f1 := z1.frozen; have k1 := blk11 z1; have z2 := z1.set 1 (.slice P9 F.cache.length cp9); simp only [List.setIfInBounds_toArray, List.set_cons_zero, List.set_cons_succ] at z2; have f2 := z2.frozen; have k2 := blk11 z2; have z3 := z2.set 2 (.int .i64 F.fuse); simp only [List.setIfInBounds_toArray, List.set_cons_zero, List.set_cons_succ] at z3; have f3 := z3.frozen; have k3 := blk11 z3; have z4 := z3.set 3 (.bool F.off); simp only [List.setIfInBounds_toArray, List.set_cons_zero, List.set_cons_succ] at z4; have f4 := z4.frozen; have k4 := blk11 z4; have z5 := z4.set 4 (.slice Q9 F.bad.length cq9); simp only [List.setIfInBounds_toArray, List.set_cons_zero, List.set_cons_succ] at z5; have f5 := z5.frozen; have k5 := blk11 z5; have z6 := z5.set 5 (.int .i64 g9); simp only [List.setIfInBounds_toArray, List.set_cons_zero, List.set_cons_succ] at z6; have f6 := z6.frozen; have k6 := blk11 z6; have z7 := z6.set 6 (.int .i64 h9); simp only [List.setIfInBounds_toArray, List.set_cons_zero, List.set_cons_succ] at z7; have f7 := z7.frozen; have k7 := blk11 z7; have z8 := z7.set 7 (.int .u64 sq9); simp only [List.setIfInBounds_toArray, List.set_cons_zero, List.set_cons_succ] at z8; have f8 := z8.frozen; have k8 := blk11 z8; have z9 := z8.set 8 (.int .i64 po9); simp only [List.setIfInBounds_toArray, List.set_cons_zero, List.set_cons_succ] at z9; have f9 := z9.frozen; have k9 := blk11 z9; have z10 := z9.set 9 (.slice R9 m9.length cr9); simp only [List.setIfInBounds_toArray, List.set_cons_zero, List.set_cons_succ] at z10; have f10 := z10.frozen; have k10 := blk11 z10; go_simp) ?_
      show K' (Act.put _ none _) _
      have x9 := blk_set11 xz (.string (bs F.data)) (.slice P9 F.cache.length cp9) (.int .i64 F.fuse) (.bool F.off) (.slice Q9 F.bad.length cq9) (.int .i64 g9) (.int .i64 h9) (.int .u64 sq9) (.int .i64 po9) (.slice R9 m9.length cr9) (.bool b9)
      have bw9 : Below w.heap.size w ((((((((((((U1.setCell ⟨w.heap.size, 0, none⟩ (.string (bs F.data))).setCell ⟨w.heap.size, 1, none⟩ (.slice P9 F.cache.length cp9)).setCell ⟨w.heap.size, 2, none⟩ (.int .i64 F.fuse)).setCell ⟨w.heap.size, 3, none⟩ (.bool F.off)).setCell ⟨w.heap.size, 4, none⟩ (.slice Q9 F.bad.length cq9)).setCell ⟨w.heap.size, 5, none⟩ (.int .i64 g9)).setCell ⟨w.heap.size, 6, none⟩ (.int .i64 h9)).setCell ⟨w.heap.size, 7, none⟩ (.int .u64 sq9)).setCell ⟨w.heap.size, 8, none⟩ (.int .i64 po9)).setCell ⟨w.heap.size, 9, none⟩ (.slice R9 m9.length cr9)).setCell ⟨w.heap.size, 10, none⟩ (.bool b9))) := keep11 (fun W o v h => h.setCell (p := ⟨w.heap.size, o, none⟩) (Nat.le_refl _) v) bz9 (.string (bs F.data)) (.slice P9 F.cache.length cp9) (.int .i64 F.fuse) (.bool F.off) (.slice Q9 F.bad.length cq9) (.int .i64 g9) (.int .i64 h9) (.int .u64 sq9) (.int .i64 po9) (.slice R9 m9.length cr9) (.bool b9)
      have i9 : IsIm ((((((((((((U1.setCell ⟨w.heap.size, 0, none⟩ (.string (bs F.data))).setCell ⟨w.heap.size, 1, none⟩ (.slice P9 F.cache.length cp9)).setCell ⟨w.heap.size, 2, none⟩ (.int .i64 F.fuse)).setCell ⟨w.heap.size, 3, none⟩ (.bool F.off)).setCell ⟨w.heap.size, 4, none⟩ (.slice Q9 F.bad.length cq9)).setCell ⟨w.heap.size, 5, none⟩ (.int .i64 g9)).setCell ⟨w.heap.size, 6, none⟩ (.int .i64 h9)).setCell ⟨w.heap.size, 7, none⟩ (.int .u64 sq9)).setCell ⟨w.heap.size, 8, none⟩ (.int .i64 po9)).setCell ⟨w.heap.size, 9, none⟩ (.slice R9 m9.length cr9)).setCell ⟨w.heap.size, 10, none⟩ (.bool b9))) ⟨F, g9, h9, ⟨sq9, po9⟩, m9, b9⟩ ⟨P9, cp9⟩ ⟨Q9, cq9⟩ ⟨R9, cr9⟩ := keep11 (P := fun W => IsIm W ⟨F, g9, h9, ⟨sq9, po9⟩, m9, b9⟩ ⟨P9, cp9⟩ ⟨Q9, cq9⟩ ⟨R9, cr9⟩) (fun W o v h => h.off (a := ⟨w.heap.size, o, none⟩) oF v) iz9 (.string (bs F.data)) (.slice P9 F.cache.length cp9) (.int .i64 F.fuse) (.bool F.off) (.slice Q9 F.bad.length cq9) (.int .i64 g9) (.int .i64 h9) (.int .u64 sq9) (.int .i64 po9) (.slice R9 m9.length cr9) (.bool b9)
      have r9 : Blk ((((((((((((U1.setCell ⟨w.heap.size, 0, none⟩ (.string (bs F.data))).setCell ⟨w.heap.size, 1, none⟩ (.slice P9 F.cache.length cp9)).setCell ⟨w.heap.size, 2, none⟩ (.int .i64 F.fuse)).setCell ⟨w.heap.size, 3, none⟩ (.bool F.off)).setCell ⟨w.heap.size, 4, none⟩ (.slice Q9 F.bad.length cq9)).setCell ⟨w.heap.size, 5, none⟩ (.int .i64 g9)).setCell ⟨w.heap.size, 6, none⟩ (.int .i64 h9)).setCell ⟨w.heap.size, 7, none⟩ (.int .u64 sq9)).setCell ⟨w.heap.size, 8, none⟩ (.int .i64 po9)).setCell ⟨w.heap.size, 9, none⟩ (.slice R9 m9.length cr9)).setCell ⟨w.heap.size, 10, none⟩ (.bool b9))) (w.heap.size + 1) 33 #[.string (bs []), .slice none 0 0, .int .i64 0, .bool false, .slice none 0 0, .int .i64 0, .int .i64 0, .int .u64 0, .int .i64 0, .slice none 0 0, .bool false] := keep11 (P := fun W => Blk W (w.heap.size + 1) 33 #[.string (bs []), .slice none 0 0, .int .i64 0, .bool false, .slice none 0 0, .int .i64 0, .int .i64 0, .int .u64 0, .int .i64 0, .slice none 0 0, .bool false]) (fun W o v h => h.other (a := ⟨w.heap.size, o, none⟩) (by show ¬ w.heap.size + 1 = w.heap.size; omega) v) rz (.string (bs F.data)) (.slice P9 F.cache.length cp9) (.int .i64 F.fuse) (.bool F.off) (.slice Q9 F.bad.length cq9) (.int .i64 g9) (.int .i64 h9) (.int .u64 sq9) (.int .i64 po9) (.slice R9 m9.length cr9) (.bool b9)
      have C9 : Cells ((((((((((((U1.setCell ⟨w.heap.size, 0, none⟩ (.string (bs F.data))).setCell ⟨w.heap.size, 1, none⟩ (.slice P9 F.cache.length cp9)).setCell ⟨w.heap.size, 2, none⟩ (.int .i64 F.fuse)).setCell ⟨w.heap.size, 3, none⟩ (.bool F.off)).setCell ⟨w.heap.size, 4, none⟩ (.slice Q9 F.bad.length cq9)).setCell ⟨w.heap.size, 5, none⟩ (.int .i64 g9)).setCell ⟨w.heap.size, 6, none⟩ (.int .i64 h9)).setCell ⟨w.heap.size, 7, none⟩ (.int .u64 sq9)).setCell ⟨w.heap.size, 8, none⟩ (.int .i64 po9)).setCell ⟨w.heap.size, 9, none⟩ (.slice R9 m9.length cr9)).setCell ⟨w.heap.size, 10, none⟩ (.bool b9))) (some ⟨gA, oA, none⟩) (cutCells L) := keep11 (P := fun W => Cells W (some ⟨gA, oA, none⟩) (cutCells L)) (fun W o v h => h.setCell (p := ⟨w.heap.size, o, none⟩) hne v) cz9 (.string (bs F.data)) (.slice P9 F.cache.length cp9) (.int .i64 F.fuse) (.bool F.off) (.slice Q9 F.bad.length cq9) (.int .i64 g9) (.int .i64 h9) (.int .u64 sq9) (.int .i64 po9) (.slice R9 m9.length cr9) (.bool b9)
      refine hK _ _ (fun h => absurd h (by decide)) ?_
      generalize (((((((((((U1.setCell ⟨w.heap.size, 0, none⟩ (.string (bs F.data))).setCell ⟨w.heap.size, 1, none⟩ (.slice P9 F.cache.length cp9)).setCell ⟨w.heap.size, 2, none⟩ (.int .i64 F.fuse)).setCell ⟨w.heap.size, 3, none⟩ (.bool F.off)).setCell ⟨w.heap.size, 4, none⟩ (.slice Q9 F.bad.length cq9)).setCell ⟨w.heap.size, 5, none⟩ (.int .i64 g9)).setCell ⟨w.heap.size, 6, none⟩ (.int .i64 h9)).setCell ⟨w.heap.size, 7, none⟩ (.int .u64 sq9)).setCell ⟨w.heap.size, 8, none⟩ (.int .i64 po9)).setCell ⟨w.heap.size, 9, none⟩ (.slice R9 m9.length cr9)).setCell ⟨w.heap.size, 10, none⟩ (.bool b9)) = Uz at x9 bw9 i9 r9 C9 ⊢
      try simp only [Act.put, List.setIfInBounds_toArray, List.set_cons_zero, List.set_cons_succ]
      refine wpLate_take0 (i := 12) (oi := _) (v := .int .i64 ey) (d := some 12) rfl rfl (by kernel_rfl) (by kernel_rfl) (by kernel_rfl) (fun _ _ _ h => h) rfl (fun W => by first | rfl | go_simp) ?_
      simp only [Act.put, List.setIfInBounds_toArray, List.set_cons_zero, List.set_cons_succ]
      refine wpLate_done (by kernel_rfl) ?_ _
      clear KX D1 s0 xz rz cz9 bz9 iz9 oz9 hsz xk rk xkf rkf xr rr
      have i9d := i9.d
      have i9m := i9.m
      have oR := O9 (w.heap.size + 1) (by omega) or0
      have oRd := oR.1
      have oRm := oR.2
      clear i9 oR
      replace x := x9
      replace r := r9
      replace b := bw9
      clear x9 r9 bw9
      have xk := blk11 x
      have xkf := x.frozen
      have rk := blk11 r
      have rkf := r.frozen
      by_cases hy : ey = 0
      · subst hy
        have HO9 := hid O9
        clear O9 oF oRd oRm
        go_wp2_with fail
        go_roundw
        case rel => exact ⟨i + 1, ⟨F, g9, h9, ⟨sq9, po9⟩, m9, b9⟩, ⟨P9, cp9⟩, ⟨Q9, cq9⟩, ⟨R9, cr9⟩, by omega, by go_num, Hn, x, r, ⟨i9d, i9m⟩, HO9, C9, b⟩
        case measure => simp [intOf]; omega
      · have n1 : (ey != 0) = true := bne_iff_ne.2 hy
        have Hr := hid (show FIN = (⟨F, g9, h9, ⟨sq9, po9⟩, m9, b9⟩, ey) by rw [HS.out i hlt (by rw [Hn.out]; exact hy), Hn.out])
        clear Hn hy
        have HO9 := hid O9
        clear O9
        go_wp2_with fail
        have b_1 := below11 b (g := w.heap.size + 1) (by omega) (.string (bs F.data)) (.slice P9 F.cache.length cp9) (.int .i64 F.fuse) (.bool F.off) (.slice Q9 F.bad.length cq9) (.int .i64 g9) (.int .i64 h9) (.int .u64 sq9) (.int .i64 po9) (.slice R9 m9.length cr9) (.bool b9)
        have i9d_2 := i9d.off11 (g := w.heap.size + 1) (by first | assumption | omega) (.string (bs F.data)) (.slice P9 F.cache.length cp9) (.int .i64 F.fuse) (.bool F.off) (.slice Q9 F.bad.length cq9) (.int .i64 g9) (.int .i64 h9) (.int .u64 sq9) (.int .i64 po9) (.slice R9 m9.length cr9) (.bool b9)
        have i9m_3 := i9m.off11 (g := w.heap.size + 1) (by first | assumption | omega) (.string (bs F.data)) (.slice P9 F.cache.length cp9) (.int .i64 F.fuse) (.bool F.off) (.slice Q9 F.bad.length cq9) (.int .i64 g9) (.int .i64 h9) (.int .u64 sq9) (.int .i64 po9) (.slice R9 m9.length cr9) (.bool b9)
        have x_4 := blk_off11 x (g := w.heap.size + 1) (by omega) (.string (bs F.data)) (.slice P9 F.cache.length cp9) (.int .i64 F.fuse) (.bool F.off) (.slice Q9 F.bad.length cq9) (.int .i64 g9) (.int .i64 h9) (.int .u64 sq9) (.int .i64 po9) (.slice R9 m9.length cr9) (.bool b9)
        have xk_4 := blk11 x_4
        have xkf_4 := x_4.frozen
        have r_5 := blk_set11 r (.string (bs F.data)) (.slice P9 F.cache.length cp9) (.int .i64 F.fuse) (.bool F.off) (.slice Q9 F.bad.length cq9) (.int .i64 g9) (.int .i64 h9) (.int .u64 sq9) (.int .i64 po9) (.slice R9 m9.length cr9) (.bool b9)
        have rk_5 := blk11 r_5
        have rkf_5 := r_5.frozen
        have yy := blk11 r_5
        have bw := b_1
        have dw := i9d_2
        have mw := i9m_3
        go_wp2_with fail
        refine bodyPost_ret (v := .tuple #[imval ⟨F, g9, h9, ⟨sq9, po9⟩, m9, b9⟩ ⟨P9, cp9⟩ ⟨Q9, cq9⟩ ⟨R9, cr9⟩, .int .i64 ey]) (by simp [results, Tryz.results17, go_sem, yy]) rfl ?_
        rw [Hr.out]
        exact ⟨⟨⟨P9, cp9⟩, ⟨Q9, cq9⟩, ⟨R9, cr9⟩, rfl, ⟨dw, mw⟩, fun g' h1 h2 => HO9.out g' (by omega) h2⟩, bw⟩
    · obtain ⟨sn, rfl⟩ := Int.eq_ofNat_of_zero_le (show 0 ≤ s by omega)
      have n128 : ((sn : Int) == 128) = false := beq_eq_false_iff_ne.2 h128
      rw [if_neg h128, Int.toNat_natCast] at HP
      have D1 := fun (W : World) (hW : Below wr.heap.size wr W) => show Calls Tryz.prog 16 #[.agg #[.string (bs E.data), .slice P1 E.cache.length cp1, .int .i64 E.fuse, .bool E.off, .slice Q1 E.bad.length cq1, .int .i64 g1, .int .i64 h1, .int .u64 sq1, .int .i64 po1, .slice R1 m1.length cr1, .bool b1], .int .i64 k, .int .i64 o, .string (bs (List.replicate sn 0))] W _ from r13_write ⟨E, g1, h1, ⟨sq1, po1⟩, m1, b1⟩ ⟨P1, cp1⟩ ⟨Q1, cq1⟩ ⟨R1, cr1⟩ W (hX.below hW) okX k o (List.replicate sn 0) (by unfold okInt; omega) (by unfold okInt; omega) (by rw [List.length_replicate]; omega)
      have hmk := fun (W : World) => Tryz.zmake sn (by omega) W
      have hst := fun (W : World) => Tryz.zstr sn W
      generalize Im.write ⟨E, g1, h1, ⟨sq1, po1⟩, m1, b1⟩ k o (List.replicate sn 0) = DN at *
      obtain ⟨⟨F, g9, h9, ⟨sq9, po9⟩, m9, b9⟩, ey⟩ := DN
      have Hn := hid HP
      clear HP okX h128
      go_upto_region 12 with fail
      have KX := fun (W : World) (hW : Below wr.heap.size wr W) => And.intro (blk11 (xr.below hW xr.lt)) (And.intro (cell_below hW hc.1) (And.intro (cell_below hW hc.2.1) (cell_below hW hc.2.2)))
      have s0 : Below wr.heap.size wr wr.drew := (Below.refl _ _).drew
      refine wp_region_late (S := fun W => Below wr.heap.size wr W) (late := fun i => i == 22) (by kernel_rfl) ?_
      generalize wr.drew = U0 at s0 ⊢
      simp only [List.size_toArray, List.length_cons, List.length_nil, Nat.reduceAdd, Array.replicate_succ, Array.replicate_zero, List.push_toArray, List.nil_append, List.cons_append]
      refine wpLate_take (i := 0) (oi := _) (v := .agg #[.string (bs E.data), .slice P1 E.cache.length cp1, .int .i64 E.fuse, .bool E.off, .slice Q1 E.bad.length cq1, .int .i64 g1, .int .i64 h1, .int .u64 sq1, .int .i64 po1, .slice R1 m1.length cr1, .bool b1]) (d := some 50) rfl rfl (by kernel_rfl) (by kernel_rfl) (by kernel_rfl) (by kernel_rfl) (fun _ _ _ h => h) rfl (fun W hW => by have h := KX W hW; go_simp) s0 ?_
      simp only [Act.put, List.setIfInBounds_toArray, List.set_cons_zero, List.set_cons_succ]
      refine wpLate_take0 (i := 1) (oi := _) (v := .slice (some ⟨gA, oA, none⟩) L.length c4) (d := some 51) rfl rfl (by kernel_rfl) (by kernel_rfl) (by kernel_rfl) (fun _ _ _ h => h) rfl (fun W => by first | rfl | go_simp) ?_
      simp only [Act.put, List.setIfInBounds_toArray, List.set_cons_zero, List.set_cons_succ]
      refine wpLate_take0 (i := 2) (oi := _) (v := .int .i64 (i : Int)) (d := some 52) rfl rfl (by kernel_rfl) (by kernel_rfl) (by kernel_rfl) (fun _ _ _ h => h) rfl (fun W => by first | rfl | go_simp) ?_
      simp only [Act.put, List.setIfInBounds_toArray, List.set_cons_zero, List.set_cons_succ]
      refine wpLate_take0 (i := 3) (oi := _) (v := .pointer (some ⟨gA, oA + i * 3, none⟩)) (d := some 53) rfl rfl (by kernel_rfl) (by kernel_rfl) (by kernel_rfl) (fun _ _ _ h => h) rfl (fun W => by first | rfl | go_simp) ?_
      simp only [Act.put, List.setIfInBounds_toArray, List.set_cons_zero, List.set_cons_succ]
      refine wpLate_take0 (i := 4) (oi := _) (v := .pointer (some ⟨gA, oA + i * 3, none⟩)) (d := some 54) rfl rfl (by kernel_rfl) (by kernel_rfl) (by kernel_rfl) (fun _ _ _ h => h) rfl (fun W => by first | rfl | go_simp) ?_
      simp only [Act.put, List.setIfInBounds_toArray, List.set_cons_zero, List.set_cons_succ]
      refine wpLate_take (i := 5) (oi := _) (v := .int .i64 k) (d := some 55) rfl rfl (by kernel_rfl) (by kernel_rfl) (by kernel_rfl) (by kernel_rfl) (fun _ _ _ h => h) rfl (fun W hW => by have h := KX W hW; go_simp) s0 ?_
      simp only [Act.put, List.setIfInBounds_toArray, List.set_cons_zero, List.set_cons_succ]
      refine wpLate_take0 (i := 6) (oi := _) (v := .slice (some ⟨gA, oA, none⟩) L.length c4) (d := some 56) rfl rfl (by kernel_rfl) (by kernel_rfl) (by kernel_rfl) (fun _ _ _ h => h) rfl (fun W => by first | rfl | go_simp) ?_
      simp only [Act.put, List.setIfInBounds_toArray, List.set_cons_zero, List.set_cons_succ]
      refine wpLate_take0 (i := 7) (oi := _) (v := .int .i64 (i : Int)) (d := some 57) rfl rfl (by kernel_rfl) (by kernel_rfl) (by kernel_rfl) (fun _ _ _ h => h) rfl (fun W => by first | rfl | go_simp) ?_
      simp only [Act.put, List.setIfInBounds_toArray, List.set_cons_zero, List.set_cons_succ]
      refine wpLate_take0 (i := 8) (oi := _) (v := .pointer (some ⟨gA, oA + i * 3, none⟩)) (d := some 58) rfl rfl (by kernel_rfl) (by kernel_rfl) (by kernel_rfl) (fun _ _ _ h => h) rfl (fun W => by first | rfl | go_simp) ?_
      simp only [Act.put, List.setIfInBounds_toArray, List.set_cons_zero, List.set_cons_succ]
      refine wpLate_take0 (i := 9) (oi := _) (v := .pointer (some ⟨gA, oA + i * 3 + 1, none⟩)) (d := some 59) rfl rfl (by kernel_rfl) (by kernel_rfl) (by kernel_rfl) (fun _ _ _ h => h) rfl (fun W => by first | rfl | go_simp) ?_
      simp only [Act.put, List.setIfInBounds_toArray, List.set_cons_zero, List.set_cons_succ]
      refine wpLate_take (i := 10) (oi := _) (v := .int .i64 o) (d := some 60) rfl rfl (by kernel_rfl) (by kernel_rfl) (by kernel_rfl) (by kernel_rfl) (fun _ _ _ h => h) rfl (fun W hW => by have h := KX W hW; go_simp) s0 ?_
      simp only [Act.put, List.setIfInBounds_toArray, List.set_cons_zero, List.set_cons_succ]
      refine wpLate_take0 (i := 11) (oi := _) (v := .slice (some ⟨gA, oA, none⟩) L.length c4) (d := some 61) rfl rfl (by kernel_rfl) (by kernel_rfl) (by kernel_rfl) (fun _ _ _ h => h) rfl (fun W => by first | rfl | go_simp) ?_
      simp only [Act.put, List.setIfInBounds_toArray, List.set_cons_zero, List.set_cons_succ]
      refine wpLate_take0 (i := 12) (oi := _) (v := .int .i64 (i : Int)) (d := some 62) rfl rfl (by kernel_rfl) (by kernel_rfl) (by kernel_rfl) (fun _ _ _ h => h) rfl (fun W => by first | rfl | go_simp) ?_
      simp only [Act.put, List.setIfInBounds_toArray, List.set_cons_zero, List.set_cons_succ]
      refine wpLate_take0 (i := 13) (oi := _) (v := .pointer (some ⟨gA, oA + i * 3, none⟩)) (d := some 63) rfl rfl (by kernel_rfl) (by kernel_rfl) (by kernel_rfl) (fun _ _ _ h => h) rfl (fun W => by first | rfl | go_simp) ?_
      simp only [Act.put, List.setIfInBounds_toArray, List.set_cons_zero, List.set_cons_succ]
      refine wpLate_take0 (i := 14) (oi := _) (v := .pointer (some ⟨gA, oA + i * 3 + 2, none⟩)) (d := some 64) rfl rfl (by kernel_rfl) (by kernel_rfl) (by kernel_rfl) (fun _ _ _ h => h) rfl (fun W => by first | rfl | go_simp) ?_
      simp only [Act.put, List.setIfInBounds_toArray, List.set_cons_zero, List.set_cons_succ]
      refine wpLate_take (i := 15) (oi := _) (v := .int .i64 (sn : Int)) (d := some 65) rfl rfl (by kernel_rfl) (by kernel_rfl) (by kernel_rfl) (by kernel_rfl) (fun _ _ _ h => h) rfl (fun W hW => by have h := KX W hW; go_simp) s0 ?_
      simp only [Act.put, List.setIfInBounds_toArray, List.set_cons_zero, List.set_cons_succ]
      refine wpLate_one (i := 16) (by kernel_rfl) rfl rfl (fun K' hK => ?_)
      refine oper_ran (v := .slice (some ⟨U0.heap.size, 0, none⟩) sn sn) (w' := U0.alloc (.cells (madeCells #[.int .u8 0] sn) 5)) (by have h := hmk U0; go_simp) ?_
      show K' (Act.put _ (some 66) _) _
      have s1 := s0.alloc s0.size (.cells (madeCells #[.int .u8 0] sn) 5)
      have hcv := hst U0
      refine hK _ _ (fun _ _ => s1) ?_
      generalize U0.alloc (.cells (madeCells #[.int .u8 0] sn) 5) = U1 at s1 hcv ⊢
      generalize U0.heap.size = gz at hcv ⊢
      simp only [Act.put, List.setIfInBounds_toArray, List.set_cons_zero, List.set_cons_succ]
      refine wpLate_one (i := 17) (by kernel_rfl) rfl rfl (fun K' hK => ?_)
      refine oper_ran (v := .string (bs (List.replicate sn 0))) (w' := U1) (by go_simp) ?_
      show K' (Act.put _ (some 67) _) _
      refine hK _ _ (fun _ h => h) ?_
      simp only [Act.put, List.setIfInBounds_toArray, List.set_cons_zero, List.set_cons_succ]
      refine wpLate_one (i := 18) (by kernel_rfl) rfl rfl (fun K' hK => ?_)
      refine oper_enter' (f := 16) (args := #[.agg #[.string (bs E.data), .slice P1 E.cache.length cp1, .int .i64 E.fuse, .bool E.off, .slice Q1 E.bad.length cq1, .int .i64 g1, .int .i64 h1, .int .u64 sq1, .int .i64 po1, .slice R1 m1.length cr1, .bool b1], .int .i64 k, .int .i64 o, .string (bs (List.replicate sn 0))]) (w' := U1) (by go_simp) ((D1 U1 s1).mono ?_)
      rintro e U2 ⟨⟨⟨P9, cp9⟩, ⟨Q9, cq9⟩, ⟨R9, cr9⟩, rfl, iz9, oz9⟩, hb1⟩
      refine ⟨_, rfl, ?_⟩
      show K' (Act.put _ (some 68) _) _
      have s2 := s1.trans (hb1.mono s1.size)
      have xz := xr.below s2 xr.lt
      have rz := rr.below s2 rr.lt
      have cz9 := hC.below s2
      have bz9 := bt b s2
      have hsz := s1.size
      have oF : ImOff w.heap.size ⟨F, g9, h9, ⟨sq9, po9⟩, m9, b9⟩ ⟨P9, cp9⟩ ⟨Q9, cq9⟩ ⟨R9, cr9⟩ := oz9 w.heap.size (by omega) ox
      have O9 : ∀ g', g' < w.heap.size + 2 → ImOff g' ⟨D, g, h, ⟨seq, pos⟩, maps, false⟩ ⟨A1, a1⟩ ⟨A2, a2⟩ ⟨A3, a3⟩ → ImOff g' ⟨F, g9, h9, ⟨sq9, po9⟩, m9, b9⟩ ⟨P9, cp9⟩ ⟨Q9, cq9⟩ ⟨R9, cr9⟩ := fun g' h1 h2 => oz9 g' (by omega) (HO.out g' h1 h2)
      refine hK _ _ (fun _ _ => s2) ?_
      simp only [Act.put, List.setIfInBounds_toArray, List.set_cons_zero, List.set_cons_succ]
      refine wpLate_take0 (i := 19) (oi := _) (v := .tuple #[.agg #[.string (bs F.data), .slice P9 F.cache.length cp9, .int .i64 F.fuse, .bool F.off, .slice Q9 F.bad.length cq9, .int .i64 g9, .int .i64 h9, .int .u64 sq9, .int .i64 po9, .slice R9 m9.length cr9, .bool b9], .int .i64 ey]) (d := some 49) rfl rfl (by kernel_rfl) (by kernel_rfl) (by kernel_rfl) (fun _ _ _ h => h) rfl (fun W => by first | rfl | go_simp) ?_
      simp only [Act.put, List.setIfInBounds_toArray, List.set_cons_zero, List.set_cons_succ]
      refine wpLate_take0 (i := 20) (oi := _) (v := .agg #[.string (bs F.data), .slice P9 F.cache.length cp9, .int .i64 F.fuse, .bool F.off, .slice Q9 F.bad.length cq9, .int .i64 g9, .int .i64 h9, .int .u64 sq9, .int .i64 po9, .slice R9 m9.length cr9, .bool b9]) (d := some 69) rfl rfl (by kernel_rfl) (by kernel_rfl) (by kernel_rfl) (fun _ _ _ h => h) rfl (fun W => by first | rfl | go_simp) ?_
      simp only [Act.put, List.setIfInBounds_toArray, List.set_cons_zero, List.set_cons_succ]
      refine wpLate_take0 (i := 21) (oi := _) (v := .int .i64 ey) (d := some 70) rfl rfl (by kernel_rfl) (by kernel_rfl) (by kernel_rfl) (fun _ _ _ h => h) rfl (fun W => by first | rfl | go_simp) ?_
      simp only [Act.put, List.setIfInBounds_toArray, List.set_cons_zero, List.set_cons_succ]
      refine wpLate_one (i := 22) (by kernel_rfl) rfl rfl (fun K' hK => ?_)
      refine oper_skip (w' := (((((((((((U2.setCell ⟨w.heap.size, 0, none⟩ (.string (bs F.data))).setCell ⟨w.heap.size, 1, none⟩ (.slice P9 F.cache.length cp9)).setCell ⟨w.heap.size, 2, none⟩ (.int .i64 F.fuse)).setCell ⟨w.heap.size, 3, none⟩ (.bool F.off)).setCell ⟨w.heap.size, 4, none⟩ (.slice Q9 F.bad.length cq9)).setCell ⟨w.heap.size, 5, none⟩ (.int .i64 g9)).setCell ⟨w.heap.size, 6, none⟩ (.int .i64 h9)).setCell ⟨w.heap.size, 7, none⟩ (.int .u64 sq9)).setCell ⟨w.heap.size, 8, none⟩ (.int .i64 po9)).setCell ⟨w.heap.size, 9, none⟩ (.slice R9 m9.length cr9)).setCell ⟨w.heap.size, 10, none⟩ (.bool b9))) (by have k0 := blk11 xz; have f0 := xz.frozen; have z1 := xz.set 0 (.string (bs F.data)); simp only [List.setIfInBounds_toArray, List.set_cons_zero] at z1; have f1 := z1.frozen; have k1 := blk11 z1; have z2 := z1.set 1 (.slice P9 F.cache.length cp9); simp only [List.setIfInBounds_toArray, List.set_cons_zero, List.set_cons_succ] at z2; have f2 := z2.frozen; have k2 := blk11 z2; have z3 := z2.set 2 (.int .i64 F.fuse); simp only [List.setIfInBounds_toArray, List.set_cons_zero, List.set_cons_succ] at z3; have f3 := z3.frozen; have k3 := blk11 z3; have z4 := z3.set 3 (.bool F.off); simp only [List.setIfInBounds_toArray, List.set_cons_zero, List.set_cons_succ] at z4; have f4 := z4.frozen; have k4 := blk11 z4; have z5 := z4.set 4 (.slice Q9 F.bad.length cq9); simp only [List.setIfInBounds_toArray, List.set_cons_zero, List.set_cons_succ] at z5; have f5 := z5.frozen; have k5 := blk11 z5; have z6 := z5.set 5 (.int .i64 g9); simp only [List.setIfInBounds_toArray, List.set_cons_zero, List.set_cons_succ] at z6; have f6 := z6.frozen; have k6 := blk11 z6; have z7 := z6.set 6 (.int .i64 h9); simp only [List.setIfInBounds_toArray, List.set_cons_zero, List.set_cons_succ] at z7; have f7 := z7.frozen; have k7 := blk11 z7; have z8 := z7.set 7 (.int .u64 sq9); simp only [List.setIfInBounds_toArray, List.set_cons_zero, List.set_cons_succ] at z8; have f8 := z8.frozen; have k8 := blk11 z8; have z9 := z8.set 8 (.int .i64 po9); simp only [List.setIfInBounds_toArray, List.set_cons_zero, List.set_cons_succ] at z9; have f9 := z9.frozen; have k9 := blk11 z9; have z10 := z9.set 9 (.slice R9 m9.length cr9); simp only [List.setIfInBounds_toArray, List.set_cons_zero, List.set_cons_succ] at z10; have f10 := z10.frozen; have k10 := blk11 z10; go_simp) ?_
      show K' (Act.put _ none _) _
      have x9 := blk_set11 xz (.string (bs F.data)) (.slice P9 F.cache.length cp9) (.int .i64 F.fuse) (.bool F.off) (.slice Q9 F.bad.length cq9) (.int .i64 g9) (.int .i64 h9) (.int .u64 sq9) (.int .i64 po9) (.slice R9 m9.length cr9) (.bool b9)
      have bw9 : Below w.heap.size w ((((((((((((U2.setCell ⟨w.heap.size, 0, none⟩ (.string (bs F.data))).setCell ⟨w.heap.size, 1, none⟩ (.slice P9 F.cache.length cp9)).setCell ⟨w.heap.size, 2, none⟩ (.int .i64 F.fuse)).setCell ⟨w.heap.size, 3, none⟩ (.bool F.off)).setCell ⟨w.heap.size, 4, none⟩ (.slice Q9 F.bad.length cq9)).setCell ⟨w.heap.size, 5, none⟩ (.int .i64 g9)).setCell ⟨w.heap.size, 6, none⟩ (.int .i64 h9)).setCell ⟨w.heap.size, 7, none⟩ (.int .u64 sq9)).setCell ⟨w.heap.size, 8, none⟩ (.int .i64 po9)).setCell ⟨w.heap.size, 9, none⟩ (.slice R9 m9.length cr9)).setCell ⟨w.heap.size, 10, none⟩ (.bool b9))) := keep11 (fun W o v h => h.setCell (p := ⟨w.heap.size, o, none⟩) (Nat.le_refl _) v) bz9 (.string (bs F.data)) (.slice P9 F.cache.length cp9) (.int .i64 F.fuse) (.bool F.off) (.slice Q9 F.bad.length cq9) (.int .i64 g9) (.int .i64 h9) (.int .u64 sq9) (.int .i64 po9) (.slice R9 m9.length cr9) (.bool b9)
      have i9 : IsIm ((((((((((((U2.setCell ⟨w.heap.size, 0, none⟩ (.string (bs F.data))).setCell ⟨w.heap.size, 1, none⟩ (.slice P9 F.cache.length cp9)).setCell ⟨w.heap.size, 2, none⟩ (.int .i64 F.fuse)).setCell ⟨w.heap.size, 3, none⟩ (.bool F.off)).setCell ⟨w.heap.size, 4, none⟩ (.slice Q9 F.bad.length cq9)).setCell ⟨w.heap.size, 5, none⟩ (.int .i64 g9)).setCell ⟨w.heap.size, 6, none⟩ (.int .i64 h9)).setCell ⟨w.heap.size, 7, none⟩ (.int .u64 sq9)).setCell ⟨w.heap.size, 8, none⟩ (.int .i64 po9)).setCell ⟨w.heap.size, 9, none⟩ (.slice R9 m9.length cr9)).setCell ⟨w.heap.size, 10, none⟩ (.bool b9))) ⟨F, g9, h9, ⟨sq9, po9⟩, m9, b9⟩ ⟨P9, cp9⟩ ⟨Q9, cq9⟩ ⟨R9, cr9⟩ := keep11 (P := fun W => IsIm W ⟨F, g9, h9, ⟨sq9, po9⟩, m9, b9⟩ ⟨P9, cp9⟩ ⟨Q9, cq9⟩ ⟨R9, cr9⟩) (fun W o v h => h.off (a := ⟨w.heap.size, o, none⟩) oF v) iz9 (.string (bs F.data)) (.slice P9 F.cache.length cp9) (.int .i64 F.fuse) (.bool F.off) (.slice Q9 F.bad.length cq9) (.int .i64 g9) (.int .i64 h9) (.int .u64 sq9) (.int .i64 po9) (.slice R9 m9.length cr9) (.bool b9)
      have r9 : Blk ((((((((((((U2.setCell ⟨w.heap.size, 0, none⟩ (.string (bs F.data))).setCell ⟨w.heap.size, 1, none⟩ (.slice P9 F.cache.length cp9)).setCell ⟨w.heap.size, 2, none⟩ (.int .i64 F.fuse)).setCell ⟨w.heap.size, 3, none⟩ (.bool F.off)).setCell ⟨w.heap.size, 4, none⟩ (.slice Q9 F.bad.length cq9)).setCell ⟨w.heap.size, 5, none⟩ (.int .i64 g9)).setCell ⟨w.heap.size, 6, none⟩ (.int .i64 h9)).setCell ⟨w.heap.size, 7, none⟩ (.int .u64 sq9)).setCell ⟨w.heap.size, 8, none⟩ (.int .i64 po9)).setCell ⟨w.heap.size, 9, none⟩ (.slice R9 m9.length cr9)).setCell ⟨w.heap.size, 10, none⟩ (.bool b9))) (w.heap.size + 1) 33 #[.string (bs []), .slice none 0 0, .int .i64 0, .bool false, .slice none 0 0, .int .i64 0, .int .i64 0, .int .u64 0, .int .i64 0, .slice none 0 0, .bool false] := keep11 (P := fun W => Blk W (w.heap.size + 1) 33 #[.string (bs []), .slice none 0 0, .int .i64 0, .bool false, .slice none 0 0, .int .i64 0, .int .i64 0, .int .u64 0, .int .i64 0, .slice none 0 0, .bool false]) (fun W o v h => h.other (a := ⟨w.heap.size, o, none⟩) (by show ¬ w.heap.size + 1 = w.heap.size; omega) v) rz (.string (bs F.data)) (.slice P9 F.cache.length cp9) (.int .i64 F.fuse) (.bool F.off) (.slice Q9 F.bad.length cq9) (.int .i64 g9) (.int .i64 h9) (.int .u64 sq9) (.int .i64 po9) (.slice R9 m9.length cr9) (.bool b9)
      have C9 : Cells ((((((((((((U2.setCell ⟨w.heap.size, 0, none⟩ (.string (bs F.data))).setCell ⟨w.heap.size, 1, none⟩ (.slice P9 F.cache.length cp9)).setCell ⟨w.heap.size, 2, none⟩ (.int .i64 F.fuse)).setCell ⟨w.heap.size, 3, none⟩ (.bool F.off)).setCell ⟨w.heap.size, 4, none⟩ (.slice Q9 F.bad.length cq9)).setCell ⟨w.heap.size, 5, none⟩ (.int .i64 g9)).setCell ⟨w.heap.size, 6, none⟩ (.int .i64 h9)).setCell ⟨w.heap.size, 7, none⟩ (.int .u64 sq9)).setCell ⟨w.heap.size, 8, none⟩ (.int .i64 po9)).setCell ⟨w.heap.size, 9, none⟩ (.slice R9 m9.length cr9)).setCell ⟨w.heap.size, 10, none⟩ (.bool b9))) (some ⟨gA, oA, none⟩) (cutCells L) := keep11 (P := fun W => Cells W (some ⟨gA, oA, none⟩) (cutCells L)) (fun W o v h => h.setCell (p := ⟨w.heap.size, o, none⟩) hne v) cz9 (.string (bs F.data)) (.slice P9 F.cache.length cp9) (.int .i64 F.fuse) (.bool F.off) (.slice Q9 F.bad.length cq9) (.int .i64 g9) (.int .i64 h9) (.int .u64 sq9) (.int .i64 po9) (.slice R9 m9.length cr9) (.bool b9)
      refine hK _ _ (fun h => absurd h (by decide)) ?_
      generalize (((((((((((U2.setCell ⟨w.heap.size, 0, none⟩ (.string (bs F.data))).setCell ⟨w.heap.size, 1, none⟩ (.slice P9 F.cache.length cp9)).setCell ⟨w.heap.size, 2, none⟩ (.int .i64 F.fuse)).setCell ⟨w.heap.size, 3, none⟩ (.bool F.off)).setCell ⟨w.heap.size, 4, none⟩ (.slice Q9 F.bad.length cq9)).setCell ⟨w.heap.size, 5, none⟩ (.int .i64 g9)).setCell ⟨w.heap.size, 6, none⟩ (.int .i64 h9)).setCell ⟨w.heap.size, 7, none⟩ (.int .u64 sq9)).setCell ⟨w.heap.size, 8, none⟩ (.int .i64 po9)).setCell ⟨w.heap.size, 9, none⟩ (.slice R9 m9.length cr9)).setCell ⟨w.heap.size, 10, none⟩ (.bool b9)) = Uz at x9 bw9 i9 r9 C9 ⊢
      try simp only [Act.put, List.setIfInBounds_toArray, List.set_cons_zero, List.set_cons_succ]
      refine wpLate_take0 (i := 23) (oi := _) (v := .int .i64 ey) (d := some 12) rfl rfl (by kernel_rfl) (by kernel_rfl) (by kernel_rfl) (fun _ _ _ h => h) rfl (fun W => by first | rfl | go_simp) ?_
      simp only [Act.put, List.setIfInBounds_toArray, List.set_cons_zero, List.set_cons_succ]
      refine wpLate_done (by kernel_rfl) ?_ _
      clear KX D1 s0 xz rz cz9 bz9 iz9 oz9 hsz xk rk xkf rkf xr rr
      have i9d := i9.d
      have i9m := i9.m
      have oR := O9 (w.heap.size + 1) (by omega) or0
      have oRd := oR.1
      have oRm := oR.2
      clear i9 oR
      replace x := x9
      replace r := r9
      replace b := bw9
      clear x9 r9 bw9
      have xk := blk11 x
      have xkf := x.frozen
      have rk := blk11 r
      have rkf := r.frozen
      by_cases hy : ey = 0
      · subst hy
        have HO9 := hid O9
        clear O9 oF oRd oRm
        go_wp2_with fail
        go_roundw
        case rel => exact ⟨i + 1, ⟨F, g9, h9, ⟨sq9, po9⟩, m9, b9⟩, ⟨P9, cp9⟩, ⟨Q9, cq9⟩, ⟨R9, cr9⟩, by omega, by go_num, Hn, x, r, ⟨i9d, i9m⟩, HO9, C9, b⟩
        case measure => simp [intOf]; omega
      · have n1 : (ey != 0) = true := bne_iff_ne.2 hy
        have Hr := hid (show FIN = (⟨F, g9, h9, ⟨sq9, po9⟩, m9, b9⟩, ey) by rw [HS.out i hlt (by rw [Hn.out]; exact hy), Hn.out])
        clear Hn hy
        have HO9 := hid O9
        clear O9
        go_wp2_with fail
        have b_1 := below11 b (g := w.heap.size + 1) (by omega) (.string (bs F.data)) (.slice P9 F.cache.length cp9) (.int .i64 F.fuse) (.bool F.off) (.slice Q9 F.bad.length cq9) (.int .i64 g9) (.int .i64 h9) (.int .u64 sq9) (.int .i64 po9) (.slice R9 m9.length cr9) (.bool b9)
        have i9d_2 := i9d.off11 (g := w.heap.size + 1) (by first | assumption | omega) (.string (bs F.data)) (.slice P9 F.cache.length cp9) (.int .i64 F.fuse) (.bool F.off) (.slice Q9 F.bad.length cq9) (.int .i64 g9) (.int .i64 h9) (.int .u64 sq9) (.int .i64 po9) (.slice R9 m9.length cr9) (.bool b9)
        have i9m_3 := i9m.off11 (g := w.heap.size + 1) (by first | assumption | omega) (.string (bs F.data)) (.slice P9 F.cache.length cp9) (.int .i64 F.fuse) (.bool F.off) (.slice Q9 F.bad.length cq9) (.int .i64 g9) (.int .i64 h9) (.int .u64 sq9) (.int .i64 po9) (.slice R9 m9.length cr9) (.bool b9)
        have x_4 := blk_off11 x (g := w.heap.size + 1) (by omega) (.string (bs F.data)) (.slice P9 F.cache.length cp9) (.int .i64 F.fuse) (.bool F.off) (.slice Q9 F.bad.length cq9) (.int .i64 g9) (.int .i64 h9) (.int .u64 sq9) (.int .i64 po9) (.slice R9 m9.length cr9) (.bool b9)
        have xk_4 := blk11 x_4
        have xkf_4 := x_4.frozen
        have r_5 := blk_set11 r (.string (bs F.data)) (.slice P9 F.cache.length cp9) (.int .i64 F.fuse) (.bool F.off) (.slice Q9 F.bad.length cq9) (.int .i64 g9) (.int .i64 h9) (.int .u64 sq9) (.int .i64 po9) (.slice R9 m9.length cr9) (.bool b9)
        have rk_5 := blk11 r_5
        have rkf_5 := r_5.frozen
        have yy := blk11 r_5
        have bw := b_1
        have dw := i9d_2
        have mw := i9m_3
        go_wp2_with fail
        refine bodyPost_ret (v := .tuple #[imval ⟨F, g9, h9, ⟨sq9, po9⟩, m9, b9⟩ ⟨P9, cp9⟩ ⟨Q9, cq9⟩ ⟨R9, cr9⟩, .int .i64 ey]) (by simp [results, Tryz.results17, go_sem, yy]) rfl ?_
        rw [Hr.out]
        exact ⟨⟨⟨P9, cp9⟩, ⟨Q9, cq9⟩, ⟨R9, cr9⟩, rfl, ⟨dw, mw⟩, fun g' h1 h2 => HO9.out g' (by omega) h2⟩, bw⟩
  · obtain rfl : i = L.length := by omega
    have Hr := hid (show FIN = (⟨E, g1, h1, ⟨sq1, po1⟩, m1, b1⟩, 0) from HF.out.trans HE.out)
    clear HN HOk Hap HS HE HF HB okX
    have or2 := or1.1
    have or3 := or1.2
    have xr := x
    have b_1 := below11 b (g := w.heap.size + 1) (by omega) (.string (bs E.data)) (.slice P1 E.cache.length cp1) (.int .i64 E.fuse) (.bool E.off) (.slice Q1 E.bad.length cq1) (.int .i64 g1) (.int .i64 h1) (.int .u64 sq1) (.int .i64 po1) (.slice R1 m1.length cr1) (.bool b1)
    have ds_2 := ds.off11 (g := w.heap.size + 1) (by first | assumption | omega) (.string (bs E.data)) (.slice P1 E.cache.length cp1) (.int .i64 E.fuse) (.bool E.off) (.slice Q1 E.bad.length cq1) (.int .i64 g1) (.int .i64 h1) (.int .u64 sq1) (.int .i64 po1) (.slice R1 m1.length cr1) (.bool b1)
    have ms_3 := ms.off11 (g := w.heap.size + 1) (by first | assumption | omega) (.string (bs E.data)) (.slice P1 E.cache.length cp1) (.int .i64 E.fuse) (.bool E.off) (.slice Q1 E.bad.length cq1) (.int .i64 g1) (.int .i64 h1) (.int .u64 sq1) (.int .i64 po1) (.slice R1 m1.length cr1) (.bool b1)
    have x_4 := blk_off11 x (g := w.heap.size + 1) (by omega) (.string (bs E.data)) (.slice P1 E.cache.length cp1) (.int .i64 E.fuse) (.bool E.off) (.slice Q1 E.bad.length cq1) (.int .i64 g1) (.int .i64 h1) (.int .u64 sq1) (.int .i64 po1) (.slice R1 m1.length cr1) (.bool b1)
    have xk_4 := blk11 x_4
    have xkf_4 := x_4.frozen
    have r_5 := blk_set11 r (.string (bs E.data)) (.slice P1 E.cache.length cp1) (.int .i64 E.fuse) (.bool E.off) (.slice Q1 E.bad.length cq1) (.int .i64 g1) (.int .i64 h1) (.int .u64 sq1) (.int .i64 po1) (.slice R1 m1.length cr1) (.bool b1)
    have rk_5 := blk11 r_5
    have rkf_5 := r_5.frozen
    have yy := blk11 r_5
    have bw := b_1
    have dw := ds_2
    have mw := ms_3
    go_wp2_with fail
    refine bodyPost_ret (v := .tuple #[imval ⟨E, g1, h1, ⟨sq1, po1⟩, m1, b1⟩ ⟨P1, cp1⟩ ⟨Q1, cq1⟩ ⟨R1, cr1⟩, .int .i64 0]) (by simp [results, Tryz.results17, go_sem, yy]) rfl ?_
    rw [Hr.out]
    exact ⟨⟨⟨P1, cp1⟩, ⟨Q1, cq1⟩, ⟨R1, cr1⟩, rfl, ⟨dw, mw⟩, fun g' h1 h2 => HO.out g' (by omega) h2⟩, bw⟩
set_option maxRecDepth 100000 in
set_option maxHeartbeats 4000000 in
theorem r14_clear (x : Im) (p q r : Pl) (w : World) (hI : IsIm w x p q r) (ok : x.Ok) (a n : Int) (ha : okInt a) (hn : okInt n) :
 Calls Tryz.prog 17 #[imval x p q r, .int .i64 a, .int .i64 n, .bool true] w fun e w' => RetIm w.heap.size x p q r (x.clear a n true) e w' ∧ Below w.heap.size w w' := by
 by_cases hin : x.br = false ∧ Im.within x.g a n = true
 · exact r14_clear_in x p q r w hI ok hin.1 a n ha hn hin.2
 have hwi := fun (W : World) => r14_within x.g x.h ok.g a n ha hn W
 have or9 := hI.apart (g := w.heap.size + 1) (by omega)
 have or8 := or9
 obtain ⟨hd, hm⟩ := hI
 clear ok
 obtain ⟨D, g, h, ⟨seq, pos⟩, maps, br⟩ := x
 simp only at hd hm or9 or8 hin hwi
 obtain ⟨A1, a1⟩ := p
 obtain ⟨A2, a2⟩ := q
 obtain ⟨A3, a3⟩ := r
 cases br with
 | true =>
  have Hr := hid (show Im.clear ⟨D, g, h, ⟨seq, pos⟩, maps, true⟩ a n true = (⟨D, g, h, ⟨seq, pos⟩, maps, true⟩, 24) from if_pos rfl)
  clear hin hwi or8
  have hB := Below.refl w.heap.size w
  clear or9
  have x := Blk.new w 33 #[.string (bs D.data), .slice A1 D.cache.length a1, .int .i64 D.fuse, .bool D.off, .slice A2 D.bad.length a2, .int .i64 g, .int .i64 h, .int .u64 seq, .int .i64 pos, .slice A3 maps.length a3, .bool true]
  have xk := blk11 x
  have hB_1 := hB.alloc hB.size (.cells #[.string (bs D.data), .slice A1 D.cache.length a1, .int .i64 D.fuse, .bool D.off, .slice A2 D.bad.length a2, .int .i64 g, .int .i64 h, .int .u64 seq, .int .i64 pos, .slice A3 maps.length a3, .bool true] 33)
  have hd_2 := hd.below ((Below.refl _ _).alloc (Nat.le_refl _) (.cells #[.string (bs D.data), .slice A1 D.cache.length a1, .int .i64 D.fuse, .bool D.off, .slice A2 D.bad.length a2, .int .i64 g, .int .i64 h, .int .u64 seq, .int .i64 pos, .slice A3 maps.length a3, .bool true] 33))
  have hm_3 := hm.below ((Below.refl _ _).alloc (Nat.le_refl _) (.cells #[.string (bs D.data), .slice A1 D.cache.length a1, .int .i64 D.fuse, .bool D.off, .slice A2 D.bad.length a2, .int .i64 g, .int .i64 h, .int .u64 seq, .int .i64 pos, .slice A3 maps.length a3, .bool true] 33))
  have r := Blk.new (w.alloc (.cells #[.string (bs D.data), .slice A1 D.cache.length a1, .int .i64 D.fuse, .bool D.off, .slice A2 D.bad.length a2, .int .i64 g, .int .i64 h, .int .u64 seq, .int .i64 pos, .slice A3 maps.length a3, .bool true] 33)) 33 #[.string (bs D.data), .slice A1 D.cache.length a1, .int .i64 D.fuse, .bool D.off, .slice A2 D.bad.length a2, .int .i64 g, .int .i64 h, .int .u64 seq, .int .i64 pos, .slice A3 maps.length a3, .bool true]
  simp only [World.size_alloc] at r
  have rk := blk11 r
  have hB_4 := hB_1.alloc hB_1.size (.cells #[.string (bs D.data), .slice A1 D.cache.length a1, .int .i64 D.fuse, .bool D.off, .slice A2 D.bad.length a2, .int .i64 g, .int .i64 h, .int .u64 seq, .int .i64 pos, .slice A3 maps.length a3, .bool true] 33)
  have hd_5 := hd_2.below ((Below.refl _ _).alloc (Nat.le_refl _) (.cells #[.string (bs D.data), .slice A1 D.cache.length a1, .int .i64 D.fuse, .bool D.off, .slice A2 D.bad.length a2, .int .i64 g, .int .i64 h, .int .u64 seq, .int .i64 pos, .slice A3 maps.length a3, .bool true] 33))
  have hm_6 := hm_3.below ((Below.refl _ _).alloc (Nat.le_refl _) (.cells #[.string (bs D.data), .slice A1 D.cache.length a1, .int .i64 D.fuse, .bool D.off, .slice A2 D.bad.length a2, .int .i64 g, .int .i64 h, .int .u64 seq, .int .i64 pos, .slice A3 maps.length a3, .bool true] 33))
  have x_7 := x.alloc (.cells #[.string (bs D.data), .slice A1 D.cache.length a1, .int .i64 D.fuse, .bool D.off, .slice A2 D.bad.length a2, .int .i64 g, .int .i64 h, .int .u64 seq, .int .i64 pos, .slice A3 maps.length a3, .bool true] 33)
  have xk_7 := blk11 x_7
  have yy := rk
  have bw := hB_4
  have dw := hd_5
  have mw := hm_6
  go_enter Tryz.func17, Tryz.ntmps17
  go_wp2_with fail
  refine bodyPost_ret (v := .tuple #[imval ⟨D, g, h, ⟨seq, pos⟩, maps, true⟩ ⟨A1, a1⟩ ⟨A2, a2⟩ ⟨A3, a3⟩, .int .i64 24]) (by simp [results, Tryz.results17, go_sem, yy]) rfl ?_
  rw [Hr.out]
  exact ⟨⟨⟨A1, a1⟩, ⟨A2, a2⟩, ⟨A3, a3⟩, rfl, ⟨dw, mw⟩, fun _ _ h => h⟩, bw⟩
 | false =>
  have hw : Im.within g a n = false := by
   cases hw : Im.within g a n with
   | false => rfl
   | true => exact absurd ⟨rfl, hw⟩ hin
  rw [hw] at hwi
  have Hr := hid (show Im.clear ⟨D, g, h, ⟨seq, pos⟩, maps, false⟩ a n true = (⟨D, g, h, ⟨seq, pos⟩, maps, false⟩, 10) from (if_neg (by simp)).trans (if_pos hw))
  clear hin hw
  have hB := Below.refl w.heap.size w
  clear or9
  have x := Blk.new w 33 #[.string (bs D.data), .slice A1 D.cache.length a1, .int .i64 D.fuse, .bool D.off, .slice A2 D.bad.length a2, .int .i64 g, .int .i64 h, .int .u64 seq, .int .i64 pos, .slice A3 maps.length a3, .bool false]
  have xk := blk11 x
  have hB_1 := hB.alloc hB.size (.cells #[.string (bs D.data), .slice A1 D.cache.length a1, .int .i64 D.fuse, .bool D.off, .slice A2 D.bad.length a2, .int .i64 g, .int .i64 h, .int .u64 seq, .int .i64 pos, .slice A3 maps.length a3, .bool false] 33)
  have hd_2 := hd.below ((Below.refl _ _).alloc (Nat.le_refl _) (.cells #[.string (bs D.data), .slice A1 D.cache.length a1, .int .i64 D.fuse, .bool D.off, .slice A2 D.bad.length a2, .int .i64 g, .int .i64 h, .int .u64 seq, .int .i64 pos, .slice A3 maps.length a3, .bool false] 33))
  have hm_3 := hm.below ((Below.refl _ _).alloc (Nat.le_refl _) (.cells #[.string (bs D.data), .slice A1 D.cache.length a1, .int .i64 D.fuse, .bool D.off, .slice A2 D.bad.length a2, .int .i64 g, .int .i64 h, .int .u64 seq, .int .i64 pos, .slice A3 maps.length a3, .bool false] 33))
  have r := Blk.new (w.alloc (.cells #[.string (bs D.data), .slice A1 D.cache.length a1, .int .i64 D.fuse, .bool D.off, .slice A2 D.bad.length a2, .int .i64 g, .int .i64 h, .int .u64 seq, .int .i64 pos, .slice A3 maps.length a3, .bool false] 33)) 33 #[.string (bs []), .slice none 0 0, .int .i64 0, .bool false, .slice none 0 0, .int .i64 0, .int .i64 0, .int .u64 0, .int .i64 0, .slice none 0 0, .bool false]
  simp only [World.size_alloc] at r
  have rk := blk11 r
  have rkf := r.frozen
  have hB_4 := hB_1.alloc hB_1.size (.cells #[.string (bs []), .slice none 0 0, .int .i64 0, .bool false, .slice none 0 0, .int .i64 0, .int .i64 0, .int .u64 0, .int .i64 0, .slice none 0 0, .bool false] 33)
  have hd_5 := hd_2.below ((Below.refl _ _).alloc (Nat.le_refl _) (.cells #[.string (bs []), .slice none 0 0, .int .i64 0, .bool false, .slice none 0 0, .int .i64 0, .int .i64 0, .int .u64 0, .int .i64 0, .slice none 0 0, .bool false] 33))
  have hm_6 := hm_3.below ((Below.refl _ _).alloc (Nat.le_refl _) (.cells #[.string (bs []), .slice none 0 0, .int .i64 0, .bool false, .slice none 0 0, .int .i64 0, .int .i64 0, .int .u64 0, .int .i64 0, .slice none 0 0, .bool false] 33))
  have x_7 := x.alloc (.cells #[.string (bs []), .slice none 0 0, .int .i64 0, .bool false, .slice none 0 0, .int .i64 0, .int .i64 0, .int .u64 0, .int .i64 0, .slice none 0 0, .bool false] 33)
  have xk_7 := blk11 x_7
  go_enter Tryz.func17, Tryz.ntmps17
  go_wp2_with fail
  go_at_call 25
  refine ((hwi _)).mono ?_
  rintro e wa ⟨rfl, hba⟩
  replace hB := bt hB_4 hba
  replace hd := hd_5.below hba
  replace hm := hm_6.below hba
  replace x := x_7.below hba x_7.lt
  replace xk := blk11 x
  replace r := r.below hba r.lt
  replace rk := blk11 r
  replace rkf := r.frozen
  clear hB_1 hd_2 hm_3 hB_4 hd_5 hm_6 xk_7 x_7
  have or2 := or8.1
  have or3 := or8.2
  have hrl := r.lt
  have hB_8 := below11 hB (g := w.heap.size + 1) (by omega) (.string (bs D.data)) (.slice A1 D.cache.length a1) (.int .i64 D.fuse) (.bool D.off) (.slice A2 D.bad.length a2) (.int .i64 g) (.int .i64 h) (.int .u64 seq) (.int .i64 pos) (.slice A3 maps.length a3) (.bool false)
  have hd_9 := hd.off11 (g := w.heap.size + 1) (by first | assumption | omega) (.string (bs D.data)) (.slice A1 D.cache.length a1) (.int .i64 D.fuse) (.bool D.off) (.slice A2 D.bad.length a2) (.int .i64 g) (.int .i64 h) (.int .u64 seq) (.int .i64 pos) (.slice A3 maps.length a3) (.bool false)
  have hm_10 := hm.off11 (g := w.heap.size + 1) (by first | assumption | omega) (.string (bs D.data)) (.slice A1 D.cache.length a1) (.int .i64 D.fuse) (.bool D.off) (.slice A2 D.bad.length a2) (.int .i64 g) (.int .i64 h) (.int .u64 seq) (.int .i64 pos) (.slice A3 maps.length a3) (.bool false)
  have x_11 := blk_off11 x (g := w.heap.size + 1) (by omega) (.string (bs D.data)) (.slice A1 D.cache.length a1) (.int .i64 D.fuse) (.bool D.off) (.slice A2 D.bad.length a2) (.int .i64 g) (.int .i64 h) (.int .u64 seq) (.int .i64 pos) (.slice A3 maps.length a3) (.bool false)
  have xk_11 := blk11 x_11
  have r_12 := blk_set11 r (.string (bs D.data)) (.slice A1 D.cache.length a1) (.int .i64 D.fuse) (.bool D.off) (.slice A2 D.bad.length a2) (.int .i64 g) (.int .i64 h) (.int .u64 seq) (.int .i64 pos) (.slice A3 maps.length a3) (.bool false)
  have rk_12 := blk11 r_12
  have rkf_12 := r_12.frozen
  have yy := blk11 r_12
  have bw := hB_8
  have dw := hd_9
  have mw := hm_10
  go_wp2_with fail
  refine bodyPost_ret (v := .tuple #[imval ⟨D, g, h, ⟨seq, pos⟩, maps, false⟩ ⟨A1, a1⟩ ⟨A2, a2⟩ ⟨A3, a3⟩, .int .i64 10]) (by simp [results, Tryz.results17, go_sem, yy]) rfl ?_
  rw [Hr.out]
  exact ⟨⟨⟨A1, a1⟩, ⟨A2, a2⟩, ⟨A3, a3⟩, rfl, ⟨dw, mw⟩, fun _ _ h => h⟩, bw⟩
end Go.Proofs.YtlapjkbefkmohaaGreat
