/- Package ref13: a text laid into a cluster that is the guest's alone. -/
import Derived.Test.YtlapjkbefkmohaaGreatSdImg9
import Derived.Test.YtlapjkbefkmohaaGreatSdPlan8
import Derived.Deep.DeepCutAuto
set_option linter.unusedVariables false
namespace Go.Proofs.YtlapjkbefkmohaaGreat
open Go.RowKit Go.Shelf
attribute [local go_sem] bs_mk bs_append bs_extract bs_size bs_toList bs_get
/-- What the first n pieces leave. -/
def placeN (D : Dk) (k off : Int) (s : List UInt8) : Nat → Dk × Int
 | 0 => (D, 0)
 | 1 => Im.placeAt k off s 0 D
 | _ => Im.place D k off s
theorem placeN_next (D : Dk) (k off : Int) (s : List UInt8) {i : Nat} (hi : i < 2) (h : (placeN D k off s i).2 = 0) : placeN D k off s (i + 1) = Im.placeAt k off s i (placeN D k off s i).1 := by
 match i, hi with
 | 0, _ => rfl
 | 1, _ =>
  have h' : (Im.placeAt k off s 0 D).2 = 0 := h
  show Dk.next (Im.placeAt k off s 0 D) _ = _
  rw [Dk.next_zero h']
  rfl
theorem placeN_stop (D : Dk) (k off : Int) (s : List UInt8) {i : Nat} (hi : i < 2) (h : (placeN D k off s (i + 1)).2 ≠ 0) : Im.place D k off s = placeN D k off s (i + 1) := by
 match i, hi with
 | 0, _ =>
  have h' : (Im.placeAt k off s 0 D).2 ≠ 0 := h
  show Dk.next (Im.placeAt k off s 0 D) _ = Im.placeAt k off s 0 D
  rw [Dk.next, if_pos h']
 | 1, _ => rfl
theorem placeN_fit {D : Dk} (hD : D.fit = true) (k off : Int) (s : List UInt8) (i : Nat) : (placeN D k off s i).1.fit = true := by
 match i with
 | 0 => exact hD
 | 1 => exact Im.placeAt_fit hD k off s 0
 | i + 2 => exact Im.place_fit hD k off s
theorem placeAt_no {D : Dk} {k at9 : Int} {s : List UInt8} {off i m a b : Nat} (hm : 64 * i = m) (ha : max off m = a) (hb : min (off + s.length) (m + 64) = b) (h : b ≤ a) : Im.placeAt k off s i D = (D, 0) := by
 rw [Im.placeAt, if_pos (by omega)]
theorem placeAt_bad {D : Dk} {k at9 : Int} {s : List UInt8} {off i m a b : Nat} (hk : 96 + 2 * k = at9) (hm : 64 * i = m) (ha : max off m = a) (hb : min (off + s.length) (m + 64) = b) (h : ¬ b ≤ a) (he : (D.read (at9 + i)).2 ≠ 0) : Im.placeAt k off s i D = (D, (D.read (at9 + i)).2) := by
 rw [Im.placeAt, if_neg (by omega), hk, if_pos he]
theorem placeAt_ok {D : Dk} {k at9 : Int} {s : List UInt8} {off i m a b u v z : Nat} (hk : 96 + 2 * k = at9) (hm : 64 * i = m) (ha : max off m = a) (hb : min (off + s.length) (m + 64) = b) (h : ¬ b ≤ a) (hu : a - off = u) (hv : b - off = v) (hz : a - m = z) (he : (D.read (at9 + i)).2 = 0) :
 Im.placeAt k off s i D = D.write (at9 + i) (over (D.read (at9 + i)).1 z ((s.take v).drop u)) := by
 have e1 : (max (off : Int) ((i : Int) * 64) - (i : Int) * 64).toNat = z := by omega
 have e2 : (min ((off : Int) + (s.length : Int)) (((i : Int) + 1) * 64) - (off : Int)).toNat = v := by omega
 have e3 : (max (off : Int) ((i : Int) * 64) - (off : Int)).toNat = u := by omega
 rw [Im.placeAt, if_neg (by omega), hk, if_neg (by rw [he]; simp), e1, e2, e3]
set_option maxRecDepth 100000 in
set_option maxHeartbeats 4000000 in
theorem r13_place (x : Im) (p q r : Pl) (w : World) (hI : IsIm w x p q r) (hf : x.d.fit = true) (k off : Int) (s : List UInt8) (hk : 0 ≤ k ∧ k < 256) (ho : 0 ≤ off) (hs : off + s.length ≤ 128) :
 Calls Tryz.prog 34 #[imval x p q r, .int .i64 k, .int .i64 off, .string (bs s)] w fun e w' => RetIm w.heap.size x p q r ({ x with d := (Im.place x.d k off s).1 }, (Im.place x.d k off s).2) e w' ∧ Below w.heap.size w w' := by
 have hap := fun g (hg : w.heap.size ≤ g) => hI.apart hg
 have hat := fun W => r4_at k (by omega) (by omega) W
 obtain ⟨at9, h9⟩ : ∃ at9 : Int, 96 + 2 * k = at9 := ⟨_, rfl⟩
 have Hk9 := hid h9
 have h9b : -10000 ≤ at9 ∧ at9 ≤ 10000 := by omega
 rw [h9] at hat
 clear h9
 obtain ⟨D, g, h, ⟨seq, pos⟩, maps, br⟩ := x
 obtain ⟨hd, hm⟩ := hI
 simp only at hap hf hd hm
 have Hdk := hid (fun (W : World) (E : Dk) (P Q : Pl) (hD : IsDk W E P Q) (hE : E.fit = true) (a : Int) => r1_read E P Q W hD a (Dk.fit_parts hE).2.2.1)
 have Hwr := hid (fun (W : World) (E : Dk) (P Q : Pl) (hD : IsDk W E P Q) (a : Int) (ha : -9223372036854775808 ≤ a ∧ a ≤ 9223372036854775807) (T : List UInt8) (hT : T.length ≤ 9223372036854775807) => r1_write_n E P Q W hD a ha T hT)
 have Hfit := hid (fun i => placeN_fit hf k off s i)
 have Hnext := hid (fun i (hi : i < 2) (h : (placeN D k off s i).2 = 0) => placeN_next D k off s hi h)
 have Hstop := hid (fun i (hi : i < 2) (h : (placeN D k off s (i + 1)).2 ≠ 0) => placeN_stop D k off s hi h)
 obtain ⟨off, rfl⟩ := Int.eq_ofNat_of_zero_le ho
 clear hf ho
 obtain ⟨A1, a1⟩ := p
 obtain ⟨A2, a2⟩ := q
 obtain ⟨A3, a3⟩ := r
 have hB := Below.refl w.heap.size w
 have x := Blk.new w 33 #[.string (bs D.data), .slice A1 D.cache.length a1, .int .i64 D.fuse, .bool D.off, .slice A2 D.bad.length a2, .int .i64 g, .int .i64 h, .int .u64 seq, .int .i64 pos, .slice A3 maps.length a3, .bool br]
 have xk := blk11 x
 have xkf := x.frozen
 have hB_1 := hB.alloc hB.size (.cells #[.string (bs D.data), .slice A1 D.cache.length a1, .int .i64 D.fuse, .bool D.off, .slice A2 D.bad.length a2, .int .i64 g, .int .i64 h, .int .u64 seq, .int .i64 pos, .slice A3 maps.length a3, .bool br] 33)
 have hd_2 := hd.below ((Below.refl _ _).alloc (Nat.le_refl _) (.cells #[.string (bs D.data), .slice A1 D.cache.length a1, .int .i64 D.fuse, .bool D.off, .slice A2 D.bad.length a2, .int .i64 g, .int .i64 h, .int .u64 seq, .int .i64 pos, .slice A3 maps.length a3, .bool br] 33))
 have hm_3 := hm.below ((Below.refl _ _).alloc (Nat.le_refl _) (.cells #[.string (bs D.data), .slice A1 D.cache.length a1, .int .i64 D.fuse, .bool D.off, .slice A2 D.bad.length a2, .int .i64 g, .int .i64 h, .int .u64 seq, .int .i64 pos, .slice A3 maps.length a3, .bool br] 33))
 have r := Blk.new (w.alloc (.cells #[.string (bs D.data), .slice A1 D.cache.length a1, .int .i64 D.fuse, .bool D.off, .slice A2 D.bad.length a2, .int .i64 g, .int .i64 h, .int .u64 seq, .int .i64 pos, .slice A3 maps.length a3, .bool br] 33)) 33 #[.string (bs []), .slice none 0 0, .int .i64 0, .bool false, .slice none 0 0, .int .i64 0, .int .i64 0, .int .u64 0, .int .i64 0, .slice none 0 0, .bool false]
 simp only [World.size_alloc] at r
 have rk := blk11 r
 have rkf := r.frozen
 have hB_4 := hB_1.alloc hB_1.size (.cells #[.string (bs []), .slice none 0 0, .int .i64 0, .bool false, .slice none 0 0, .int .i64 0, .int .i64 0, .int .u64 0, .int .i64 0, .slice none 0 0, .bool false] 33)
 have hd_5 := hd_2.below ((Below.refl _ _).alloc (Nat.le_refl _) (.cells #[.string (bs []), .slice none 0 0, .int .i64 0, .bool false, .slice none 0 0, .int .i64 0, .int .i64 0, .int .u64 0, .int .i64 0, .slice none 0 0, .bool false] 33))
 have hm_6 := hm_3.below ((Below.refl _ _).alloc (Nat.le_refl _) (.cells #[.string (bs []), .slice none 0 0, .int .i64 0, .bool false, .slice none 0 0, .int .i64 0, .int .i64 0, .int .u64 0, .int .i64 0, .slice none 0 0, .bool false] 33))
 have x_7 := x.alloc (.cells #[.string (bs []), .slice none 0 0, .int .i64 0, .bool false, .slice none 0 0, .int .i64 0, .int .i64 0, .int .u64 0, .int .i64 0, .slice none 0 0, .bool false] 33)
 have xk_7 := blk11 x_7
 have xkf_7 := x_7.frozen
 go_enter Tryz.func34, Tryz.ntmps34
 go_wp2_with fail
 go_loopw [10] (fun u W => ∃ (i : Nat) (E : Dk) (P Q : Pl), i ≤ 2 ∧ u = .int .i64 i ∧ Hid (placeN D k off s i = (E, 0)) ∧ Blk W w.heap.size 33 #[.string (bs E.data), .slice P.a E.cache.length P.c, .int .i64 E.fuse, .bool E.off, .slice Q.a E.bad.length Q.c, .int .i64 g, .int .i64 h, .int .u64 seq, .int .i64 pos, .slice A3 maps.length a3, .bool br] ∧ Blk W (w.heap.size + 1) 33 #[.string (bs []), .slice none 0 0, .int .i64 0, .bool false, .slice none 0 0, .int .i64 0, .int .i64 0, .int .u64 0, .int .i64 0, .slice none 0 0, .bool false] ∧ IsDk W E P Q ∧ IsMs W maps ⟨A3, a3⟩ ∧ (∀ g', g' < w.heap.size + 2 → DkOff g' D ⟨A1, a1⟩ ⟨A2, a2⟩ → DkOff g' E P Q) ∧ Below w.heap.size w W) (fun u _ => 2 - (intOf u).toNat)
 case atStart => exact ⟨0, D, ⟨A1, a1⟩, ⟨A2, a2⟩, by omega, rfl, hid rfl, x_7, r, hd_5, hm_6, fun _ _ h => h, hB_4⟩
 case round =>
  clear x_7 xk_7 r rk hd_5 hm_6 hB_4 xkf rkf
  obtain ⟨i, E, ⟨P1, c1⟩, ⟨Q1, d1⟩, hi, rfl, HE, x, r, ds, ms, HO, b⟩ := hrel
  simp only at x
  have ox := HO w.heap.size (by omega) (hap _ (Nat.le_refl _)).1
  have or := HO (w.heap.size + 1) (by omega) (hap _ (by omega)).1
  have mx := (hap w.heap.size (Nat.le_refl _)).2
  have mr := (hap (w.heap.size + 1) (by omega)).2
  have hrl := r.lt
  have xk := blk11 x
  have xkf := x.frozen
  have rk := blk11 r
  have rkf := r.frozen
  by_cases hlt : i < 2
  · have hEf : E.fit = true := by have := Hfit.out i; rw [HE.out] at this; exact this
    have hnx := Hnext.out i hlt (by rw [HE.out])
    rw [HE.out] at hnx
    simp only at hnx
    obtain ⟨m, hm64⟩ : ∃ m : Nat, 64 * i = m := ⟨_, rfl⟩
    have em : (i : Int) * 64 = (m : Int) := by omega
    have em1 : ((i : Int) + 1) * 64 = (m : Int) + 64 := by omega
    obtain ⟨a, ha⟩ : ∃ a : Nat, max off m = a := ⟨_, rfl⟩
    obtain ⟨bb, hbb⟩ : ∃ b : Nat, min (off + s.length) (m + 64) = b := ⟨_, rfl⟩
    have q1 : max (off : Int) (m : Int) = (a : Int) := by omega
    have q2 : min ((off : Int) + (s.length : Int)) ((m : Int) + 64) = (bb : Int) := by omega
    have q3 : a ≤ 128 ∧ bb ≤ 128 ∧ m ≤ 64 := by omega
    by_cases hba : bb ≤ a
    · have Hn := hid (show placeN D k off s (i + 1) = (E, 0) from hnx.trans (placeAt_no (at9 := at9) hm64 ha hbb hba))
      have g1 : decide (bb ≤ a) = true := decide_eq_true hba
      clear Hdk Hwr hat Hfit Hstop Hnext hnx HE ha hbb Hk9
      go_wp2_with fail
      go_roundw
      case rel => exact ⟨i + 1, E, ⟨P1, c1⟩, ⟨Q1, d1⟩, by omega, by go_num, Hn, x, r, ds, ms, HO, b⟩
      case measure => simp [intOf]; omega
    · have g1 : decide (bb ≤ a) = false := decide_eq_false hba
      have hrd := fun (W : World) (hW : Below wr.heap.size wr W) => Hdk.out W E ⟨P1, c1⟩ ⟨Q1, d1⟩ ((ds).below hW) hEf (at9 + (i : Int))
      have hTl := Dk.read_len hEf (at9 + (i : Int))
      have hfull := fun he => Dk.read_full hEf (k := at9 + (i : Int)) he
      have Hbad := hid (fun he => hnx.trans (placeAt_bad (D := E) Hk9.out hm64 ha hbb hba he))
      obtain ⟨u, hu⟩ : ∃ u : Nat, a - off = u := ⟨_, rfl⟩
      obtain ⟨v, hv⟩ : ∃ v : Nat, bb - off = v := ⟨_, rfl⟩
      obtain ⟨z, hz⟩ : ∃ z : Nat, a - m = z := ⟨_, rfl⟩
      have Hgood := hid (fun he => hnx.trans (placeAt_ok (D := E) Hk9.out hm64 ha hbb hba hu hv hz he))
      have q4 : (a : Int) - (m : Int) = (z : Int) := by omega
      have q5 : (a : Int) - (off : Int) = (u : Int) := by omega
      have q6 : (bb : Int) - (off : Int) = (v : Int) := by omega
      have q7 : u ≤ v ∧ v ≤ s.length ∧ s.length ≤ 128 ∧ z ≤ 64 ∧ z + (v - u) ≤ 64 := by omega
      have wA := i64w (x := at9 + (i : Int)) ⟨by omega, by omega⟩
      generalize hR : E.read (at9 + (i : Int)) = R at hrd hTl hfull Hbad Hgood
      clear hR
      obtain ⟨T, er⟩ := R
      simp only at hrd hTl hfull Hbad Hgood
      clear Hnext hnx ha hbb hu hv hz Hdk
      go_wp2_with fail
      have X11 := ext11 x
      have D1 := fun e : Ext wr => hat e.world
      have D2 := fun e : Ext wr => hrd e.world e.below
      refine wp_region_ext mixed (by kernel_rfl) ?_
      repeat (go_big_quiet_step (((first | (go_at_call 38; with_reducible exact ext_of (D1 _)) | (go_at_call 63; with_reducible exact ext_of (D2 _))))))
      refine wpQuiet_nil ?_
      rintro V1 ⟨pq_, hpq_⟩
      have hb1 := pq_.below
      rw [← hpq_] at hb1
      clear hpq_ pq_
      clear X11 D1 D2 hrd
      replace b := bt b hb1
      replace ds := ds.below hb1
      replace ms := ms.below hb1
      replace x := x.below hb1 x.lt
      replace xk := blk11 x
      replace xkf := x.frozen
      replace r := r.below hb1 r.lt
      replace rk := blk11 r
      replace rkf := r.frozen
      by_cases he : er = 0
      · subst he
        have h64 := hfull rfl
        have hov : Pn.laidOver T (z : Int) ((s.take v).drop u) = (over T z ((s.take v).drop u), 0) := by rw [Pn.laidOver, if_neg (by simp only [List.length_drop, List.length_take]; omega), Int.toNat_natCast]
        have hul : ((s.take v).drop u).length ≤ 128 := by simp only [List.length_drop, List.length_take]; omega
        have how := fun W => r3_over T ((s.take v).drop u) (z : Int) W (by omega) (by omega)
        rw [hov] at how
        clear hov
        have hT9 : (over T z ((s.take v).drop u)).length ≤ 1000 := by simp only [over, List.length_append, List.length_drop, List.length_take]; omega
        replace Hgood := hid (Hgood.out rfl)
        generalize hU9 : (s.take v).drop u = U9 at *
        generalize over T z U9 = T9 at how hT9 Hgood
        clear Hbad hTl hul hfull h64
        go_wp2_with fail
        go_at_call 36
        refine ((how _)).mono ?_
        rintro e wb ⟨rfl, hbb2⟩
        replace b := bt b hbb2
        replace ds := ds.below hbb2
        replace ms := ms.below hbb2
        replace x := x.below hbb2 x.lt
        replace xk := blk11 x
        replace xkf := x.frozen
        replace r := r.below hbb2 r.lt
        replace rk := blk11 r
        replace rkf := r.frozen
        go_upto_region 11 with fail
        have wds := ds
        have hsz := (b).size
        have hwr := fun (W : World) (hW : Below wb.heap.size wb W) => Hwr.out W E ⟨P1, c1⟩ ⟨Q1, d1⟩ (wds.below hW) (at9 + (i : Int)) (by omega) T9 (by omega)
        generalize hFE : E.write (at9 + (i : Int)) T9 = FE at hwr Hgood
        obtain ⟨F, ew⟩ := FE
        obtain ⟨wk, hwk⟩ : ∃ wk : Int, at9 + (i : Int) = wk := ⟨_, rfl⟩
        clear hFE
        simp only [hwk] at hwr wA ⊢
        replace hap := fun g (hg : wb.heap.size ≤ g) => wds.apart hg
        have xq := x
        have KX := hid (fun (W : World) (hW : Below wb.heap.size wb W) => blk11 (xq.below hW xq.lt))
        clear xk rk xkf rkf
        go_cut [15, 14] (fun sa sb W => ∃ (gz : Nat) (p9 q9 : Pl), sa = .pointer (some ⟨gz, 0, none⟩) ∧ sb = .int .i64 ew ∧ wb.heap.size ≤ gz ∧ Blk W gz 25 #[.string (bs F.data), .slice p9.a F.cache.length p9.c, .int .i64 F.fuse, .bool F.off, .slice q9.a F.bad.length q9.c] ∧ IsDk W F p9 q9 ∧ (∀ g', g' < wb.heap.size → DkOff g' E ⟨P1, c1⟩ ⟨Q1, d1⟩ → DkOff g' F p9 q9) ∧ Below wb.heap.size wb W)
        case first =>
         have KX := KX.out
         clear HO Hgood Hstop Hfit Hwr HE r ms
         have s0 : Below wb.heap.size wb wb.drew := (Below.refl _ _).drew
         refine wp_region_late (S := fun W => Below wb.heap.size wb W) (late := fun _ => false) (by kernel_rfl) ?_
         generalize wb.drew = U0 at s0 ⊢
         simp only [List.size_toArray, List.length_cons, List.length_nil, Nat.reduceAdd, Array.replicate_succ, Array.replicate_zero, List.push_toArray, List.nil_append, List.cons_append]
         refine wpLate_take0 (i := 0) (oi := _) (v := .pointer (some ⟨w.heap.size, 0, none⟩)) (d := some 67) rfl rfl (by kernel_rfl) (by kernel_rfl) (by kernel_rfl) (fun _ _ _ h => h) rfl (fun W => by first | rfl | go_simp) ?_
         simp only [Act.put, List.setIfInBounds_toArray, List.set_cons_zero, List.set_cons_succ]
         refine wpLate_take (i := 1) (oi := _) (v := dval E ⟨P1, c1⟩ ⟨Q1, d1⟩) (d := some 68) rfl rfl (by kernel_rfl) (by kernel_rfl) (by kernel_rfl) (by kernel_rfl) (fun _ _ _ h => h) rfl (fun W hW => by have h := KX W hW; go_simp) s0 ?_
         simp only [Act.put, List.setIfInBounds_toArray, List.set_cons_zero, List.set_cons_succ]
         refine wpLate_take0 (i := 2) (oi := _) (v := .int .i64 k) (d := some 69) rfl rfl (by kernel_rfl) (by kernel_rfl) (by kernel_rfl) (fun _ _ _ h => h) rfl (fun W => by first | rfl | go_simp) ?_
         simp only [Act.put, List.setIfInBounds_toArray, List.set_cons_zero, List.set_cons_succ]
         refine wpLate_take0 (i := 4) (oi := _) (v := .int .i64 (i : Int)) (d := some 71) rfl rfl (by kernel_rfl) (by kernel_rfl) (by kernel_rfl) (fun _ _ _ h => h) rfl (fun W => by first | rfl | go_simp) ?_
         simp only [Act.put, List.setIfInBounds_toArray, List.set_cons_zero, List.set_cons_succ]
         refine wpLate_take0 (i := 6) (oi := _) (v := .string (bs T9)) (d := some 73) rfl rfl (by kernel_rfl) (by kernel_rfl) (by kernel_rfl) (fun _ _ _ h => h) rfl (fun W => by first | rfl | go_simp) ?_
         simp only [Act.put, List.setIfInBounds_toArray, List.set_cons_zero, List.set_cons_succ]
         refine wpLate_two (i := 3) (k := 11) (by kernel_rfl) rfl rfl rfl rfl (fun K hK => ?_) (fun K hK => ?_)
         · skip
           refine oper_enter' (f := 38) (args := #[.int .i64 k]) (w' := U0) (by go_simp) ((hat U0).mono ?_)
           rintro e U1 ⟨rfl, hb0⟩
           refine ⟨_, rfl, ?_⟩
           show K (Act.put _ (some 70) _) _
           have s1 := bt s0 hb0
           refine hK _ _ (fun _ _ => s1) ?_
           simp only [Act.put, List.setIfInBounds_toArray, List.set_cons_zero, List.set_cons_succ]
           refine wpLate_take0 (i := 5) (oi := _) (v := .int .i64 wk) (d := some 72) rfl rfl (by kernel_rfl) (by kernel_rfl) (by kernel_rfl) (fun _ _ _ h => h) rfl (fun W => by first | rfl | go_simp) ?_
           simp only [Act.put, List.setIfInBounds_toArray, List.set_cons_zero, List.set_cons_succ]
           refine wpLate_two (i := 7) (k := 11) (by kernel_rfl) rfl rfl rfl rfl (fun K hK => ?_) (fun K hK => ?_)
           · skip
             refine oper_enter' (f := 37) (args := #[dval E ⟨P1, c1⟩ ⟨Q1, d1⟩, .int .i64 wk, .string (bs T9)]) (w' := U1) (by go_simp) ((hwr U1 s1).mono ?_)
             rintro e U2 ⟨⟨⟨P9, e9⟩, ⟨Q9, f9⟩, rfl, d9, o9⟩, hb1⟩
             refine ⟨_, rfl, ?_⟩
             show K (Act.put _ (some 74) _) _
             have s2 := bt s1 hb1
             have O9 : ∀ g', g' < wb.heap.size → DkOff g' E ⟨P1, c1⟩ ⟨Q1, d1⟩ → DkOff g' F ⟨P9, e9⟩ ⟨Q9, f9⟩ := fun g' h1 h2 => o9 g' (Nat.lt_of_lt_of_le h1 s1.size) h2
             refine hK _ _ (fun _ _ => s2) ?_
             simp only [Act.put, List.setIfInBounds_toArray, List.set_cons_zero, List.set_cons_succ]
             refine wpLate_take0 (i := 8) (oi := _) (v := .tuple #[dval F ⟨P9, e9⟩ ⟨Q9, f9⟩, .int .i64 ew]) (d := some 66) rfl rfl (by kernel_rfl) (by kernel_rfl) (by kernel_rfl) (fun _ _ _ h => h) rfl (fun W => by first | rfl | go_simp) ?_
             simp only [Act.put, List.setIfInBounds_toArray, List.set_cons_zero, List.set_cons_succ]
             refine wpLate_take0 (i := 9) (oi := _) (v := dval F ⟨P9, e9⟩ ⟨Q9, f9⟩) (d := some 75) rfl rfl (by kernel_rfl) (by kernel_rfl) (by kernel_rfl) (fun _ _ _ h => h) rfl (fun W => by first | rfl | go_simp) ?_
             simp only [Act.put, List.setIfInBounds_toArray, List.set_cons_zero, List.set_cons_succ]
             refine wpLate_take0 (i := 10) (oi := _) (v := .int .i64 ew) (d := some 76) rfl rfl (by kernel_rfl) (by kernel_rfl) (by kernel_rfl) (fun _ _ _ h => h) rfl (fun W => by first | rfl | go_simp) ?_
             simp only [Act.put, List.setIfInBounds_toArray, List.set_cons_zero, List.set_cons_succ]
             refine wpLate_one (i := 11) (by kernel_rfl) rfl rfl (fun K hK => ?_)
             refine oper_ran (v := .pointer (some ⟨U2.heap.size, 0, none⟩)) (w' := U2.alloc (.cells #[.string (bs []), .slice none 0 0, .int .i64 0, .bool false, .slice none 0 0] 25)) (by go_simp) ?_
             show K (Act.put _ (some 15) _) _
             have s3 := s2.alloc s2.size (.cells #[.string (bs []), .slice none 0 0, .int .i64 0, .bool false, .slice none 0 0] 25)
             have bz := Blk.new U2 25 #[.string (bs []), .slice none 0 0, .int .i64 0, .bool false, .slice none 0 0]
             have gz0 : wb.heap.size ≤ U2.heap.size := s2.size
             have og := d9.apart (Nat.le_refl U2.heap.size)
             replace d9 := d9.below ((Below.refl _ _).alloc (Nat.le_refl _) (.cells #[.string (bs []), .slice none 0 0, .int .i64 0, .bool false, .slice none 0 0] 25))
             refine hK _ _ (fun _ _ => s3) ?_
             generalize U2.alloc (.cells #[.string (bs []), .slice none 0 0, .int .i64 0, .bool false, .slice none 0 0] 25) = U3 at s3 bz d9 ⊢
             generalize U2.heap.size = gz at bz gz0 og ⊢
             simp only [Act.put, List.setIfInBounds_toArray, List.set_cons_zero, List.set_cons_succ]
             refine wpLate_one (i := 12) (by kernel_rfl) rfl rfl (fun K hK => ?_)
             refine oper_skip (w' := (((((U3.setCell ⟨gz, 0, none⟩ (.string (bs F.data))).setCell ⟨gz, 1, none⟩ (.slice P9 F.cache.length e9)).setCell ⟨gz, 2, none⟩ (.int .i64 F.fuse)).setCell ⟨gz, 3, none⟩ (.bool F.off)).setCell ⟨gz, 4, none⟩ (.slice Q9 F.bad.length f9))) (by have k0 := blk5 bz; have f0 := bz.frozen; have c1 := bz.set 0 (.string (bs F.data)); simp only [List.setIfInBounds_toArray, List.set_cons_zero] at c1; have f1 := c1.frozen; have k1 := blk5 c1; have c2 := c1.set 1 (.slice P9 F.cache.length e9); simp only [List.setIfInBounds_toArray, List.set_cons_zero, List.set_cons_succ] at c2; have f2 := c2.frozen; have k2 := blk5 c2; have c3 := c2.set 2 (.int .i64 F.fuse); simp only [List.setIfInBounds_toArray, List.set_cons_zero, List.set_cons_succ] at c3; have f3 := c3.frozen; have k3 := blk5 c3; have c4 := c3.set 3 (.bool F.off); simp only [List.setIfInBounds_toArray, List.set_cons_zero, List.set_cons_succ] at c4; have f4 := c4.frozen; have k4 := blk5 c4; go_simp) ?_
             show K (Act.put _ none _) _
             have bz5 := blk_set5 bz (.string (bs F.data)) (.slice P9 F.cache.length e9) (.int .i64 F.fuse) (.bool F.off) (.slice Q9 F.bad.length f9)
             have bw := below_set5 s3 gz0 (.string (bs F.data)) (.slice P9 F.cache.length e9) (.int .i64 F.fuse) (.bool F.off) (.slice Q9 F.bad.length f9)
             have d5 := d9.off5 og (.string (bs F.data)) (.slice P9 F.cache.length e9) (.int .i64 F.fuse) (.bool F.off) (.slice Q9 F.bad.length f9)
             refine hK _ _ (fun _ _ => bw) ?_
             try simp only [Act.put, List.setIfInBounds_toArray, List.set_cons_zero, List.set_cons_succ]
             refine wpLate_take0 (i := 13) (oi := _) (v := .int .i64 ew) (d := some 14) rfl rfl (by kernel_rfl) (by kernel_rfl) (by kernel_rfl) (fun _ _ _ h => h) rfl (fun W => by first | rfl | go_simp) ?_
             simp only [Act.put, List.setIfInBounds_toArray, List.set_cons_zero, List.set_cons_succ]
             refine wpLate_done (by kernel_rfl) ?_ _
             go_wp2_with fail
             go_meet
             exact ⟨gz, ⟨P9, e9⟩, ⟨Q9, f9⟩, rfl, rfl, gz0, bz5, d5, O9, bw⟩
           · skip
             refine oper_ran (v := .pointer (some ⟨U1.heap.size, 0, none⟩)) (w' := U1.alloc (.cells #[.string (bs []), .slice none 0 0, .int .i64 0, .bool false, .slice none 0 0] 25)) (by go_simp) ?_
             show K (Act.put _ (some 15) _) _
             have s2 := s1.alloc s1.size (.cells #[.string (bs []), .slice none 0 0, .int .i64 0, .bool false, .slice none 0 0] 25)
             have bz := Blk.new U1 25 #[.string (bs []), .slice none 0 0, .int .i64 0, .bool false, .slice none 0 0]
             have gz0 : wb.heap.size ≤ U1.heap.size := s1.size
             refine hK _ _ (fun _ _ => s2) ?_
             generalize U1.alloc (.cells #[.string (bs []), .slice none 0 0, .int .i64 0, .bool false, .slice none 0 0] 25) = U2 at s2 bz ⊢
             generalize U1.heap.size = gz at bz gz0 ⊢
             simp only [Act.put, List.setIfInBounds_toArray, List.set_cons_zero, List.set_cons_succ]
             refine wpLate_one (i := 7) (by kernel_rfl) rfl rfl (fun K hK => ?_)
             refine oper_enter' (f := 37) (args := #[dval E ⟨P1, c1⟩ ⟨Q1, d1⟩, .int .i64 wk, .string (bs T9)]) (w' := U2) (by go_simp) ((hwr U2 s2).mono ?_)
             rintro e U3 ⟨⟨⟨P9, e9⟩, ⟨Q9, f9⟩, rfl, d9, o9⟩, hb2⟩
             refine ⟨_, rfl, ?_⟩
             show K (Act.put _ (some 74) _) _
             have s3 := bt s2 hb2
             have O9 : ∀ g', g' < wb.heap.size → DkOff g' E ⟨P1, c1⟩ ⟨Q1, d1⟩ → DkOff g' F ⟨P9, e9⟩ ⟨Q9, f9⟩ := fun g' h1 h2 => o9 g' (Nat.lt_of_lt_of_le h1 s2.size) h2
             have og : DkOff gz F ⟨P9, e9⟩ ⟨Q9, f9⟩ := o9 gz bz.lt (hap gz gz0)
             replace bz := bz.below hb2 bz.lt
             refine hK _ _ (fun _ _ => s3) ?_
             simp only [Act.put, List.setIfInBounds_toArray, List.set_cons_zero, List.set_cons_succ]
             refine wpLate_take0 (i := 8) (oi := _) (v := .tuple #[dval F ⟨P9, e9⟩ ⟨Q9, f9⟩, .int .i64 ew]) (d := some 66) rfl rfl (by kernel_rfl) (by kernel_rfl) (by kernel_rfl) (fun _ _ _ h => h) rfl (fun W => by first | rfl | go_simp) ?_
             simp only [Act.put, List.setIfInBounds_toArray, List.set_cons_zero, List.set_cons_succ]
             refine wpLate_take0 (i := 9) (oi := _) (v := dval F ⟨P9, e9⟩ ⟨Q9, f9⟩) (d := some 75) rfl rfl (by kernel_rfl) (by kernel_rfl) (by kernel_rfl) (fun _ _ _ h => h) rfl (fun W => by first | rfl | go_simp) ?_
             simp only [Act.put, List.setIfInBounds_toArray, List.set_cons_zero, List.set_cons_succ]
             refine wpLate_take0 (i := 10) (oi := _) (v := .int .i64 ew) (d := some 76) rfl rfl (by kernel_rfl) (by kernel_rfl) (by kernel_rfl) (fun _ _ _ h => h) rfl (fun W => by first | rfl | go_simp) ?_
             simp only [Act.put, List.setIfInBounds_toArray, List.set_cons_zero, List.set_cons_succ]
             refine wpLate_one (i := 12) (by kernel_rfl) rfl rfl (fun K hK => ?_)
             refine oper_skip (w' := (((((U3.setCell ⟨gz, 0, none⟩ (.string (bs F.data))).setCell ⟨gz, 1, none⟩ (.slice P9 F.cache.length e9)).setCell ⟨gz, 2, none⟩ (.int .i64 F.fuse)).setCell ⟨gz, 3, none⟩ (.bool F.off)).setCell ⟨gz, 4, none⟩ (.slice Q9 F.bad.length f9))) (by have k0 := blk5 bz; have f0 := bz.frozen; have c1 := bz.set 0 (.string (bs F.data)); simp only [List.setIfInBounds_toArray, List.set_cons_zero] at c1; have f1 := c1.frozen; have k1 := blk5 c1; have c2 := c1.set 1 (.slice P9 F.cache.length e9); simp only [List.setIfInBounds_toArray, List.set_cons_zero, List.set_cons_succ] at c2; have f2 := c2.frozen; have k2 := blk5 c2; have c3 := c2.set 2 (.int .i64 F.fuse); simp only [List.setIfInBounds_toArray, List.set_cons_zero, List.set_cons_succ] at c3; have f3 := c3.frozen; have k3 := blk5 c3; have c4 := c3.set 3 (.bool F.off); simp only [List.setIfInBounds_toArray, List.set_cons_zero, List.set_cons_succ] at c4; have f4 := c4.frozen; have k4 := blk5 c4; go_simp) ?_
             show K (Act.put _ none _) _
             have bz5 := blk_set5 bz (.string (bs F.data)) (.slice P9 F.cache.length e9) (.int .i64 F.fuse) (.bool F.off) (.slice Q9 F.bad.length f9)
             have bw := below_set5 s3 gz0 (.string (bs F.data)) (.slice P9 F.cache.length e9) (.int .i64 F.fuse) (.bool F.off) (.slice Q9 F.bad.length f9)
             have d5 := d9.off5 og (.string (bs F.data)) (.slice P9 F.cache.length e9) (.int .i64 F.fuse) (.bool F.off) (.slice Q9 F.bad.length f9)
             refine hK _ _ (fun _ _ => bw) ?_
             try simp only [Act.put, List.setIfInBounds_toArray, List.set_cons_zero, List.set_cons_succ]
             refine wpLate_take0 (i := 13) (oi := _) (v := .int .i64 ew) (d := some 14) rfl rfl (by kernel_rfl) (by kernel_rfl) (by kernel_rfl) (fun _ _ _ h => h) rfl (fun W => by first | rfl | go_simp) ?_
             simp only [Act.put, List.setIfInBounds_toArray, List.set_cons_zero, List.set_cons_succ]
             refine wpLate_done (by kernel_rfl) ?_ _
             go_wp2_with fail
             go_meet
             exact ⟨gz, ⟨P9, e9⟩, ⟨Q9, f9⟩, rfl, rfl, gz0, bz5, d5, O9, bw⟩
         · skip
           refine oper_ran (v := .pointer (some ⟨U0.heap.size, 0, none⟩)) (w' := U0.alloc (.cells #[.string (bs []), .slice none 0 0, .int .i64 0, .bool false, .slice none 0 0] 25)) (by go_simp) ?_
           show K (Act.put _ (some 15) _) _
           have s1 := s0.alloc s0.size (.cells #[.string (bs []), .slice none 0 0, .int .i64 0, .bool false, .slice none 0 0] 25)
           have bz := Blk.new U0 25 #[.string (bs []), .slice none 0 0, .int .i64 0, .bool false, .slice none 0 0]
           have gz0 : wb.heap.size ≤ U0.heap.size := s0.size
           refine hK _ _ (fun _ _ => s1) ?_
           generalize U0.alloc (.cells #[.string (bs []), .slice none 0 0, .int .i64 0, .bool false, .slice none 0 0] 25) = U1 at s1 bz ⊢
           generalize U0.heap.size = gz at bz gz0 ⊢
           simp only [Act.put, List.setIfInBounds_toArray, List.set_cons_zero, List.set_cons_succ]
           refine wpLate_one (i := 3) (by kernel_rfl) rfl rfl (fun K hK => ?_)
           refine oper_enter' (f := 38) (args := #[.int .i64 k]) (w' := U1) (by go_simp) ((hat U1).mono ?_)
           rintro e U2 ⟨rfl, hb1⟩
           refine ⟨_, rfl, ?_⟩
           show K (Act.put _ (some 70) _) _
           have s2 := bt s1 hb1
           replace bz := bz.below hb1 bz.lt
           refine hK _ _ (fun _ _ => s2) ?_
           simp only [Act.put, List.setIfInBounds_toArray, List.set_cons_zero, List.set_cons_succ]
           refine wpLate_take0 (i := 5) (oi := _) (v := .int .i64 wk) (d := some 72) rfl rfl (by kernel_rfl) (by kernel_rfl) (by kernel_rfl) (fun _ _ _ h => h) rfl (fun W => by first | rfl | go_simp) ?_
           simp only [Act.put, List.setIfInBounds_toArray, List.set_cons_zero, List.set_cons_succ]
           refine wpLate_one (i := 7) (by kernel_rfl) rfl rfl (fun K hK => ?_)
           refine oper_enter' (f := 37) (args := #[dval E ⟨P1, c1⟩ ⟨Q1, d1⟩, .int .i64 wk, .string (bs T9)]) (w' := U2) (by go_simp) ((hwr U2 s2).mono ?_)
           rintro e U3 ⟨⟨⟨P9, e9⟩, ⟨Q9, f9⟩, rfl, d9, o9⟩, hb2⟩
           refine ⟨_, rfl, ?_⟩
           show K (Act.put _ (some 74) _) _
           have s3 := bt s2 hb2
           have O9 : ∀ g', g' < wb.heap.size → DkOff g' E ⟨P1, c1⟩ ⟨Q1, d1⟩ → DkOff g' F ⟨P9, e9⟩ ⟨Q9, f9⟩ := fun g' h1 h2 => o9 g' (Nat.lt_of_lt_of_le h1 s2.size) h2
           have og : DkOff gz F ⟨P9, e9⟩ ⟨Q9, f9⟩ := o9 gz bz.lt (hap gz gz0)
           replace bz := bz.below hb2 bz.lt
           refine hK _ _ (fun _ _ => s3) ?_
           simp only [Act.put, List.setIfInBounds_toArray, List.set_cons_zero, List.set_cons_succ]
           refine wpLate_take0 (i := 8) (oi := _) (v := .tuple #[dval F ⟨P9, e9⟩ ⟨Q9, f9⟩, .int .i64 ew]) (d := some 66) rfl rfl (by kernel_rfl) (by kernel_rfl) (by kernel_rfl) (fun _ _ _ h => h) rfl (fun W => by first | rfl | go_simp) ?_
           simp only [Act.put, List.setIfInBounds_toArray, List.set_cons_zero, List.set_cons_succ]
           refine wpLate_take0 (i := 9) (oi := _) (v := dval F ⟨P9, e9⟩ ⟨Q9, f9⟩) (d := some 75) rfl rfl (by kernel_rfl) (by kernel_rfl) (by kernel_rfl) (fun _ _ _ h => h) rfl (fun W => by first | rfl | go_simp) ?_
           simp only [Act.put, List.setIfInBounds_toArray, List.set_cons_zero, List.set_cons_succ]
           refine wpLate_take0 (i := 10) (oi := _) (v := .int .i64 ew) (d := some 76) rfl rfl (by kernel_rfl) (by kernel_rfl) (by kernel_rfl) (fun _ _ _ h => h) rfl (fun W => by first | rfl | go_simp) ?_
           simp only [Act.put, List.setIfInBounds_toArray, List.set_cons_zero, List.set_cons_succ]
           refine wpLate_one (i := 12) (by kernel_rfl) rfl rfl (fun K hK => ?_)
           refine oper_skip (w' := (((((U3.setCell ⟨gz, 0, none⟩ (.string (bs F.data))).setCell ⟨gz, 1, none⟩ (.slice P9 F.cache.length e9)).setCell ⟨gz, 2, none⟩ (.int .i64 F.fuse)).setCell ⟨gz, 3, none⟩ (.bool F.off)).setCell ⟨gz, 4, none⟩ (.slice Q9 F.bad.length f9))) (by have k0 := blk5 bz; have f0 := bz.frozen; have c1 := bz.set 0 (.string (bs F.data)); simp only [List.setIfInBounds_toArray, List.set_cons_zero] at c1; have f1 := c1.frozen; have k1 := blk5 c1; have c2 := c1.set 1 (.slice P9 F.cache.length e9); simp only [List.setIfInBounds_toArray, List.set_cons_zero, List.set_cons_succ] at c2; have f2 := c2.frozen; have k2 := blk5 c2; have c3 := c2.set 2 (.int .i64 F.fuse); simp only [List.setIfInBounds_toArray, List.set_cons_zero, List.set_cons_succ] at c3; have f3 := c3.frozen; have k3 := blk5 c3; have c4 := c3.set 3 (.bool F.off); simp only [List.setIfInBounds_toArray, List.set_cons_zero, List.set_cons_succ] at c4; have f4 := c4.frozen; have k4 := blk5 c4; go_simp) ?_
           show K (Act.put _ none _) _
           have bz5 := blk_set5 bz (.string (bs F.data)) (.slice P9 F.cache.length e9) (.int .i64 F.fuse) (.bool F.off) (.slice Q9 F.bad.length f9)
           have bw := below_set5 s3 gz0 (.string (bs F.data)) (.slice P9 F.cache.length e9) (.int .i64 F.fuse) (.bool F.off) (.slice Q9 F.bad.length f9)
           have d5 := d9.off5 og (.string (bs F.data)) (.slice P9 F.cache.length e9) (.int .i64 F.fuse) (.bool F.off) (.slice Q9 F.bad.length f9)
           refine hK _ _ (fun _ _ => bw) ?_
           try simp only [Act.put, List.setIfInBounds_toArray, List.set_cons_zero, List.set_cons_succ]
           refine wpLate_take0 (i := 13) (oi := _) (v := .int .i64 ew) (d := some 14) rfl rfl (by kernel_rfl) (by kernel_rfl) (by kernel_rfl) (fun _ _ _ h => h) rfl (fun W => by first | rfl | go_simp) ?_
           simp only [Act.put, List.setIfInBounds_toArray, List.set_cons_zero, List.set_cons_succ]
           refine wpLate_done (by kernel_rfl) ?_ _
           go_wp2_with fail
           go_meet
           exact ⟨gz, ⟨P9, e9⟩, ⟨Q9, f9⟩, rfl, rfl, gz0, bz5, d5, O9, bw⟩
        obtain ⟨gz, ⟨P9, e9⟩, ⟨Q9, f9⟩, rfl, rfl, gz0, bz5, d5, O9, bw9⟩ := hcut
        have hrl9 := r.lt
        clear Hfit Hwr hwr hat HE hap KX Hk9 wds
        replace b := bt b bw9
        replace x := x.below bw9 x.lt
        replace r := r.below bw9 r.lt
        replace ms := ms.below bw9
        have gk := blk5 bz5
        have ox9 := O9 w.heap.size (by omega) ox
        have or9 := O9 (w.heap.size + 1) (by omega) or
        have hgx : ¬ gz = w.heap.size := by omega
        have hgy : ¬ w.heap.size = gz := by omega
        have b9z := bz5.lt
        clear gz0
        have xk := blk11 x
        have xkf := x.frozen
        have rk := blk11 r
        have rkf := r.frozen
        have b_1 := (((((b).setCell (p := ⟨w.heap.size, 0, none⟩) (by show _ ≤ (w.heap.size : Nat); omega) (.string (bs F.data))).setCell (p := ⟨w.heap.size, 1, none⟩) (by show _ ≤ (w.heap.size : Nat); omega) (.slice P9 F.cache.length e9)).setCell (p := ⟨w.heap.size, 2, none⟩) (by show _ ≤ (w.heap.size : Nat); omega) (.int .i64 F.fuse)).setCell (p := ⟨w.heap.size, 3, none⟩) (by show _ ≤ (w.heap.size : Nat); omega) (.bool F.off)).setCell (p := ⟨w.heap.size, 4, none⟩) (by show _ ≤ (w.heap.size : Nat); omega) (.slice Q9 F.bad.length f9)
        have ms_2 := (((((ms).off (a := ⟨w.heap.size, 0, none⟩) (by first | assumption | omega) (.string (bs F.data))).off (a := ⟨w.heap.size, 1, none⟩) (by first | assumption | omega) (.slice P9 F.cache.length e9)).off (a := ⟨w.heap.size, 2, none⟩) (by first | assumption | omega) (.int .i64 F.fuse)).off (a := ⟨w.heap.size, 3, none⟩) (by first | assumption | omega) (.bool F.off)).off (a := ⟨w.heap.size, 4, none⟩) (by first | assumption | omega) (.slice Q9 F.bad.length f9)
        have d5_3 := (((((d5).off (a := ⟨w.heap.size, 0, none⟩) (by first | assumption | omega) (.string (bs F.data))).off (a := ⟨w.heap.size, 1, none⟩) (by first | assumption | omega) (.slice P9 F.cache.length e9)).off (a := ⟨w.heap.size, 2, none⟩) (by first | assumption | omega) (.int .i64 F.fuse)).off (a := ⟨w.heap.size, 3, none⟩) (by first | assumption | omega) (.bool F.off)).off (a := ⟨w.heap.size, 4, none⟩) (by first | assumption | omega) (.slice Q9 F.bad.length f9)
        have x_4 := (((((x).set 0 (.string (bs F.data))).set 1 (.slice P9 F.cache.length e9)).set 2 (.int .i64 F.fuse)).set 3 (.bool F.off)).set 4 (.slice Q9 F.bad.length f9)
        simp only [List.setIfInBounds_toArray, List.set_cons_zero, List.set_cons_succ] at x_4
        have xk_4 := blk11 x_4
        have xkf_4 := x_4.frozen
        have r_5 := (((((r).other (a := ⟨w.heap.size, 0, none⟩) (by show _ ≠ (w.heap.size : Nat); omega) (.string (bs F.data))).other (a := ⟨w.heap.size, 1, none⟩) (by show _ ≠ (w.heap.size : Nat); omega) (.slice P9 F.cache.length e9)).other (a := ⟨w.heap.size, 2, none⟩) (by show _ ≠ (w.heap.size : Nat); omega) (.int .i64 F.fuse)).other (a := ⟨w.heap.size, 3, none⟩) (by show _ ≠ (w.heap.size : Nat); omega) (.bool F.off)).other (a := ⟨w.heap.size, 4, none⟩) (by show _ ≠ (w.heap.size : Nat); omega) (.slice Q9 F.bad.length f9)
        have rk_5 := blk11 r_5
        have rkf_5 := r_5.frozen
        by_cases hw0 : ew = 0
        · subst hw0
          have Hn := hid (show placeN D k off s (i + 1) = (F, 0) from Hgood.out)
          clear Hstop Hgood
          go_wp2_with fail
          go_roundw
          case rel => exact ⟨i + 1, F, ⟨P9, e9⟩, ⟨Q9, f9⟩, by omega, by go_num, Hn, x_4, r_5, d5_3, ms_2, fun g' h1 h2 => O9 g' (by omega) (HO g' h1 h2), b_1⟩
          case measure => simp [intOf]; omega
        · have n1 : (ew != 0) = true := bne_iff_ne.2 hw0
          have Hr := hid (show Im.place D k off s = (F, ew) by rw [Hstop.out i hlt (by rw [Hgood.out]; exact hw0), Hgood.out])
          clear Hstop Hgood hw0
          go_wp2_with fail
          have b_6 := below11 b_1 (g := w.heap.size + 1) (by omega) (.string (bs F.data)) (.slice P9 F.cache.length e9) (.int .i64 F.fuse) (.bool F.off) (.slice Q9 F.bad.length f9) (.int .i64 g) (.int .i64 h) (.int .u64 seq) (.int .i64 pos) (.slice A3 maps.length a3) (.bool br)
          have ms_7 := ms_2.off11 (g := w.heap.size + 1) (by first | assumption | omega) (.string (bs F.data)) (.slice P9 F.cache.length e9) (.int .i64 F.fuse) (.bool F.off) (.slice Q9 F.bad.length f9) (.int .i64 g) (.int .i64 h) (.int .u64 seq) (.int .i64 pos) (.slice A3 maps.length a3) (.bool br)
          have d5_8 := d5_3.off11 (g := w.heap.size + 1) (by first | assumption | omega) (.string (bs F.data)) (.slice P9 F.cache.length e9) (.int .i64 F.fuse) (.bool F.off) (.slice Q9 F.bad.length f9) (.int .i64 g) (.int .i64 h) (.int .u64 seq) (.int .i64 pos) (.slice A3 maps.length a3) (.bool br)
          have x_9 := blk_off11 x_4 (g := w.heap.size + 1) (by omega) (.string (bs F.data)) (.slice P9 F.cache.length e9) (.int .i64 F.fuse) (.bool F.off) (.slice Q9 F.bad.length f9) (.int .i64 g) (.int .i64 h) (.int .u64 seq) (.int .i64 pos) (.slice A3 maps.length a3) (.bool br)
          have xk_9 := blk11 x_9
          have xkf_9 := x_9.frozen
          have r_10 := blk_set11 r_5 (.string (bs F.data)) (.slice P9 F.cache.length e9) (.int .i64 F.fuse) (.bool F.off) (.slice Q9 F.bad.length f9) (.int .i64 g) (.int .i64 h) (.int .u64 seq) (.int .i64 pos) (.slice A3 maps.length a3) (.bool br)
          have rk_10 := blk11 r_10
          have rkf_10 := r_10.frozen
          have yy := blk11 r_10
          have bw := b_6
          have dw := d5_8
          have mw := ms_7
          go_wp2_with fail
          refine bodyPost_ret (v := .tuple #[imval ⟨F, g, h, ⟨seq, pos⟩, maps, br⟩ ⟨P9, e9⟩ ⟨Q9, f9⟩ ⟨A3, a3⟩, .int .i64 ew]) (by simp [results, Tryz.results34, go_sem, yy]) rfl ?_
          rw [Hr.out]
          exact ⟨⟨⟨P9, e9⟩, ⟨Q9, f9⟩, ⟨A3, a3⟩, rfl, ⟨dw, mw⟩, fun g' h1 h2 => ⟨O9 g' (by omega) (HO g' (by omega) h2.1), h2.2⟩⟩, bw⟩
      · have n1 : (er != 0) = true := bne_iff_ne.2 he
        have H1 := hid (Hbad.out he)
        have Hr := hid (show Im.place D k off s = (E, er) by rw [Hstop.out i hlt (by rw [H1.out]; exact he), H1.out])
        clear Hstop Hfit Hwr hat HE hap Hbad Hgood H1 he Hk9 hfull
        go_wp2_with fail
        have b_1 := below11 b (g := w.heap.size + 1) (by omega) (.string (bs E.data)) (.slice P1 E.cache.length c1) (.int .i64 E.fuse) (.bool E.off) (.slice Q1 E.bad.length d1) (.int .i64 g) (.int .i64 h) (.int .u64 seq) (.int .i64 pos) (.slice A3 maps.length a3) (.bool br)
        have ds_2 := ds.off11 (g := w.heap.size + 1) (by first | assumption | omega) (.string (bs E.data)) (.slice P1 E.cache.length c1) (.int .i64 E.fuse) (.bool E.off) (.slice Q1 E.bad.length d1) (.int .i64 g) (.int .i64 h) (.int .u64 seq) (.int .i64 pos) (.slice A3 maps.length a3) (.bool br)
        have ms_3 := ms.off11 (g := w.heap.size + 1) (by first | assumption | omega) (.string (bs E.data)) (.slice P1 E.cache.length c1) (.int .i64 E.fuse) (.bool E.off) (.slice Q1 E.bad.length d1) (.int .i64 g) (.int .i64 h) (.int .u64 seq) (.int .i64 pos) (.slice A3 maps.length a3) (.bool br)
        have x_4 := blk_off11 x (g := w.heap.size + 1) (by omega) (.string (bs E.data)) (.slice P1 E.cache.length c1) (.int .i64 E.fuse) (.bool E.off) (.slice Q1 E.bad.length d1) (.int .i64 g) (.int .i64 h) (.int .u64 seq) (.int .i64 pos) (.slice A3 maps.length a3) (.bool br)
        have xk_4 := blk11 x_4
        have xkf_4 := x_4.frozen
        have r_5 := blk_set11 r (.string (bs E.data)) (.slice P1 E.cache.length c1) (.int .i64 E.fuse) (.bool E.off) (.slice Q1 E.bad.length d1) (.int .i64 g) (.int .i64 h) (.int .u64 seq) (.int .i64 pos) (.slice A3 maps.length a3) (.bool br)
        have rk_5 := blk11 r_5
        have rkf_5 := r_5.frozen
        have yy := blk11 r_5
        have bw := b_1
        have dw := ds_2
        have mw := ms_3
        go_wp2_with fail
        refine bodyPost_ret (v := .tuple #[imval ⟨E, g, h, ⟨seq, pos⟩, maps, br⟩ ⟨P1, c1⟩ ⟨Q1, d1⟩ ⟨A3, a3⟩, .int .i64 er]) (by simp [results, Tryz.results34, go_sem, yy]) rfl ?_
        rw [Hr.out]
        exact ⟨⟨⟨P1, c1⟩, ⟨Q1, d1⟩, ⟨A3, a3⟩, rfl, ⟨dw, mw⟩, fun g' h1 h2 => ⟨HO g' (by omega) h2.1, h2.2⟩⟩, bw⟩
  · obtain rfl : i = 2 := by omega
    have Hr := hid (show Im.place D k off s = (E, 0) from HE.out)
    clear Hnext Hstop Hfit Hdk Hwr hat HE hap
    have b_1 := below11 b (g := w.heap.size + 1) (by omega) (.string (bs E.data)) (.slice P1 E.cache.length c1) (.int .i64 E.fuse) (.bool E.off) (.slice Q1 E.bad.length d1) (.int .i64 g) (.int .i64 h) (.int .u64 seq) (.int .i64 pos) (.slice A3 maps.length a3) (.bool br)
    have ds_2 := ds.off11 (g := w.heap.size + 1) (by first | assumption | omega) (.string (bs E.data)) (.slice P1 E.cache.length c1) (.int .i64 E.fuse) (.bool E.off) (.slice Q1 E.bad.length d1) (.int .i64 g) (.int .i64 h) (.int .u64 seq) (.int .i64 pos) (.slice A3 maps.length a3) (.bool br)
    have ms_3 := ms.off11 (g := w.heap.size + 1) (by first | assumption | omega) (.string (bs E.data)) (.slice P1 E.cache.length c1) (.int .i64 E.fuse) (.bool E.off) (.slice Q1 E.bad.length d1) (.int .i64 g) (.int .i64 h) (.int .u64 seq) (.int .i64 pos) (.slice A3 maps.length a3) (.bool br)
    have x_4 := blk_off11 x (g := w.heap.size + 1) (by omega) (.string (bs E.data)) (.slice P1 E.cache.length c1) (.int .i64 E.fuse) (.bool E.off) (.slice Q1 E.bad.length d1) (.int .i64 g) (.int .i64 h) (.int .u64 seq) (.int .i64 pos) (.slice A3 maps.length a3) (.bool br)
    have xk_4 := blk11 x_4
    have xkf_4 := x_4.frozen
    have r_5 := blk_set11 r (.string (bs E.data)) (.slice P1 E.cache.length c1) (.int .i64 E.fuse) (.bool E.off) (.slice Q1 E.bad.length d1) (.int .i64 g) (.int .i64 h) (.int .u64 seq) (.int .i64 pos) (.slice A3 maps.length a3) (.bool br)
    have rk_5 := blk11 r_5
    have rkf_5 := r_5.frozen
    have yy := blk11 r_5
    have bw := b_1
    have dw := ds_2
    have mw := ms_3
    go_wp2_with fail
    refine bodyPost_ret (v := .tuple #[imval ⟨E, g, h, ⟨seq, pos⟩, maps, br⟩ ⟨P1, c1⟩ ⟨Q1, d1⟩ ⟨A3, a3⟩, .int .i64 0]) (by simp [results, Tryz.results34, go_sem, yy]) rfl ?_
    rw [Hr.out]
    exact ⟨⟨⟨P1, c1⟩, ⟨Q1, d1⟩, ⟨A3, a3⟩, rfl, ⟨dw, mw⟩, fun g' h1 h2 => ⟨HO g' (by omega) h2.1, h2.2⟩⟩, bw⟩
end Go.Proofs.YtlapjkbefkmohaaGreat
