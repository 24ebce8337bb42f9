/- Package plan and the document's, function by function: which plans are the same, which can be, what will be there. -/
import Derived.Test.YtjhnaeomaigimaaGreatDoorPlan1
import Derived.Test.YtjhnaeomaigimaaGreatDoorRef01b
set_option linter.unusedVariables false
namespace Go.Proofs.YtjhnaeomaigimaaGreatDoor
open Go.RowKit Go.Shelf
attribute [local go_sem] bs_mk bs_append bs_extract bs_size bs_toList bs_get

set_option maxRecDepth 100000 in
theorem pl_look (D : Dk) (L : Pn) (p q p' q' : Pl) (w : World) (hD : IsDk w D p q) (hL : IsPn w L p' q') (k : Int) (hl : D.data.length = D.sz * 64) (ht : L.targets.length ≤ 1000000) (he : L.targets.length = L.data.length) :
    Calls Tryz.prog 64 #[dval D p q, pval L p' q', .int .i64 k] w fun e w' => e = .returned (.tuple #[.string (bs (Pn.look D L k).1), .int .i64 (Pn.look D L k).2]) ∧ Below w.heap.size w w' := by
  have hi := fun (W : World) (hb : Below w.heap.size w W) => index_any p'.a L.targets p'.c k W (hL.targets.below hb) (by omega) L.data
  have hr := fun (W : World) (hb : Below w.heap.size w W) => d_read D p q W (hD.below hb) k hl
  have hc := fun (W : World) (hb : Below w.heap.size w W) => hL.data.below hb
  clear hL hD
  obtain ⟨A1, c1⟩ := p
  obtain ⟨A2, c2⟩ := q
  obtain ⟨B1, d1⟩ := p'
  obtain ⟨B2, d2⟩ := q'
  simp only at hi hc
  have hb := below_two w (.cells #[.string (bs D.data), .slice A1 D.cache.length c1, .int .i64 D.fuse, .bool D.off, .slice A2 D.bad.length c2] 25) (.cells #[.slice B1 L.targets.length d1, .slice B2 L.data.length d2] 28)
  by_cases hm : k ∈ L.targets
  · obtain ⟨i, hi0, h1, h2, h3⟩ := Pn.find_in hm
    have hid0 : i < L.data.length := by omega
    have Hw := hid (show Pn.look D L k = (L.data[i], 0) by rw [Pn.look, if_pos hm, h3, List.getD_eq_getElem?_getD, List.getElem?_eq_getElem hid0]; rfl)
    obtain ⟨pb, po, hpa, hcell⟩ := (hc _ hb).str hid0
    subst hpa
    have y0 := hcell i hid0
    clear hcell
    have hi' := hi _ hb
    rw [show (⟨L.targets, L.data⟩ : Pn).find k = i from h1] at hi'
    clear hi hr hc h1 h2 h3 hm he
    go_enter Tryz.func64, Tryz.ntmps64
    go_wp2_with fail
    go_at_call 97
    refine hi'.mono ?_
    rintro e w1 ⟨rfl, rfl⟩
    go_wp2_with fail
    go_ret2
    exact ⟨by rw [Hw.out]; rfl, hb⟩
  · have Hw := hid (show Pn.look D L k = D.read k by rw [Pn.look, if_neg hm])
    have hi' := hi _ hb
    rw [show (⟨L.targets, L.data⟩ : Pn).find k = -1 from Pn.find_out hm] at hi'
    clear hi hc hm he
    go_enter Tryz.func64, Tryz.ntmps64
    go_wp2_with fail
    go_at_call 97
    refine hi'.mono ?_
    rintro e w1 ⟨rfl, rfl⟩
    go_wp2_with fail
    go_at_call 109
    refine (hr _ hb).mono ?_
    rintro e w2 ⟨rfl, hb2⟩
    go_wp2_with fail
    go_ret2
    exact ⟨by rw [Hw.out]; rfl, bt hb hb2⟩
set_option maxRecDepth 100000 in
theorem r5_look (D : Dk) (L : Pn) (p q p' q' : Pl) (w : World) (hD : IsDk w D p q) (hL : IsPn w L p' q') (k : Int) (hl : D.data.length = D.sz * 64) (ht : L.targets.length ≤ 1000000) (he : L.targets.length = L.data.length) :
    Calls Tryz.prog 58 #[dval D p q, pval L p' q', .int .i64 k] w fun e w' => e = .returned (.tuple #[.string (bs (Pn.look D L k).1), .int .i64 (Pn.look D L k).2]) ∧ Below w.heap.size w w' := by
  have hi := fun (W : World) (hb : Below w.heap.size w W) => r5_find L p' q' k W (hL.below hb) (by omega)
  have hr := fun (W : World) (hb : Below w.heap.size w W) => r1_read D p q W (hD.below hb) k hl
  have hc := fun (W : World) (hb : Below w.heap.size w W) => hL.data.below hb
  clear hL hD
  obtain ⟨A1, c1⟩ := p
  obtain ⟨A2, c2⟩ := q
  obtain ⟨B1, d1⟩ := p'
  obtain ⟨B2, d2⟩ := q'
  simp only at hc
  have hb := below_two w (.cells #[.string (bs D.data), .slice A1 D.cache.length c1, .int .i64 D.fuse, .bool D.off, .slice A2 D.bad.length c2] 25) (.cells #[.slice B1 L.targets.length d1, .slice B2 L.data.length d2] 28)
  have x0 := (Blk.new w 25 #[.string (bs D.data), .slice A1 D.cache.length c1, .int .i64 D.fuse, .bool D.off, .slice A2 D.bad.length c2]).alloc (.cells #[.slice B1 L.targets.length d1, .slice B2 L.data.length d2] 28)
  have z0 := Blk.new (w.alloc (.cells #[.string (bs D.data), .slice A1 D.cache.length c1, .int .i64 D.fuse, .bool D.off, .slice A2 D.bad.length c2] 25)) 28 #[.slice B1 L.targets.length d1, .slice B2 L.data.length d2]
  simp only [World.size_alloc] at z0
  by_cases hm : k ∈ L.targets
  · obtain ⟨i, hi0, h1, h2, h3⟩ := Pn.find_in hm
    have hid0 : i < L.data.length := by omega
    have Hw := hid (show Pn.look D L k = (L.data[i], 0) by rw [Pn.look, if_pos hm, h3, List.getD_eq_getElem?_getD, List.getElem?_eq_getElem hid0]; rfl)
    rw [h1] at hi
    clear hr h1 h2 h3 hm he
    go_enter Tryz.func58, Tryz.ntmps58
    go_wp2_with fail
    go_at_call 57
    refine (hi _ hb).mono ?_
    rintro e w1 ⟨rfl, hb1⟩
    have k1 := blk2 (z0.below hb1 (by simp))
    have b1 := bt hb hb1
    obtain ⟨pb, po, hpa, hcell⟩ := (hc _ b1).str hid0
    subst hpa
    have y0 := hcell i hid0
    clear hcell
    go_wp2_with fail
    go_ret2
    exact ⟨by rw [Hw.out]; rfl, b1⟩
  · have Hw := hid (show Pn.look D L k = D.read k by rw [Pn.look, if_neg hm])
    rw [Pn.find_out hm] at hi
    clear hc hm he
    go_enter Tryz.func58, Tryz.ntmps58
    go_wp2_with fail
    go_at_call 57
    refine (hi _ hb).mono ?_
    rintro e w1 ⟨rfl, hb1⟩
    have k1 := blk2 (z0.below hb1 (by simp))
    have k2 := blk5 (x0.below hb1 (by simp; omega))
    have b1 := bt hb hb1
    go_wp2_with fail
    go_at_call 107
    refine (hr _ b1).mono ?_
    rintro e w2 ⟨rfl, hb2⟩
    go_wp2_with fail
    go_ret2
    exact ⟨by rw [Hw.out]; rfl, bt b1 hb2⟩
set_option maxRecDepth 100000 in
set_option maxHeartbeats 1000000 in
theorem r5_same (L M : Pn) (p q p' q' : Pl) (w : World) (hL : IsPn w L p q) (hM : IsPn w M p' q') (ht : L.targets.length ≤ 1000000) (hd : L.data.length ≤ 1000000) (ht' : M.targets.length ≤ 1000000) (hd' : M.data.length ≤ 1000000) :
    Calls Tryz.prog 17 #[pval L p q, pval M p' q'] w fun e w' => e = .returned (.bool (L.same M)) ∧ Below w.heap.size w w' := by
  have c1 := fun (W : World) (hb : Below w.heap.size w W) => hL.targets.below hb
  have c2 := fun (W : World) (hb : Below w.heap.size w W) => hM.targets.below hb
  have c3 := fun (W : World) (hb : Below w.heap.size w W) => hL.data.below hb
  have c4 := fun (W : World) (hb : Below w.heap.size w W) => hM.data.below hb
  clear hL hM
  obtain ⟨A1, a1⟩ := p
  obtain ⟨A2, a2⟩ := q
  obtain ⟨B1, d1⟩ := p'
  obtain ⟨B2, d2⟩ := q'
  simp only at c1 c2 c3 c4
  have hb := below_two w (.cells #[.slice A1 L.targets.length a1, .slice A2 L.data.length a2] 28) (.cells #[.slice B1 M.targets.length d1, .slice B2 M.data.length d2] 28)
  have x0 := (Blk.new w 28 #[.slice A1 L.targets.length a1, .slice A2 L.data.length a2]).alloc (.cells #[.slice B1 M.targets.length d1, .slice B2 M.data.length d2] 28)
  have z0 := Blk.new (w.alloc (.cells #[.slice A1 L.targets.length a1, .slice A2 L.data.length a2] 28)) 28 #[.slice B1 M.targets.length d1, .slice B2 M.data.length d2]
  simp only [World.size_alloc] at z0
  by_cases h1 : L.targets.length = M.targets.length
  case neg =>
    have Hf := hid (show L.same M = false by
      have : L.targets ≠ M.targets := fun e => h1 (by rw [e])
      simp [Pn.same, this])
    have n1 : ((L.targets.length : Int) != M.targets.length) = true := by simp; omega
    clear h1
    go_enter Tryz.func17, Tryz.ntmps17
    go_wp2_with fail
    go_ret
    exact ⟨by rw [Hf.out]; rfl, hb⟩
  have n1 : ((L.targets.length : Int) != M.targets.length) = false := by simp; omega
  have H1 := hid h1
  clear h1
  by_cases h2 : L.data.length = M.data.length
  case neg =>
    have Hf := hid (show L.same M = false by
      have : L.data ≠ M.data := fun e => h2 (by rw [e])
      simp [Pn.same, this])
    have n2 : ((L.data.length : Int) != M.data.length) = true := by simp; omega
    clear h2
    go_enter Tryz.func17, Tryz.ntmps17
    go_wp2_with fail
    go_ret
    exact ⟨by rw [Hf.out]; rfl, hb⟩
  have n2 : ((L.data.length : Int) != M.data.length) = false := by simp; omega
  have H2 := hid h2
  clear h2
  go_enter Tryz.func17, Tryz.ntmps17
  go_wp2_with fail
  go_loopw [5] (fun x W => ∃ i : Nat, i ≤ L.targets.length ∧ x = .int .i64 i ∧ Hid (∀ j (hj : j < L.targets.length) (hj' : j < M.targets.length), j < i → L.targets[j] = M.targets[j]) ∧
    (Blk W w.heap.size 28 #[.slice A1 L.targets.length a1, .slice A2 L.data.length a2] ∧ Blk W (w.heap.size + 1) 28 #[.slice B1 M.targets.length d1, .slice B2 M.data.length d2]) ∧ Below w.heap.size w W) (fun x _ => L.targets.length - (intOf x).toNat)
  case atStart => exact ⟨0, Nat.zero_le _, rfl, hid (fun j hj hj' h0 => by omega), ⟨x0, z0⟩, hb⟩
  case round =>
    clear x0 z0 hb
    obtain ⟨i, hi, rfl, hok, ⟨hx, hz⟩, hb⟩ := hrel
    have k0 := blk2 hx
    have k1 := blk2 hz
    have K0 := ext2 hx
    have K1 := ext2 hz
    by_cases hlt : i < L.targets.length
    · have hlt' : i < M.targets.length := by have := H1.out; omega
      obtain ⟨pb, po, hpa, hcell⟩ := (c1 _ hb).int hlt
      obtain ⟨pb', po', hpa', hcell'⟩ := (c2 _ hb).int hlt'
      subst hpa
      subst hpa'
      have y0 := hcell i hlt
      have y1 := hcell' i hlt'
      have Y0 := fun e : Ext wr => e.cell y0
      have Y1 := fun e : Ext wr => e.cell y1
      clear hcell hcell'
      by_cases he : L.targets[i] = M.targets[i]
      · have he1 : (L.targets[i] != M.targets[i]) = false := by simp [he]
        have He := hid he; clear he
        go_wp2_with fail
        refine wp_region_ext mixed (by kernel_rfl) ?_
        repeat (go_big_quiet_step ((fail)))
        refine wpQuiet_nil ?_
        rintro w2 ⟨pq_, hpq_⟩
        have hb2 := pq_.below
        rw [← hpq_] at hb2
        clear hpq_ pq_
        go_wp2_with fail
        go_roundw
        case rel => exact ⟨i + 1, by omega, by go_num, hid (fun j hj hj' hji => by
          rcases Nat.lt_or_ge j i with h' | h'
          · exact hok.out j hj hj' h'
          · obtain rfl : j = i := by omega
            exact He.out), ⟨hx.below hb2 hx.lt, hz.below hb2 hz.lt⟩, bt hb hb2⟩
        case measure => simp [intOf]; omega
      · have Hf := hid (show L.same M = false by
          have := ne_at i hlt hlt' he
          simp [Pn.same, this])
        have he1 : (L.targets[i] != M.targets[i]) = true := by simpa using he
        clear he
        go_wp2_with fail
        refine wp_region_ext mixed (by kernel_rfl) ?_
        repeat (go_big_quiet_step ((fail)))
        refine wpQuiet_nil ?_
        rintro w2 ⟨pq_, hpq_⟩
        have hb2 := pq_.below
        rw [← hpq_] at hb2
        clear hpq_ pq_
        go_wp2_with fail
        go_ret
        exact ⟨by rw [Hf.out]; rfl, bt hb hb2⟩
    · have Ht := hid (eq_of_parts H1.out (show L.targets.length ≤ i by omega) hok.out)
      clear hok K0 K1
      go_wp2_with fail
      go_loopw [6] (fun x W => ∃ i : Nat, i ≤ L.data.length ∧ x = .int .i64 i ∧ Hid (∀ j (hj : j < L.data.length) (hj' : j < M.data.length), j < i → L.data[j] = M.data[j]) ∧
        (Blk W w.heap.size 28 #[.slice A1 L.targets.length a1, .slice A2 L.data.length a2] ∧ Blk W (w.heap.size + 1) 28 #[.slice B1 M.targets.length d1, .slice B2 M.data.length d2]) ∧ Below w.heap.size w W) (fun x _ => L.data.length - (intOf x).toNat)
      case atStart => exact ⟨0, Nat.zero_le _, rfl, hid (fun j hj hj' h0 => by omega), ⟨hx, hz⟩, hb⟩
      case round =>
        clear hx hz hb k0 k1
        obtain ⟨j, hj, rfl, hok, ⟨hx, hz⟩, hb⟩ := hrel
        have k0 := blk2 hx
        have k1 := blk2 hz
        have K0 := ext2 hx
        have K1 := ext2 hz
        by_cases hlt2 : j < L.data.length
        · have hlt' : j < M.data.length := by have := H2.out; omega
          obtain ⟨pb, po, hpa, hcell⟩ := (c3 _ hb).str hlt2
          obtain ⟨pb', po', hpa', hcell'⟩ := (c4 _ hb).str hlt'
          subst hpa
          subst hpa'
          have y0 := hcell j hlt2
          have y1 := hcell' j hlt'
          have Y0 := fun e : Ext wr => e.cell y0
          have Y1 := fun e : Ext wr => e.cell y1
          clear hcell hcell'
          by_cases he : L.data[j] = M.data[j]
          · have he1 : (L.data[j] == M.data[j]) = true := by simp [he]
            have He := hid he; clear he
            go_wp2_with fail
            refine wp_region_ext mixed (by kernel_rfl) ?_
            repeat (go_big_quiet_step ((fail)))
            refine wpQuiet_nil ?_
            rintro w2 ⟨pq_, hpq_⟩
            have hb2 := pq_.below
            rw [← hpq_] at hb2
            clear hpq_ pq_
            go_wp2_with fail
            go_roundw
            case rel => exact ⟨j + 1, by omega, by go_num, hid (fun k hk hk' hkj => by
              rcases Nat.lt_or_ge k j with h' | h'
              · exact hok.out k hk hk' h'
              · obtain rfl : k = j := by omega
                exact He.out), ⟨hx.below hb2 hx.lt, hz.below hb2 hz.lt⟩, bt hb hb2⟩
            case measure => simp [intOf]; omega
          · have Hf := hid (show L.same M = false by
              have := ne_at j hlt2 hlt' he
              simp [Pn.same, this])
            have he1 : (L.data[j] == M.data[j]) = false := by simpa using he
            clear he
            go_wp2_with fail
            refine wp_region_ext mixed (by kernel_rfl) ?_
            repeat (go_big_quiet_step ((fail)))
            refine wpQuiet_nil ?_
            rintro w2 ⟨pq_, hpq_⟩
            have hb2 := pq_.below
            rw [← hpq_] at hb2
            clear hpq_ pq_
            go_wp2_with fail
            go_ret
            exact ⟨by rw [Hf.out]; rfl, bt hb hb2⟩
        · have Hd := eq_of_parts H2.out (show L.data.length ≤ j by omega) hok.out
          have Hf := hid (show L.same M = true by simp [Pn.same, Ht.out, Hd])
          clear hok K0 K1 Hd
          go_wp2_with fail
          go_ret
          exact ⟨by rw [Hf.out]; rfl, hb⟩
end Go.Proofs.YtjhnaeomaigimaaGreatDoor
