/- The document's own answers for devices (package cofferdamref01), function by function. -/
import Derived.Test.YtlapjkbefkmohaaGreatSdPlain1
import Derived.Test.YtlapjkbefkmohaaGreatSdRegs
import Derived.Test.YtlapjkbefkmohaaGreatRows
import Derived.Shelf.SlicesE.Kit
set_option linter.unusedVariables false
namespace Go.Proofs.YtlapjkbefkmohaaGreat
open Go.RowKit Go.Shelf
attribute [local go_sem] bs_mk bs_append bs_extract bs_size bs_toList bs_get

theorem r1_size (D : Dk) (p q : Pl) (h : D.data.length ≤ 140737488355328) (w : World) :
 Calls Tryz.prog 44 #[dval D p q] w fun e w' => e = .returned (.int .i64 (D.sz : Nat)) ∧ Below w.heap.size w w' := by
 go_enter Tryz.func44, Tryz.ntmps44
 go_wp2
 go_ret
 exact ⟨by simp [Dk.sz], (Below.refl _ _).alloc (Nat.le_refl _) _⟩
theorem r1_there (D : Dk) (p q : Pl) (h : D.data.length ≤ 140737488355328) (k : Int) (w : World) :
 Calls Tryz.prog 68 #[dval D p q, .int .i64 k] w fun e w' => e = .returned (.bool (D.there k)) ∧ Below w.heap.size w w' := by
 by_cases hk : 0 ≤ k
 · have hd : decide (0 ≤ k) = true := by simpa using hk
   go_enter Tryz.func68, Tryz.ntmps68
   go_wp2_with (go_at_call 44; refine (r1_size D p q h _).mono ?_; rintro e w1 ⟨rfl, hb⟩)
   go_ret
   exact ⟨by simp [Dk.there, hd], bt ((Below.refl _ _).alloc (Nat.le_refl _) _) hb⟩
 · have hd : decide (0 ≤ k) = false := by simpa using hk
   go_enter Tryz.func68, Tryz.ntmps68
   go_wp2
   go_ret
   exact ⟨by simp [Dk.there, hd], (Below.refl _ _).alloc (Nat.le_refl _) _⟩
/-- The head of Fit says no. -/
theorem r1_fit_head (D : Dk) (p q : Pl) (h : D.data.length ≤ 140737488355328) (hc : D.cache.length ≤ 4398046511104) (hbad : D.sz < 1 ∨ 1024 < D.sz ∨ D.data.length % 64 ≠ 0 ∨ 4096 < D.cache.length) (w : World) :
 Calls Tryz.prog 43 #[dval D p q] w fun e w' => e = .returned (.bool D.fit) ∧ Below w.heap.size w w' := by
 have hf : D.fit = false := by
  simp only [Dk.fit, Bool.and_eq_false_iff, decide_eq_false_iff_not]; omega
 rw [hf]
 have hb0 := (Below.refl w.heap.size w).alloc (Nat.le_refl _) (.cells #[.string (bs D.data), .slice p.a D.cache.length p.c, .int .i64 D.fuse, .bool D.off, .slice q.a D.bad.length q.c] 25)
 by_cases h1 : D.sz < 1
 · go_enter Tryz.func43, Tryz.ntmps43
   go_wp2_with (go_at_call 44; refine (r1_size D p q h _).mono ?_; rintro e w1 ⟨rfl, hb⟩)
   go_ret
   exact ⟨rfl, bt hb0 hb⟩
 · by_cases h2 : 1024 < D.sz
   · go_enter Tryz.func43, Tryz.ntmps43
     go_wp2_with (go_at_call 44; refine (r1_size D p q h _).mono ?_; rintro e w1 ⟨rfl, hb⟩)
     go_ret
     exact ⟨rfl, bt hb0 hb⟩
   · by_cases h3 : D.data.length % 64 = 0
     · have h4 : 4096 < D.cache.length := by omega
       have h3' : ((D.data.length : Int) % 64 != 0) = false := by simp; omega
       have H3 := hid h3; clear h3
       go_enter Tryz.func43, Tryz.ntmps43
       go_wp2_with (go_at_call 44; refine (r1_size D p q h _).mono ?_; rintro e w1 ⟨rfl, hb⟩; obtain ⟨k0, k1, k2, k3, k4⟩ := blk5 (blk_new _ _ hb))
       go_ret
       exact ⟨rfl, bt hb0 hb⟩
     · have h3' : ((D.data.length : Int) % 64 != 0) = true := by simp; omega
       clear h3
       go_enter Tryz.func43, Tryz.ntmps43
       go_wp2_with (go_at_call 44; refine (r1_size D p q h _).mono ?_; rintro e w1 ⟨rfl, hb⟩; obtain ⟨k0, k1, k2, k3, k4⟩ := blk5 (blk_new _ _ hb))
       go_ret
       exact ⟨rfl, bt hb0 hb⟩
set_option maxHeartbeats 1000000 in
set_option maxRecDepth 100000 in
theorem r1_fit_rest (D : Dk) (p q : Pl) (w : World) (hD : IsDk w D p q) (h1 : 1 ≤ D.sz) (h2 : D.sz ≤ 1024) (h3 : D.data.length % 64 = 0) (h4 : D.cache.length ≤ 4096) :
 Calls Tryz.prog 43 #[dval D p q] w fun e w' => e = .returned (.bool D.fit) ∧ Below w.heap.size w w' := by
 obtain ⟨A1, c1⟩ := p
 obtain ⟨A2, c2⟩ := q
 have h := hD.data
 have hcl := hD.cl
 have hbl := hD.bl
 have hb0 := (Below.refl w.heap.size w).alloc (Nat.le_refl _) (.cells #[.string (bs D.data), .slice A1 D.cache.length c1, .int .i64 D.fuse, .bool D.off, .slice A2 D.bad.length c2] 25)
 have h3' : ((D.data.length : Int) % 64 != 0) = false := by simp; omega
 have H3 := hid h3; clear h3
 go_enter Tryz.func43, Tryz.ntmps43
 go_wp2_with (go_at_call 44; refine (r1_size D ⟨A1, c1⟩ ⟨A2, c2⟩ h _).mono ?_; rintro e w1 ⟨rfl, hb⟩; have hbx := blk_new _ _ hb; obtain ⟨k0, k1, k2, k3, k4⟩ := blk5 hbx)
 replace hb := bt hb0 hb
 clear hb0 k0 k1 k2 k3 k4
 go_loopw [4] (fun x W => ∃ i : Nat, i ≤ D.cache.length ∧ x = .int .i64 i ∧ Hid (∀ j (hj : j < D.cache.length), j < i → D.putOk D.cache[j] = true) ∧
  Blk W w.heap.size 25 #[.string (bs D.data), .slice A1 D.cache.length c1, .int .i64 D.fuse, .bool D.off, .slice A2 D.bad.length c2] ∧ Below w.heap.size w W) (fun x _ => D.cache.length - (intOf x).toNat)
 case atStart => exact ⟨0, Nat.zero_le _, rfl, hid (fun j hj h0 => by omega), hbx, hb⟩
 case round =>
  clear hbx hb
  obtain ⟨i, hi, rfl, hok, hbx, hb⟩ := hrel
  obtain ⟨k0, k1, k2, k3, k4⟩ := blk5 hbx
  by_cases hlt : i < D.cache.length
  · obtain ⟨pb, po, hpa, hcell⟩ := (hD.below hb).cache.put hlt
    simp only at hpa
    subst hpa
    obtain ⟨d0, d1⟩ := hcell i hlt
    have Hcell := hid hcell; clear hcell
    have hat := hD.ats _ (List.getElem_mem hlt)
    have hln := hD.strs _ (List.getElem_mem hlt)
    have hthere := r1_there D ⟨some ⟨pb, po, none⟩, c1⟩ ⟨A2, c2⟩ h D.cache[i].1
    have K0 := fun e : Ext wr => e.cell k0
    have K1 := fun e : Ext wr => e.cell k1
    have K2 := fun e : Ext wr => e.cell k2
    have K3 := fun e : Ext wr => e.cell k3
    have K4 := fun e : Ext wr => e.cell k4
    have C0 := fun e : Ext wr => e.cell d0
    have C1 := fun e : Ext wr => e.cell d1
    rcases Bool.eq_false_or_eq_true (D.there D.cache[i].1) with hth | hth
    · rw [hth] at hthere
      by_cases hl : D.cache[i].2.length = 64
      · have hl' : ((D.cache[i].2.length : Int) != 64) = false := by simp; omega
        have Hok := hid (show D.putOk D.cache[i] = true by simp [Dk.putOk, hth, hl])
        clear hth hl
        go_wp2_with fail
        refine wp_region_ext mixed (by kernel_rfl) ?_
        repeat (go_big_quiet_step ((go_at_call 68; with_reducible exact ext_of (hthere _))))
        refine wpQuiet_nil ?_
        rintro _ ⟨⟨w2, hb2⟩, rfl⟩
        go_wp2_with fail
        go_roundw
        case rel => exact ⟨i + 1, by omega, by go_num, hid (fun j hj hji => by
         rcases Nat.lt_or_ge j i with h' | h'
         · exact hok.out j hj h'
         · obtain rfl : j = i := by omega
           exact Hok.out), hbx.below hb2 hbx.lt, bt hb hb2⟩
        case measure => simp [intOf]; omega
      · have hl' : ((D.cache[i].2.length : Int) != 64) = true := by simp; omega
        have Hno := hid (Dk.fit_no_put hlt (show D.putOk D.cache[i] = false by simp [Dk.putOk, hth, hl]))
        clear hth hl
        go_wp2_with fail
        refine wp_region_ext mixed (by kernel_rfl) ?_
        repeat (go_big_quiet_step ((go_at_call 68; with_reducible exact ext_of (hthere _))))
        refine wpQuiet_nil ?_
        rintro _ ⟨⟨w2, hb2⟩, rfl⟩
        go_wp2_with fail
        go_ret
        exact ⟨by rw [Hno.out]; rfl, bt hb hb2⟩
    · rw [hth] at hthere
      have Hno := hid (Dk.fit_no_put hlt (show D.putOk D.cache[i] = false by simp [Dk.putOk, hth]))
      clear hth
      go_wp2_with fail
      refine wp_region_ext mixed (by kernel_rfl) ?_
      repeat (go_big_quiet_step ((go_at_call 68; with_reducible exact ext_of (hthere _))))
      refine wpQuiet_nil ?_
      rintro _ ⟨⟨w2, hb2⟩, rfl⟩
      go_wp2_with fail
      go_ret
      exact ⟨by rw [Hno.out]; rfl, bt hb hb2⟩
  · have Hall := hid (show ∀ j (hj : j < D.cache.length), D.putOk D.cache[j] = true from fun j hj => hok.out j hj (by omega))
    clear hok
    go_wp2_with fail
    go_loopw [5] (fun x W => ∃ i : Nat, i ≤ D.bad.length ∧ x = .int .i64 i ∧ Hid (∀ j (hj : j < D.bad.length), j < i → D.there D.bad[j] = true ∧ (0 < j → D.bad[j - 1] < D.bad[j])) ∧
     Blk W w.heap.size 25 #[.string (bs D.data), .slice A1 D.cache.length c1, .int .i64 D.fuse, .bool D.off, .slice A2 D.bad.length c2] ∧ Below w.heap.size w W) (fun x _ => D.bad.length - (intOf x).toNat)
    case atStart => exact ⟨0, Nat.zero_le _, rfl, hid (fun j hj h0 => by omega), hbx, hb⟩
    case round =>
     clear hbx hb k0 k1 k2 k3 k4
     obtain ⟨k, hk, rfl, hok, hbx, hb⟩ := hrel
     obtain ⟨k0, k1, k2, k3, k4⟩ := blk5 hbx
     by_cases hlt : k < D.bad.length
     · obtain ⟨pb, po, hpa, hcell⟩ := (hD.below hb).bad.int hlt
       simp only at hpa
       subst hpa
       have d0 := hcell k hlt
       have Hcell := hid hcell; clear hcell
       have hat := hD.bads _ (List.getElem_mem hlt)
       have hthere := r1_there D ⟨A1, c1⟩ ⟨some ⟨pb, po, none⟩, c2⟩ h D.bad[k]
       have K0 := fun e : Ext wr => e.cell k0
       have K1 := fun e : Ext wr => e.cell k1
       have K2 := fun e : Ext wr => e.cell k2
       have K3 := fun e : Ext wr => e.cell k3
       have K4 := fun e : Ext wr => e.cell k4
       have D0 := fun e : Ext wr => e.cell d0
       rcases Bool.eq_false_or_eq_true (D.there D.bad[k]) with hth | hth
       · rw [hth] at hthere
         by_cases h0 : 0 < k
         · have h0' : decide ((0 : Int) < k) = true := by simp; omega
           have hk1 : (0 : Int) ≤ (k : Int) - 1 := by omega
           have e0 := Hcell.out (k - 1) (by omega)
           have hat0 := hD.bads _ (List.getElem_mem (show k - 1 < D.bad.length by omega))
           have E0 := fun e : Ext wr => e.cell e0
           by_cases hl : D.bad[k] ≤ D.bad[k - 1]
           · have hl' : decide (D.bad[k] ≤ D.bad[k - 1]) = true := by simpa using hl
             have Hno := hid (Dk.fit_no_incr hlt h0 hl)
             clear hth hl
             go_wp2_with fail
             refine wp_region_ext mixed (by kernel_rfl) ?_
             repeat (go_big_quiet_step ((go_at_call 68; with_reducible exact ext_of (hthere _))))
             refine wpQuiet_nil ?_
             rintro _ ⟨⟨w2, hb2⟩, rfl⟩
             go_wp2_with fail
             go_ret
             exact ⟨by rw [Hno.out]; rfl, bt hb hb2⟩
           · have hl' : decide (D.bad[k] ≤ D.bad[k - 1]) = false := by simpa using hl
             have Hok := hid (show D.there D.bad[k] = true ∧ (0 < k → D.bad[k - 1] < D.bad[k]) from ⟨hth, fun _ => by omega⟩)
             clear hth hl
             go_wp2_with fail
             refine wp_region_ext mixed (by kernel_rfl) ?_
             repeat (go_big_quiet_step ((go_at_call 68; with_reducible exact ext_of (hthere _))))
             refine wpQuiet_nil ?_
             rintro _ ⟨⟨w2, hb2⟩, rfl⟩
             go_wp2_with fail
             go_roundw
             case rel => exact ⟨k + 1, by omega, by go_num, hid (fun j hj hji => by
              rcases Nat.lt_or_ge j k with h' | h'
              · exact hok.out j hj h'
              · obtain rfl : j = k := by omega
                exact Hok.out), hbx.below hb2 hbx.lt, bt hb hb2⟩
             case measure => simp [intOf]; omega
         · have h0' : decide ((0 : Int) < k) = false := by simp; omega
           have Hok := hid (show D.there D.bad[k] = true ∧ (0 < k → D.bad[k - 1] < D.bad[k]) from ⟨hth, fun _ => by omega⟩)
           clear hth
           go_wp2_with fail
           refine wp_region_ext mixed (by kernel_rfl) ?_
           repeat (go_big_quiet_step ((go_at_call 68; with_reducible exact ext_of (hthere _))))
           refine wpQuiet_nil ?_
           rintro _ ⟨⟨w2, hb2⟩, rfl⟩
           go_wp2_with fail
           go_roundw
           case rel => exact ⟨k + 1, by omega, by go_num, hid (fun j hj hji => by
            rcases Nat.lt_or_ge j k with h' | h'
            · exact hok.out j hj h'
            · obtain rfl : j = k := by omega
              exact Hok.out), hbx.below hb2 hbx.lt, bt hb hb2⟩
           case measure => simp [intOf]; omega
       · rw [hth] at hthere
         have Hno := hid (Dk.fit_no_bad hlt hth)
         clear hth
         go_wp2_with fail
         refine wp_region_ext mixed (by kernel_rfl) ?_
         repeat (go_big_quiet_step ((go_at_call 68; with_reducible exact ext_of (hthere _))))
         refine wpQuiet_nil ?_
         rintro _ ⟨⟨w2, hb2⟩, rfl⟩
         go_wp2_with fail
         go_ret
         exact ⟨by rw [Hno.out]; rfl, bt hb hb2⟩
     · have hf : D.fit = true := Dk.fit_yes h1 h2 H3.out h4 (fun j hj => Hall.out j hj) (fun j hj => (hok.out j hj (by omega)).1) (fun j hj h0 => (hok.out j hj (by omega)).2 h0)
       have Hf := hid hf; clear hf
       clear hok
       go_wp2_with fail
       go_ret
       exact ⟨by rw [Hf.out]; rfl, hb⟩
theorem r1_bad (D : Dk) (p q : Pl) (w : World) (hD : IsDk w D p q) (k : Int) :
 Calls Tryz.prog 69 #[dval D p q, .int .i64 k] w fun e w' => e = .returned (.bool (decide (k ∈ D.bad))) ∧ Below w.heap.size w w' := by
 obtain ⟨A1, c1⟩ := p
 obtain ⟨A2, c2⟩ := q
 have hbl := hD.bl
 have hbx := Blk.new w 25 #[.string (bs D.data), .slice A1 D.cache.length c1, .int .i64 D.fuse, .bool D.off, .slice A2 D.bad.length c2]
 have hb := (Below.refl w.heap.size w).alloc (Nat.le_refl _) (.cells #[.string (bs D.data), .slice A1 D.cache.length c1, .int .i64 D.fuse, .bool D.off, .slice A2 D.bad.length c2] 25)
 go_enter Tryz.func69, Tryz.ntmps69
 go_wp2_with fail
 go_loopw [5] (fun x W => ∃ i : Nat, i ≤ D.bad.length ∧ x = .int .i64 i ∧ Hid (∀ j (hj : j < D.bad.length), j < i → D.bad[j] ≠ k) ∧
  Blk W w.heap.size 25 #[.string (bs D.data), .slice A1 D.cache.length c1, .int .i64 D.fuse, .bool D.off, .slice A2 D.bad.length c2] ∧ Below w.heap.size w W) (fun x _ => D.bad.length - (intOf x).toNat)
 case atStart => exact ⟨0, Nat.zero_le _, rfl, hid (fun j hj h0 => by omega), hbx, hb⟩
 case round =>
  clear hbx hb
  obtain ⟨i, hi, rfl, hok, hbx, hb⟩ := hrel
  have k0 := blk5 hbx
  by_cases hlt : i < D.bad.length
  · obtain ⟨pb, po, hpa, hcell⟩ := (hD.below hb).bad.int hlt
    simp only at hpa
    subst hpa
    have d0 := hcell i hlt
    have Hcell := hid hcell; clear hcell
    by_cases he : D.bad[i] = k
    · have he' : (D.bad[i] == k) = true := by simpa using he
      have Hin := hid (show decide (k ∈ D.bad) = true by rw [decide_eq_true_eq, ← he]; exact List.getElem_mem hlt)
      clear he
      go_wp2_with fail
      go_ret
      exact ⟨by rw [Hin.out]; rfl, hb⟩
    · have he' : (D.bad[i] == k) = false := by simpa using he
      have He := hid he; clear he
      go_wp2_with fail
      go_roundw
      case rel => exact ⟨i + 1, by omega, by go_num, hid (fun j hj hji => by
       rcases Nat.lt_or_ge j i with h' | h'
       · exact hok.out j hj h'
       · obtain rfl : j = i := by omega
         exact He.out), hbx, hb⟩
      case measure => simp [intOf]; omega
  · have Hin := hid (show decide (k ∈ D.bad) = false by
     rw [decide_eq_false_iff_not]; intro hm; obtain ⟨j, hj, he⟩ := List.getElem_of_mem hm; exact hok.out j hj (by omega) he)
    clear hok
    go_wp2_with fail
    go_ret
    exact ⟨by rw [Hin.out]; rfl, hb⟩
end Go.Proofs.YtlapjkbefkmohaaGreat
