/- Package plan: a plan in which a sector is set anew, or which is full. The document's ref05, function by function: which plans can be. -/
import Derived.Test.YtplgmlcoeehnfaaGreatJcPlan3
import Derived.Deep.RegionHeld3
import Derived.Deep.DeepCutAuto
set_option linter.unusedVariables false
namespace Go.Proofs.YtplgmlcoeehnfaaGreat
open Go.RowKit Go.Shelf
attribute [local go_sem] bs_mk bs_append bs_extract bs_size bs_toList bs_get
theorem own_below {w w' : World} {base : Nat} {e : TypeId} {size n : Nat} {v : Value} {xs : List Value} (h : w.ownsRow base e size v n xs) (hb : Below w.heap.size w w') : w'.ownsRow base e size v n xs := by
  refine ⟨h.1, ?_⟩
  rcases h.2 with h' | ⟨g, cap, cur, h1, h2, h3, h4⟩
  · exact .inl h'
  · exact .inr ⟨g, cap, cur, h1, h2, (hb.block g (Array.getElem?_eq_some_iff.1 h3).1).trans h3, h4⟩
theorem own_base {w : World} {base base' : Nat} {e : TypeId} {size n : Nat} {v : Value} {xs : List Value} (h : w.ownsRow base' e size v n xs) (hb : base ≤ base') : w.ownsRow base e size v n xs := by
  refine ⟨h.1, ?_⟩
  rcases h.2 with h' | ⟨g, cap, cur, h1, h2, h3⟩
  · exact .inl h'
  · exact .inr ⟨g, cap, cur, h1, by omega, h3⟩
end Go.Proofs.YtplgmlcoeehnfaaGreat
set_option linter.unusedVariables false
namespace Go.Proofs.YtplgmlcoeehnfaaGreat
open Go.RowKit Go.Shelf
attribute [local go_sem] bs_mk bs_append bs_extract bs_size bs_toList bs_get

namespace Pn
theorem fit_len {L : Pn} (h : L.Fit) : L.targets.length = L.data.length ∧ L.targets.length ≤ 24 := ⟨h.1, h.2.1⟩
end Pn
set_option maxRecDepth 100000 in
theorem r5_fit_head (L : Pn) (p q : Pl) (w : World) (hL : IsPn w L p q) (ht : L.targets.length ≤ 9223372036854775807) (hd : L.data.length ≤ 9223372036854775807) (h : L.targets.length ≠ L.data.length ∨ 24 < L.targets.length) :
    Calls Tryz.prog 18 #[pval L p q] w fun e w' => e = .returned (.bool L.fit) ∧ Below w.heap.size w w' := by
  have Hf := hid (Pn.fit_no (L := L) (fun hf => by have := Pn.fit_len hf; omega))
  obtain ⟨A1, c1⟩ := p
  obtain ⟨A2, c2⟩ := q
  have b0 := (Below.refl w.heap.size w).alloc (Nat.le_refl _) (.cells #[.slice A1 L.targets.length c1, .slice A2 L.data.length c2] 28)
  by_cases h1 : L.targets.length = L.data.length
  · have n1 : ((L.targets.length : Int) != L.data.length) = false := by simp; omega
    have n2 : 24 < L.targets.length := by omega
    clear h h1
    go_enter Tryz.func18, Tryz.ntmps18
    go_wp2_with fail
    go_ret
    exact ⟨by rw [Hf.out]; rfl, b0⟩
  · have n1 : ((L.targets.length : Int) != L.data.length) = true := by simp; omega
    clear h h1
    go_enter Tryz.func18, Tryz.ntmps18
    go_wp2_with fail
    go_ret
    exact ⟨by rw [Hf.out]; rfl, b0⟩
set_option maxRecDepth 100000 in
set_option maxHeartbeats 1000000 in
theorem r5_fit_rest (L : Pn) (p q : Pl) (w : World) (hL : IsPn w L p q) (h1 : L.targets.length = L.data.length) (h2 : L.targets.length ≤ 24) :
    Calls Tryz.prog 18 #[pval L p q] w fun e w' => e = .returned (.bool L.fit) ∧ Below w.heap.size w w' := by
  have c1 := fun (W : World) (hb : Below w.heap.size w W) => hL.targets.below hb
  have c2 := fun (W : World) (hb : Below w.heap.size w W) => hL.data.below hb
  have hst := hL.strs
  have hfd := fun (W : World) (hb : Below w.heap.size w W) (k : Int) => r5_find L p q k W (hL.below hb) (by omega)
  clear hL
  obtain ⟨A1, a1⟩ := p
  obtain ⟨A2, a2⟩ := q
  simp only at c1 c2
  have b0 := (Below.refl w.heap.size w).alloc (Nat.le_refl _) (.cells #[.slice A1 L.targets.length a1, .slice A2 L.data.length a2] 28)
  have x0 := Blk.new w 28 #[.slice A1 L.targets.length a1, .slice A2 L.data.length a2]
  have n1 : ((L.targets.length : Int) != L.data.length) = false := by simp; omega
  have H1 := hid h1
  have H2 := hid h2
  clear h1
  go_enter Tryz.func18, Tryz.ntmps18
  go_wp2_with fail
  go_loopw [3] (fun x W => ∃ i : Nat, i ≤ L.targets.length ∧ x = .int .i64 i ∧ Hid (∀ j (hj : j < L.targets.length) (hj' : j < L.data.length), j < i → (sectorOk L.targets[j] = true ∧ L.find L.targets[j] = j) ∧ L.data[j].length = 64) ∧
    Blk W w.heap.size 28 #[.slice A1 L.targets.length a1, .slice A2 L.data.length a2] ∧ Below w.heap.size w W) (fun x _ => L.targets.length - (intOf x).toNat)
  case atStart => exact ⟨0, Nat.zero_le _, rfl, hid (fun j hj hj' h0 => by omega), x0, b0⟩
  case round =>
    clear x0 b0
    obtain ⟨i, hi, rfl, hok, hx, hb⟩ := hrel
    have k0 := blk2 hx
    have K0 := ext2 hx
    by_cases hlt : i < L.targets.length
    · have hlt' : i < L.data.length := by have := H1.out; omega
      obtain ⟨pb, po, hpa, hcell⟩ := (c1 _ hb).int hlt
      obtain ⟨pb', po', hpa', hcell'⟩ := (c2 _ hb).str hlt'
      subst hpa
      subst hpa'
      have y0 := hcell i hlt
      have y1 := hcell' i hlt'
      have Y0 := fun e : Ext wr => e.cell y0
      have Y1 := fun e : Ext wr => e.cell y1
      have hsl := hst _ (List.getElem_mem hlt')
      clear hcell hcell'
      have s1 := fun e : Ext wr => r5_sector L.targets[i] e.world
      have s2 := fun e : Ext wr => hfd e.world (bt hb e.below) L.targets[i]
      cases e1 : sectorOk L.targets[i] with
      | false =>
        have Hf := hid (Pn.fit_no (L := L) (fun hf => by have := (hf.2.2.1 i hlt).1; rw [e1] at this; cases this))
        rw [e1] at s1
        clear e1
        go_wp2_with fail
        refine wp_region_ext mixed (by kernel_rfl) ?_
        repeat (go_big_quiet_step ((first | (go_at_call 68; with_reducible exact ext_of (s1 _)) | (go_at_call 31; with_reducible exact ext_of (s2 _)))))
        refine wpQuiet_nil ?_
        rintro w2 ⟨pq_, hpq_⟩
        have hb2 := pq_.below
        rw [← hpq_] at hb2
        clear hpq_ pq_
        go_wp2_with fail
        go_ret
        exact ⟨by rw [Hf.out]; rfl, bt hb hb2⟩
      | true =>
        rw [e1] at s1
        have E1 := hid e1
        clear e1
        by_cases e2 : L.find L.targets[i] = i
        · have m2 : ((L.find L.targets[i] : Int) != i) = false := by simpa using e2
          have E2 := hid e2
          clear e2
          by_cases e3 : L.data[i].length = 64
          · have m3 : ((L.data[i].length : Int) != 64) = false := by simp; omega
            have E3 := hid e3
            clear e3
            generalize L.find L.targets[i] = f at s2 m2
            go_wp2_with fail
            refine wp_region_ext mixed (by kernel_rfl) ?_
            repeat (go_big_quiet_step ((first | (go_at_call 68; with_reducible exact ext_of (s1 _)) | (go_at_call 31; with_reducible exact ext_of (s2 _)))))
            refine wpQuiet_nil ?_
            rintro w2 ⟨pq_, hpq_⟩
            have hb2 := pq_.below
            rw [← hpq_] at hb2
            clear hpq_ pq_
            go_wp2_with fail
            go_roundw
            case rel => exact ⟨i + 1, by omega, by go_num, hid (fun j hj hj' hji => by
              rcases Nat.lt_or_ge j i with h' | h'
              · exact hok.out j hj hj' h'
              · obtain rfl : j = i := by omega
                exact ⟨⟨E1.out, E2.out⟩, E3.out⟩), hx.below hb2 hx.lt, bt hb hb2⟩
            case measure => simp [intOf]; omega
          · have Hf := hid (Pn.fit_no (L := L) (fun hf => e3 (hf.2.2.2 i hlt')))
            have m3 : ((L.data[i].length : Int) != 64) = true := by simp; omega
            clear e3
            go_wp2_with fail
            refine wp_region_ext mixed (by kernel_rfl) ?_
            repeat (go_big_quiet_step ((first | (go_at_call 68; with_reducible exact ext_of (s1 _)) | (go_at_call 31; with_reducible exact ext_of (s2 _)))))
            refine wpQuiet_nil ?_
            rintro w2 ⟨pq_, hpq_⟩
            have hb2 := pq_.below
            rw [← hpq_] at hb2
            clear hpq_ pq_
            go_wp2_with fail
            go_ret
            exact ⟨by rw [Hf.out]; rfl, bt hb hb2⟩
        · have Hf := hid (Pn.fit_no (L := L) (fun hf => e2 (hf.2.2.1 i hlt).2))
          have m2 : ((L.find L.targets[i] : Int) != i) = true := by simpa using e2
          clear e2
          go_wp2_with fail
          refine wp_region_ext mixed (by kernel_rfl) ?_
          repeat (go_big_quiet_step ((first | (go_at_call 68; with_reducible exact ext_of (s1 _)) | (go_at_call 31; with_reducible exact ext_of (s2 _)))))
          refine wpQuiet_nil ?_
          rintro w2 ⟨pq_, hpq_⟩
          have hb2 := pq_.below
          rw [← hpq_] at hb2
          clear hpq_ pq_
          go_wp2_with fail
          go_ret
          exact ⟨by rw [Hf.out]; rfl, bt hb hb2⟩
    · have Hf := hid (Pn.fit_iff.2 (show L.Fit from ⟨H1.out, H2.out, fun j hj => (hok.out j hj (by have := H1.out; omega) (by omega)).1, fun j hj => (hok.out j (by have := H1.out; omega) hj (by have := H1.out; omega)).2⟩))
      clear hok K0
      go_wp2_with fail
      go_ret
      exact ⟨by rw [Hf.out]; rfl, hb⟩
theorem r5_fit (L : Pn) (p q : Pl) (w : World) (hL : IsPn w L p q) :
    Calls Tryz.prog 18 #[pval L p q] w fun e w' => e = .returned (.bool L.fit) ∧ Below w.heap.size w w' := by
  by_cases h : L.targets.length ≠ L.data.length ∨ 24 < L.targets.length
  · exact r5_fit_head L p q w hL (Nat.le_trans hL.pc hL.pm) (Nat.le_trans hL.qc hL.qm) h
  · exact r5_fit_rest L p q w hL (by omega) (by omega)
end Go.Proofs.YtplgmlcoeehnfaaGreat
