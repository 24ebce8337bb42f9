/- Package plan and the document's, function by function: which plans are the same, which can be, what will be there. Package super, function by function: its numbers; a first sector that is none. Package plan: a plan in which a sector is set anew, or which is full. The document's ref05, function by function: which plans can be. Package plan: a plan with a sector more (a new one). Packages pack and cofferdamref03: a text laid over another. Package plan: plans with a sector more; a sector's bytes laid over. -/
import Derived.Test.YtlapjkbefkmohaaGreatSdPlan1
import Derived.Test.YtlapjkbefkmohaaGreatSdRef01b
import Derived.Test.YtlapjkbefkmohaaGreatSdPackLaw
import Derived.Test.YtlapjkbefkmohaaGreatShelf
import Derived.Laws.EntriesVeiled
import Derived.Deep.RegionHeld3
import Derived.Deep.DeepCutAuto
import Derived.Test.YtlapjkbefkmohaaGreatSdRegs
import Derived.Deep.RegionLaw
import Derived.Deep.AppendLies
import Derived.Deep.CutBlock
import Derived.Test.YtlapjkbefkmohaaGreatSdPlain1
set_option linter.unusedVariables false
namespace Go.Proofs.YtlapjkbefkmohaaGreat
open Go.RowKit Go.Shelf
attribute [local go_sem] bs_mk bs_append bs_extract bs_size bs_toList bs_get

set_option maxRecDepth 100000 in
theorem pl_look (D : Dk) (L : Pn) (p q p' q' : Pl) (w : World) (hD : IsDk w D p q) (hL : IsPn w L p' q') (k : Int) (hl : D.data.length = D.sz * 64) (ht : L.targets.length ≤ 1000000) (he : L.targets.length = L.data.length) :
 Calls Tryz.prog 120 #[dval D p q, pval L p' q', .int .i64 k] w fun e w' => e = .returned (.tuple #[.string (bs (Pn.look D L k).1), .int .i64 (Pn.look D L k).2]) ∧ Below w.heap.size w w' := by
 have hi := fun (W : World) (hb : Below w.heap.size w W) => index_any p'.a L.targets p'.c k W (hL.targets.below hb) (by omega) L.data
 have hr := fun (W : World) (hb : Below w.heap.size w W) => d_read D p q W (hD.below hb) k hl
 have hc := fun (W : World) (hb : Below w.heap.size w W) => hL.data.below hb
 clear hL hD
 obtain ⟨A1, c1⟩ := p
 obtain ⟨A2, c2⟩ := q
 obtain ⟨B1, d1⟩ := p'
 obtain ⟨B2, d2⟩ := q'
 simp only at hi hc
 have hb := below_two w (.cells #[.string (bs D.data), .slice A1 D.cache.length c1, .int .i64 D.fuse, .bool D.off, .slice A2 D.bad.length c2] 25) (.cells #[.slice B1 L.targets.length d1, .slice B2 L.data.length d2] 67)
 by_cases hm : k ∈ L.targets
 · obtain ⟨i, hi0, h1, h2, h3⟩ := Pn.find_in hm
   have hid0 : i < L.data.length := by omega
   have Hw := hid (show Pn.look D L k = (L.data[i], 0) by rw [Pn.look, if_pos hm, h3, List.getD_eq_getElem?_getD, List.getElem?_eq_getElem hid0]; rfl)
   obtain ⟨pb, po, hpa, hcell⟩ := (hc _ hb).str hid0
   subst hpa
   have y0 := hcell i hid0
   clear hcell
   have hi' := hi _ hb
   rw [show (⟨L.targets, L.data⟩ : Pn).find k = i from h1] at hi'
   clear hi hr hc h1 h2 h3 hm he
   go_enter Tryz.func120, Tryz.ntmps120
   go_wp2_with fail
   go_at_call 125
   refine hi'.mono ?_
   rintro e w1 ⟨rfl, rfl⟩
   go_wp2_with fail
   go_ret2
   exact ⟨by rw [Hw.out]; rfl, hb⟩
 · have Hw := hid (show Pn.look D L k = D.read k by rw [Pn.look, if_neg hm])
   have hi' := hi _ hb
   rw [show (⟨L.targets, L.data⟩ : Pn).find k = -1 from Pn.find_out hm] at hi'
   clear hi hc hm he
   go_enter Tryz.func120, Tryz.ntmps120
   go_wp2_with fail
   go_at_call 125
   refine hi'.mono ?_
   rintro e w1 ⟨rfl, rfl⟩
   go_wp2_with fail
   go_at_call 126
   refine (hr _ hb).mono ?_
   rintro e w2 ⟨rfl, hb2⟩
   go_wp2_with fail
   go_ret2
   exact ⟨by rw [Hw.out]; rfl, bt hb hb2⟩
set_option maxRecDepth 100000 in
theorem r5_look (D : Dk) (L : Pn) (p q p' q' : Pl) (w : World) (hD : IsDk w D p q) (hL : IsPn w L p' q') (k : Int) (hl : D.data.length = D.sz * 64) (ht : L.targets.length ≤ 1000000) (he : L.targets.length = L.data.length) :
 Calls Tryz.prog 55 #[dval D p q, pval L p' q', .int .i64 k] w fun e w' => e = .returned (.tuple #[.string (bs (Pn.look D L k).1), .int .i64 (Pn.look D L k).2]) ∧ Below w.heap.size w w' := by
 have hi := fun (W : World) (hb : Below w.heap.size w W) => r5_find L p' q' k W (hL.below hb) (by omega)
 have hr := fun (W : World) (hb : Below w.heap.size w W) => r1_read D p q W (hD.below hb) k hl
 have hc := fun (W : World) (hb : Below w.heap.size w W) => hL.data.below hb
 clear hL hD
 obtain ⟨A1, c1⟩ := p
 obtain ⟨A2, c2⟩ := q
 obtain ⟨B1, d1⟩ := p'
 obtain ⟨B2, d2⟩ := q'
 simp only at hc
 have hb := below_two w (.cells #[.string (bs D.data), .slice A1 D.cache.length c1, .int .i64 D.fuse, .bool D.off, .slice A2 D.bad.length c2] 25) (.cells #[.slice B1 L.targets.length d1, .slice B2 L.data.length d2] 67)
 have x0 := (Blk.new w 25 #[.string (bs D.data), .slice A1 D.cache.length c1, .int .i64 D.fuse, .bool D.off, .slice A2 D.bad.length c2]).alloc (.cells #[.slice B1 L.targets.length d1, .slice B2 L.data.length d2] 67)
 have z0 := Blk.new (w.alloc (.cells #[.string (bs D.data), .slice A1 D.cache.length c1, .int .i64 D.fuse, .bool D.off, .slice A2 D.bad.length c2] 25)) 67 #[.slice B1 L.targets.length d1, .slice B2 L.data.length d2]
 simp only [World.size_alloc] at z0
 by_cases hm : k ∈ L.targets
 · obtain ⟨i, hi0, h1, h2, h3⟩ := Pn.find_in hm
   have hid0 : i < L.data.length := by omega
   have Hw := hid (show Pn.look D L k = (L.data[i], 0) by rw [Pn.look, if_pos hm, h3, List.getD_eq_getElem?_getD, List.getElem?_eq_getElem hid0]; rfl)
   rw [h1] at hi
   clear hr h1 h2 h3 hm he
   go_enter Tryz.func55, Tryz.ntmps55
   go_wp2_with fail
   go_at_call 77
   refine (hi _ hb).mono ?_
   rintro e w1 ⟨rfl, hb1⟩
   have k1 := blk2 (z0.below hb1 (by simp))
   have b1 := bt hb hb1
   obtain ⟨pb, po, hpa, hcell⟩ := (hc _ b1).str hid0
   subst hpa
   have y0 := hcell i hid0
   clear hcell
   go_wp2_with fail
   go_ret2
   exact ⟨by rw [Hw.out]; rfl, b1⟩
 · have Hw := hid (show Pn.look D L k = D.read k by rw [Pn.look, if_neg hm])
   rw [Pn.find_out hm] at hi
   clear hc hm he
   go_enter Tryz.func55, Tryz.ntmps55
   go_wp2_with fail
   go_at_call 77
   refine (hi _ hb).mono ?_
   rintro e w1 ⟨rfl, hb1⟩
   have k1 := blk2 (z0.below hb1 (by simp))
   have k2 := blk5 (x0.below hb1 (by simp; omega))
   have b1 := bt hb hb1
   go_wp2_with fail
   go_at_call 63
   refine (hr _ b1).mono ?_
   rintro e w2 ⟨rfl, hb2⟩
   go_wp2_with fail
   go_ret2
   exact ⟨by rw [Hw.out]; rfl, bt b1 hb2⟩
end Go.Proofs.YtlapjkbefkmohaaGreat

set_option linter.unusedVariables false
namespace Go.Proofs.YtlapjkbefkmohaaGreat
open Go.RowKit Go.Shelf
attribute [local go_sem] bs_mk bs_append bs_extract bs_size bs_toList bs_get

abbrev gval (g h : Int) : Value := .agg #[.int .i64 g, .int .i64 h]
def geomOk (g h : Int) : Bool := decide (0 < g) && (decide (g ≤ 64) && (decide (8 ≤ h) && decide (h ≤ 256)))
theorem geomOk_iff {g h : Int} : geomOk g h = true ↔ 0 < g ∧ g ≤ 64 ∧ 8 ≤ h ∧ h ≤ 256 := by simp [geomOk]
theorem r4_fit (g h : Int) (w : World) : Calls Tryz.prog 42 #[gval g h] w fun e w' => e = .returned (.bool (geomOk g h)) ∧ Below w.heap.size w w' := by
 have hb := (Below.refl w.heap.size w).alloc (Nat.le_refl _) (.cells #[.int .i64 g, .int .i64 h] 27)
 by_cases h1 : 1 ≤ g
 · have h1' : 0 < g := by omega
   by_cases h2 : g ≤ 64
   · by_cases h3 : 8 ≤ h
     · have Hw := hid (show geomOk g h = decide (h ≤ 256) by simp [geomOk, h1', h2, h3])
       go_enter Tryz.func42, Tryz.ntmps42
       go_wp2_with fail
       go_ret
       exact ⟨by rw [Hw.out]; rfl, hb⟩
     · have Hw := hid (show geomOk g h = false by simp [geomOk, h3])
       go_enter Tryz.func42, Tryz.ntmps42
       go_wp2_with fail
       go_ret
       exact ⟨by rw [Hw.out]; rfl, hb⟩
   · have Hw := hid (show geomOk g h = false by simp [geomOk, h2])
     go_enter Tryz.func42, Tryz.ntmps42
     go_wp2_with fail
     go_ret
     exact ⟨by rw [Hw.out]; rfl, hb⟩
 · have Hw := hid (show geomOk g h = false by simp [geomOk]; omega)
   go_enter Tryz.func42, Tryz.ntmps42
   go_wp2_with fail
   go_ret
   exact ⟨by rw [Hw.out]; rfl, hb⟩
theorem s_at (k : Int) (h0 : -1000000 ≤ k) (h1 : k ≤ 1000000) (w : World) : Calls Tryz.prog 124 #[.int .i64 k] w fun e w' => e = .returned (.int .i64 (96 + 2 * k)) ∧ Below w.heap.size w w' := by
 go_enter Tryz.func124, Tryz.ntmps124
 go_wp2_with fail
 go_ret
 exact ⟨rfl, Below.refl _ _⟩
def magic4 : List UInt8 := [67, 79, 70, 49]
theorem r4_ref (k : Nat) (hk : k < 256) (w : World) : Calls Tryz.prog 66 #[.int .i64 k] w fun e w' => e = .returned (.tuple #[.int .i64 (87 + (k : Int) / 32), .int .i64 (2 * ((k % 32 : Nat) : Int))]) ∧ Below w.heap.size w w' := by
 go_enter Tryz.func66, Tryz.ntmps66
 go_wp2_with fail
 go_ret2
 refine ⟨?_, Below.refl _ _⟩
 simp
theorem r4_at (k : Int) (h0 : -1000000 ≤ k) (h1 : k ≤ 1000000) (w : World) : Calls Tryz.prog 38 #[.int .i64 k] w fun e w' => e = .returned (.int .i64 (96 + 2 * k)) ∧ Below w.heap.size w w' := by
 go_enter Tryz.func38, Tryz.ntmps38
 go_wp2_with fail
 go_ret
 exact ⟨rfl, Below.refl _ _⟩
theorem r4_journal (w : World) : Calls Tryz.prog 99 #[] w fun e w' => e = .returned (.tuple #[.int .i64 6, .int .i64 81]) ∧ Below w.heap.size w w' := by
 go_enter Tryz.func99, Tryz.ntmps99
 go_wp2_with fail
 go_ret2
 exact ⟨rfl, Below.refl _ _⟩
end Go.Proofs.YtlapjkbefkmohaaGreat

set_option linter.unusedVariables false
namespace Go.Proofs.YtlapjkbefkmohaaGreat
open Go.RowKit Go.Shelf
attribute [local go_sem] bs_mk bs_append bs_extract bs_size bs_toList bs_get
theorem own_below {w w' : World} {base : Nat} {e : TypeId} {size n : Nat} {v : Value} {xs : List Value} (h : w.ownsRow base e size v n xs) (hb : Below w.heap.size w w') : w'.ownsRow base e size v n xs := by
 refine ⟨h.1, ?_⟩
 rcases h.2 with h' | ⟨g, cap, cur, h1, h2, h3, h4⟩
 · exact .inl h'
 · exact .inr ⟨g, cap, cur, h1, h2, (hb.block g (Array.getElem?_eq_some_iff.1 h3).1).trans h3, h4⟩
theorem own_base {w : World} {base base' : Nat} {e : TypeId} {size n : Nat} {v : Value} {xs : List Value} (h : w.ownsRow base' e size v n xs) (hb : base ≤ base') : w.ownsRow base e size v n xs := by
 refine ⟨h.1, ?_⟩
 rcases h.2 with h' | ⟨g, cap, cur, h1, h2, h3⟩
 · exact .inl h'
 · exact .inr ⟨g, cap, cur, h1, by omega, h3⟩
end Go.Proofs.YtlapjkbefkmohaaGreat
set_option linter.unusedVariables false
namespace Go.Proofs.YtlapjkbefkmohaaGreat
open Go.RowKit Go.Shelf
attribute [local go_sem] bs_mk bs_append bs_extract bs_size bs_toList bs_get

namespace Pn
theorem fit_len {L : Pn} (h : L.Fit) : L.targets.length = L.data.length ∧ L.targets.length ≤ 24 := ⟨h.1, h.2.1⟩
end Pn
set_option maxRecDepth 100000 in
theorem r5_fit_head (L : Pn) (p q : Pl) (w : World) (hL : IsPn w L p q) (ht : L.targets.length ≤ 9223372036854775807) (hd : L.data.length ≤ 9223372036854775807) (h : L.targets.length ≠ L.data.length ∨ 24 < L.targets.length) :
 Calls Tryz.prog 97 #[pval L p q] w fun e w' => e = .returned (.bool L.fit) ∧ Below w.heap.size w w' := by
 have Hf := hid (Pn.fit_no (L := L) (fun hf => by have := Pn.fit_len hf; omega))
 obtain ⟨A1, c1⟩ := p
 obtain ⟨A2, c2⟩ := q
 have b0 := (Below.refl w.heap.size w).alloc (Nat.le_refl _) (.cells #[.slice A1 L.targets.length c1, .slice A2 L.data.length c2] 67)
 by_cases h1 : L.targets.length = L.data.length
 · have n1 : ((L.targets.length : Int) != L.data.length) = false := by simp; omega
   have n2 : 24 < L.targets.length := by omega
   clear h h1
   go_enter Tryz.func97, Tryz.ntmps97
   go_wp2_with fail
   go_ret
   exact ⟨by rw [Hf.out]; rfl, b0⟩
 · have n1 : ((L.targets.length : Int) != L.data.length) = true := by simp; omega
   clear h h1
   go_enter Tryz.func97, Tryz.ntmps97
   go_wp2_with fail
   go_ret
   exact ⟨by rw [Hf.out]; rfl, b0⟩
set_option maxRecDepth 100000 in
set_option maxHeartbeats 1000000 in
theorem r5_fit_rest (L : Pn) (p q : Pl) (w : World) (hL : IsPn w L p q) (h1 : L.targets.length = L.data.length) (h2 : L.targets.length ≤ 24) :
 Calls Tryz.prog 97 #[pval L p q] w fun e w' => e = .returned (.bool L.fit) ∧ Below w.heap.size w w' := by
 have c1 := fun (W : World) (hb : Below w.heap.size w W) => hL.targets.below hb
 have c2 := fun (W : World) (hb : Below w.heap.size w W) => hL.data.below hb
 have hst := hL.strs
 have hfd := fun (W : World) (hb : Below w.heap.size w W) (k : Int) => r5_find L p q k W (hL.below hb) (by omega)
 clear hL
 obtain ⟨A1, a1⟩ := p
 obtain ⟨A2, a2⟩ := q
 simp only at c1 c2
 have b0 := (Below.refl w.heap.size w).alloc (Nat.le_refl _) (.cells #[.slice A1 L.targets.length a1, .slice A2 L.data.length a2] 67)
 have x0 := Blk.new w 67 #[.slice A1 L.targets.length a1, .slice A2 L.data.length a2]
 have n1 : ((L.targets.length : Int) != L.data.length) = false := by simp; omega
 have H1 := hid h1
 have H2 := hid h2
 clear h1
 go_enter Tryz.func97, Tryz.ntmps97
 go_wp2_with fail
 go_loopw [3] (fun x W => ∃ i : Nat, i ≤ L.targets.length ∧ x = .int .i64 i ∧ Hid (∀ j (hj : j < L.targets.length) (hj' : j < L.data.length), j < i → (sectorOk L.targets[j] = true ∧ L.find L.targets[j] = j) ∧ L.data[j].length = 64) ∧
  Blk W w.heap.size 67 #[.slice A1 L.targets.length a1, .slice A2 L.data.length a2] ∧ Below w.heap.size w W) (fun x _ => L.targets.length - (intOf x).toNat)
 case atStart => exact ⟨0, Nat.zero_le _, rfl, hid (fun j hj hj' h0 => by omega), x0, b0⟩
 case round =>
  clear x0 b0
  obtain ⟨i, hi, rfl, hok, hx, hb⟩ := hrel
  have k0 := blk2 hx
  have K0 := ext2 hx
  by_cases hlt : i < L.targets.length
  · have hlt' : i < L.data.length := by have := H1.out; omega
    obtain ⟨pb, po, hpa, hcell⟩ := (c1 _ hb).int hlt
    obtain ⟨pb', po', hpa', hcell'⟩ := (c2 _ hb).str hlt'
    subst hpa
    subst hpa'
    have y0 := hcell i hlt
    have y1 := hcell' i hlt'
    have Y0 := fun e : Ext wr => e.cell y0
    have Y1 := fun e : Ext wr => e.cell y1
    have hsl := hst _ (List.getElem_mem hlt')
    clear hcell hcell'
    have s1 := fun e : Ext wr => r5_sector L.targets[i] e.world
    have s2 := fun e : Ext wr => hfd e.world (bt hb e.below) L.targets[i]
    cases e1 : sectorOk L.targets[i] with
    | false =>
     have Hf := hid (Pn.fit_no (L := L) (fun hf => by have := (hf.2.2.1 i hlt).1; rw [e1] at this; cases this))
     rw [e1] at s1
     clear e1
     go_wp2_with fail
     refine wp_region_ext mixed (by kernel_rfl) ?_
     repeat (go_big_quiet_step ((first | (go_at_call 76; with_reducible exact ext_of (s1 _)) | (go_at_call 77; with_reducible exact ext_of (s2 _)))))
     refine wpQuiet_nil ?_
     rintro w2 ⟨pq_, hpq_⟩
     have hb2 := pq_.below
     rw [← hpq_] at hb2
     clear hpq_ pq_
     go_wp2_with fail
     go_ret
     exact ⟨by rw [Hf.out]; rfl, bt hb hb2⟩
    | true =>
     rw [e1] at s1
     have E1 := hid e1
     clear e1
     by_cases e2 : L.find L.targets[i] = i
     · have m2 : ((L.find L.targets[i] : Int) != i) = false := by simpa using e2
       have E2 := hid e2
       clear e2
       by_cases e3 : L.data[i].length = 64
       · have m3 : ((L.data[i].length : Int) != 64) = false := by simp; omega
         have E3 := hid e3
         clear e3
         generalize L.find L.targets[i] = f at s2 m2
         go_wp2_with fail
         refine wp_region_ext mixed (by kernel_rfl) ?_
         repeat (go_big_quiet_step ((first | (go_at_call 76; with_reducible exact ext_of (s1 _)) | (go_at_call 77; with_reducible exact ext_of (s2 _)))))
         refine wpQuiet_nil ?_
         rintro w2 ⟨pq_, hpq_⟩
         have hb2 := pq_.below
         rw [← hpq_] at hb2
         clear hpq_ pq_
         go_wp2_with fail
         go_roundw
         case rel => exact ⟨i + 1, by omega, by go_num, hid (fun j hj hj' hji => by
          rcases Nat.lt_or_ge j i with h' | h'
          · exact hok.out j hj hj' h'
          · obtain rfl : j = i := by omega
            exact ⟨⟨E1.out, E2.out⟩, E3.out⟩), hx.below hb2 hx.lt, bt hb hb2⟩
         case measure => simp [intOf]; omega
       · have Hf := hid (Pn.fit_no (L := L) (fun hf => e3 (hf.2.2.2 i hlt')))
         have m3 : ((L.data[i].length : Int) != 64) = true := by simp; omega
         clear e3
         go_wp2_with fail
         refine wp_region_ext mixed (by kernel_rfl) ?_
         repeat (go_big_quiet_step ((first | (go_at_call 76; with_reducible exact ext_of (s1 _)) | (go_at_call 77; with_reducible exact ext_of (s2 _)))))
         refine wpQuiet_nil ?_
         rintro w2 ⟨pq_, hpq_⟩
         have hb2 := pq_.below
         rw [← hpq_] at hb2
         clear hpq_ pq_
         go_wp2_with fail
         go_ret
         exact ⟨by rw [Hf.out]; rfl, bt hb hb2⟩
     · have Hf := hid (Pn.fit_no (L := L) (fun hf => e2 (hf.2.2.1 i hlt).2))
       have m2 : ((L.find L.targets[i] : Int) != i) = true := by simpa using e2
       clear e2
       go_wp2_with fail
       refine wp_region_ext mixed (by kernel_rfl) ?_
       repeat (go_big_quiet_step ((first | (go_at_call 76; with_reducible exact ext_of (s1 _)) | (go_at_call 77; with_reducible exact ext_of (s2 _)))))
       refine wpQuiet_nil ?_
       rintro w2 ⟨pq_, hpq_⟩
       have hb2 := pq_.below
       rw [← hpq_] at hb2
       clear hpq_ pq_
       go_wp2_with fail
       go_ret
       exact ⟨by rw [Hf.out]; rfl, bt hb hb2⟩
  · have Hf := hid (Pn.fit_iff.2 (show L.Fit from ⟨H1.out, H2.out, fun j hj => (hok.out j hj (by have := H1.out; omega) (by omega)).1, fun j hj => (hok.out j (by have := H1.out; omega) hj (by have := H1.out; omega)).2⟩))
    clear hok K0
    go_wp2_with fail
    go_ret
    exact ⟨by rw [Hf.out]; rfl, hb⟩
theorem r5_fit (L : Pn) (p q : Pl) (w : World) (hL : IsPn w L p q) :
 Calls Tryz.prog 97 #[pval L p q] w fun e w' => e = .returned (.bool L.fit) ∧ Below w.heap.size w w' := by
 by_cases h : L.targets.length ≠ L.data.length ∨ 24 < L.targets.length
 · exact r5_fit_head L p q w hL (Nat.le_trans hL.pc hL.pm) (Nat.le_trans hL.qc hL.qm) h
 · exact r5_fit_rest L p q w hL (by omega) (by omega)
end Go.Proofs.YtlapjkbefkmohaaGreat

set_option linter.unusedVariables false
namespace Go.Proofs.YtlapjkbefkmohaaGreat
open Go.RowKit Go.Shelf
attribute [local go_sem] bs_mk bs_append bs_extract bs_size bs_toList bs_get
/-- While the slices grow: what is known of the box and of both. -/
structure SetSt (w1 W : World) (g : Nat) (L : Pn) (k : Int) (s : List UInt8) (v1 v2 : Value) (n1 n2 : Nat) (xs1 xs2 : List Value) (c1 c2 : Value) : Prop where
 r1 : W.ownsRow w1.heap.size 3 1 v1 n1 xs1
 r2 : W.ownsRow w1.heap.size 9 1 v2 n2 xs2
 qb : Blk W g 67 #[c1, c2]
 bw : Below w1.heap.size w1 W
section
variable {w1 W W' : World} {g : Nat} {L : Pn} {k : Int} {s : List UInt8} {v1 v2 : Value} {n1 n2 : Nat} {xs1 xs2 : List Value} {c1 c2 : Value}
theorem SetSt.alloc (h : SetSt w1 W g L k s v1 v2 n1 n2 xs1 xs2 c1 c2) (o : Obj) : SetSt w1 (W.alloc o) g L k s v1 v2 n1 n2 xs1 xs2 c1 c2 := ⟨h.r1.alloc o, h.r2.alloc o, h.qb.alloc o, h.bw.alloc h.bw.size o⟩
end
end Go.Proofs.YtlapjkbefkmohaaGreat

set_option linter.unusedVariables false
namespace Go.Proofs.YtlapjkbefkmohaaGreat
open Go.RowKit Go.Shelf
attribute [local go_sem] bs_mk bs_append bs_extract bs_size bs_toList bs_get
theorem laid_bad {s t : List UInt8} {k : Int} (h : k < 0 ∨ (s.length : Int) - t.length < k) : Pn.laidOver s k t = ([], 10) := by rw [Pn.laidOver, if_pos h]
theorem laid_ok {s t : List UInt8} {k : Nat} (h : (k : Int) ≤ (s.length : Int) - t.length) : Pn.laidOver s k t = (s.take k ++ t ++ s.drop (k + t.length), 0) := by
 rw [Pn.laidOver, if_neg (by omega), Int.toNat_natCast, over]
theorem r3_over (s t : List UInt8) (k : Int) (w : World) (hs : s.length ≤ 1000000) (ht : t.length ≤ 9223372036854775807) :
 Calls Tryz.prog 36 #[.string (bs s), .int .i64 k, .string (bs t)] w fun e w' => e = .returned (.tuple #[.string (bs (Pn.laidOver s k t).1), .int .i64 (Pn.laidOver s k t).2]) ∧ Below w.heap.size w w' := by
 by_cases h0 : k < 0
 · have Hw := hid (laid_bad (s := s) (t := t) (.inl h0))
   go_enter Tryz.func36, Tryz.ntmps36
   go_wp2
   go_ret2
   exact ⟨by rw [Hw.out]; rfl, Below.refl _ _⟩
 · by_cases h2 : (s.length : Int) < t.length
   · have Hw := hid (laid_bad (s := s) (t := t) (k := k) (.inr (by omega)))
     go_enter Tryz.func36, Tryz.ntmps36
     go_wp2
     go_ret2
     exact ⟨by rw [Hw.out]; rfl, Below.refl _ _⟩
   · by_cases h : (s.length : Int) - t.length < k
     · have Hw := hid (laid_bad (.inr h))
       go_enter Tryz.func36, Tryz.ntmps36
       go_wp2
       go_ret2
       exact ⟨by rw [Hw.out]; rfl, Below.refl _ _⟩
     · obtain ⟨n, rfl⟩ := Int.eq_ofNat_of_zero_le (show 0 ≤ k by omega)
       have Hw := hid (laid_ok (s := s) (t := t) (k := n) (by omega))
       have h1 : t.length ≤ 1000000 := by omega
       go_enter Tryz.func36, Tryz.ntmps36
       go_wp2
       go_quiet (fail)
       go_wp2
       go_ret2
       exact ⟨by rw [Hw.out]; simp, drewN_below _ _⟩
end Go.Proofs.YtlapjkbefkmohaaGreat

set_option linter.unusedVariables false
namespace Go.Proofs.YtlapjkbefkmohaaGreat
open Go.RowKit Go.Shelf
attribute [local go_sem] bs_mk bs_append bs_extract bs_size bs_toList bs_get
/-! ### What is known of a sector as it will be -/
theorem Dk.seesIn_len {l : List (Int × List UInt8)} (h : ∀ i (h : i < l.length), l[i].2.length = 64) (k : Int) {s : List UInt8} (hs : Dk.seesIn l k = some s) : s.length = 64 := by
 induction l with
 | nil => simp [Dk.seesIn] at hs
 | cons x l ih =>
  have h0 := h 0 (by simp)
  have ih' := ih (fun i hi => by have := h (i + 1) (by simpa using hi); simpa using this)
  rw [Dk.seesIn] at hs
  split at hs
  · rename_i s' e
    injection hs with hs
    subst hs
    exact ih' e
  · split at hs
    · injection hs with hs
      subst hs
      exact h0
    · cases hs
theorem Dk.read_len {D : Dk} (hD : D.fit = true) (k : Int) : (D.read k).1.length ≤ 64 := by
 have hc := (Dk.fit_parts hD).2.2.2.2.1
 rw [Dk.read]
 split
 · simp
 · split
   · simp
   · split
     · simp
     · show (D.sees k).length ≤ 64
       rw [Dk.sees]
       cases h : Dk.seesIn D.cache k with
       | some s => rw [Option.getD_some, Dk.seesIn_len (fun i hi => (hc i hi).2.2) k h]; omega
       | none =>
        rw [Option.getD_none, Dk.sector, List.length_drop, List.length_take]
        omega
theorem look_len {D : Dk} {L : Pn} (hD : D.fit = true) (hL : L.Fit) (k : Int) : (Pn.look D L k).1.length ≤ 64 := by
 rw [Pn.look]
 split
 · rename_i hm
   obtain ⟨i, hi, _, _, h⟩ := Pn.find_in hm
   have h0 : i < L.data.length := by rw [← hL.1]; exact hi
   rw [h, List.getD_eq_getElem?_getD, List.getElem?_eq_getElem h0]
   simp [hL.2.2.2 i h0]
 · exact Dk.read_len hD k
end Go.Proofs.YtlapjkbefkmohaaGreat
