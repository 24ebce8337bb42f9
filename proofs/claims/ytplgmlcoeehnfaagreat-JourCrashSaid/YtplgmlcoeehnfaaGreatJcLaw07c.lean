/- Package cofferdamlaw07: targets outside of the journal; a journal's transactions held against some. -/
import Derived.Test.YtplgmlcoeehnfaaGreatJcLaw07b
import Derived.Test.YtplgmlcoeehnfaaGreatJcPlan4
import Derived.Test.YtplgmlcoeehnfaaGreatJcTxn7
import Derived.Test.YtplgmlcoeehnfaaGreatJcJour10
import Derived.BigQuiet
set_option linter.unusedVariables false
namespace Go.Proofs.YtplgmlcoeehnfaaGreat
open Go.RowKit Go.Shelf
attribute [local go_sem] bs_mk bs_append bs_extract bs_size bs_toList bs_get
theorem Tx.same_eq {t u : Tx} (h : t.same u = true) : t = u := by
  obtain ⟨s, a, b⟩ := t
  obtain ⟨s', a', b'⟩ := u
  simp only [Tx.same, Pn.same, Bool.and_eq_true, decide_eq_true_eq] at h
  obtain ⟨rfl, rfl, rfl⟩ := h
  rfl
set_option maxRecDepth 100000 in
set_option maxHeartbeats 1000000 in
theorem outside07 (D : Dk) (L : Pn) (p q p' q' : Pl) (w : World) (hD : IsDk w D p q) (hL : IsPn w L p' q') :
    Calls Tryz.prog 48 #[dval D p q, pval L p' q'] w fun e w' => (∃ b, e = .returned (.bool b) ∧ (b = true → Outside D.sz L ∧ L.Fit)) ∧ Below w.heap.size w w' := by
  have hsz := fun W => r1_size D p q hD.data W
  have HAt := hid (fun (W : World) (hb : Below w.heap.size w W) => hL.targets.below hb)
  have hP := fun (W : World) (hb : Below w.heap.size w W) => r5_fit L p' q' W (hL.below hb)
  have hl : L.targets.length ≤ 9223372036854775807 := Nat.le_trans hL.pc hL.pm
  clear hD hL
  obtain ⟨A1, a1⟩ := p
  obtain ⟨A2, a2⟩ := q
  obtain ⟨B1, b1⟩ := p'
  obtain ⟨B2, b2⟩ := q'
  generalize D.sz = n at *
  have hB := Below.refl w.heap.size w
  have x := Blk.new w 25 #[.string (bs D.data), .slice A1 D.cache.length a1, .int .i64 D.fuse, .bool D.off, .slice A2 D.bad.length a2]
  have xk := blk5 x
  have hB_1 := hB.alloc hB.size (.cells #[.string (bs D.data), .slice A1 D.cache.length a1, .int .i64 D.fuse, .bool D.off, .slice A2 D.bad.length a2] 25)
  have z := Blk.new (w.alloc (.cells #[.string (bs D.data), .slice A1 D.cache.length a1, .int .i64 D.fuse, .bool D.off, .slice A2 D.bad.length a2] 25)) 28 #[.slice B1 L.targets.length b1, .slice B2 L.data.length b2]
  simp only [World.size_alloc] at z
  have zk := blk2 z
  have hB_2 := hB_1.alloc hB_1.size (.cells #[.slice B1 L.targets.length b1, .slice B2 L.data.length b2] 28)
  have x_3 := x.alloc (.cells #[.slice B1 L.targets.length b1, .slice B2 L.data.length b2] 28)
  have xk_3 := blk5 x_3
  go_enter Tryz.func48, Tryz.ntmps48
  go_wp2_with fail
  go_loopw [10] (fun u W => ∃ i : Nat, i ≤ L.targets.length ∧ u = .int .i64 i ∧ Hid (∀ j (hj : j < L.targets.length), j < i → ¬ (6 ≤ L.targets[j] ∧ L.targets[j] < 87) ∧ L.targets[j] < (n : Int)) ∧ Blk W w.heap.size 25 #[.string (bs D.data), .slice A1 D.cache.length a1, .int .i64 D.fuse, .bool D.off, .slice A2 D.bad.length a2] ∧ Blk W (w.heap.size + 1) 28 #[.slice B1 L.targets.length b1, .slice B2 L.data.length b2] ∧ Below w.heap.size w W) (fun u _ => L.targets.length - (intOf u).toNat)
  case atStart => exact ⟨0, Nat.zero_le _, rfl, hid (fun j hj h0 => by omega), x_3, z, hB_2⟩
  case round =>
    obtain ⟨i, hi, rfl, hok, hx, hz, hb⟩ := hrel
    have kz := blk2 hz
    have kx := blk5 hx
    by_cases hlt : i < L.targets.length
    · obtain ⟨cb, co, e1, ct⟩ := (HAt.out _ hb).int hlt
      have e1' : B1 = some ⟨cb, co, none⟩ := e1
      subst e1'
      replace ct := ct i hlt
      have Hnx := hid (fun (h : ¬ (6 ≤ L.targets[i] ∧ L.targets[i] < 87) ∧ L.targets[i] < (n : Int)) => show ∀ j (hj : j < L.targets.length), j < i + 1 → ¬ (6 ≤ L.targets[j] ∧ L.targets[j] < 87) ∧ L.targets[j] < (n : Int) from fun j hj hji => by
        rcases Nat.lt_or_ge j i with h' | h'
        · exact hok.out j hj h'
        · obtain rfl : j = i := by omega
          exact h)
      generalize L.targets[i] = t at *
      clear e1 hok
      by_cases h6 : 6 ≤ t ∧ t < 87
      · have h6a := h6.1
        have h6b := h6.2
        clear h6 Hnx
        go_wp2_with fail
        go_ret
        exact ⟨⟨false, rfl, fun h => nomatch h⟩, hb⟩
      · by_cases h6a : 6 ≤ t
        · have h6b : ¬ t < 87 := fun h => h6 ⟨h6a, h⟩
          by_cases hk : (n : Int) ≤ t
          · clear h6 Hnx
            have hB := hb
            go_wp2_with fail
            go_at_call 52
            refine ((hsz _)).mono ?_
            rintro e W ⟨rfl, hW⟩
            replace hB := bt hB hW
            go_wp2_with fail
            go_ret
            exact ⟨⟨false, rfl, fun h => nomatch h⟩, hB⟩
          · have Hn := hid (Hnx.out ⟨h6, by omega⟩)
            clear h6 Hnx
            have hB := hb
            go_wp2_with fail
            go_at_call 52
            refine ((hsz _)).mono ?_
            rintro e W ⟨rfl, hW⟩
            replace hB := bt hB hW
            go_wp2_with fail
            go_roundw
            case rel => exact ⟨i + 1, by omega, by go_num, Hn, hx.below hW hx.lt, hz.below hW hz.lt, bt hb hW⟩
            case measure => simp [intOf]; omega
        · by_cases hk : (n : Int) ≤ t
          · clear h6 Hnx
            have hB := hb
            go_wp2_with fail
            go_at_call 52
            refine ((hsz _)).mono ?_
            rintro e W ⟨rfl, hW⟩
            replace hB := bt hB hW
            go_wp2_with fail
            go_ret
            exact ⟨⟨false, rfl, fun h => nomatch h⟩, hB⟩
          · have Hn := hid (Hnx.out ⟨h6, by omega⟩)
            clear h6 Hnx
            have hB := hb
            go_wp2_with fail
            go_at_call 52
            refine ((hsz _)).mono ?_
            rintro e W ⟨rfl, hW⟩
            replace hB := bt hB hW
            go_wp2_with fail
            go_roundw
            case rel => exact ⟨i + 1, by omega, by go_num, Hn, hx.below hW hx.lt, hz.below hW hz.lt, bt hb hW⟩
            case measure => simp [intOf]; omega
    · obtain rfl : i = L.targets.length := by omega
      have Hyes := hid (show ∀ k ∈ L.targets, ¬ (6 ≤ k ∧ k < 87) ∧ k < (n : Int) from fun k hk => by
        obtain ⟨j, hj, rfl⟩ := List.getElem_of_mem hk
        exact hok.out j hj hj)
      clear hok
      have hB := hb
      go_wp2_with fail
      go_at_call 18
      refine ((hP _ hB)).mono ?_
      rintro e W ⟨rfl, hW⟩
      replace hB := bt hB hW
      go_wp2_with fail
      go_ret
      exact ⟨⟨_, rfl, fun h => ⟨Hyes.out, Pn.fit_iff.1 h⟩⟩, hB⟩
/-- The i-th of some transactions. -/
structure TxAt (w : World) (g i : Nat) (x : Fd) : Prop where
  c0 : w.cell? ⟨g, i * 3, none⟩ = some (.int .u64 x.tx.seq)
  c1 : w.cell? ⟨g, i * 3 + 1, none⟩ = some (.slice x.p.a x.tx.plan.targets.length x.p.c)
  c2 : w.cell? ⟨g, i * 3 + 2, none⟩ = some (.slice x.q.a x.tx.plan.data.length x.q.c)
  pn : IsPn w x.tx.plan x.p x.q
theorem TxAt.below {w w' : World} {g i : Nat} {x : Fd} (h : TxAt w g i x) (hb : Below w.heap.size w w') : TxAt w' g i x := ⟨cell_below hb h.c0, cell_below hb h.c1, cell_below hb h.c2, h.pn.below hb⟩
set_option maxRecDepth 100000 in
set_option maxHeartbeats 2000000 in
theorem chance07 (D : Dk) (p q : Pl) (T : List Fd) (A : Option Addr) (c g : Nat) (w : World) (hD : IsDk w D p q) (hf : D.fit = true) (hA : T ≠ [] → A = some ⟨g, 0, none⟩) (hT : ∀ i (h : i < T.length), TxAt w g i T[i]) (hl : T.length ≤ 1000) (h24 : ∀ x ∈ T, x.tx.plan.targets.length ≤ 1000000 ∧ x.tx.plan.data.length ≤ 1000000) :
    Calls Tryz.prog 49 #[dval D p q, .slice A T.length c] w fun e w' => (∃ b, e = .returned (.bool b) ∧ (b = false → (jrScan D).2 = 0 ∧ ∀ x ∈ (jrScan D).1, ∃ t ∈ T, x.2 = t.tx)) ∧ Below w.heap.size w w' := by
  have hs := fun (W : World) (hb : Below w.heap.size w W) => r7_scan D p q W (hD.below hb) hf
  have Hfit := hid (fun (x : Nat × Tx) (h : x ∈ (jrScan D).1) => jrScan_ok h)
  have Hlen := hid (jrScan_len D)
  have HT := hid (fun (W : World) (hb : Below w.heap.size w W) (i : Nat) (h : i < T.length) => (hT i h).below hb)
  have H24 := hid h24
  have HA := hid hA
  obtain ⟨⟨F, fe⟩, hF⟩ : ∃ X, jrScan D = X := ⟨_, rfl⟩
  rw [hF] at hs Hfit Hlen ⊢
  clear hD hf hT h24 hA hF
  have hB := Below.refl w.heap.size w
  have x := Blk.new w 25 #[.string (bs D.data), .slice p.a D.cache.length p.c, .int .i64 D.fuse, .bool D.off, .slice q.a D.bad.length q.c]
  have xk := blk5 x
  have hB_1 := hB.alloc hB.size (.cells #[.string (bs D.data), .slice p.a D.cache.length p.c, .int .i64 D.fuse, .bool D.off, .slice q.a D.bad.length q.c] 25)
  go_enter Tryz.func49, Tryz.ntmps49
  go_wp2_with fail
  go_at_call 41
  refine ((hs _ hB_1)).mono ?_
  rintro e w1 ⟨⟨L, v, hL, rfl, hv, hvo⟩, hb1⟩
  replace hB := bt hB_1 hb1
  replace x := x.below hb1 x.lt
  replace xk := blk5 x
  clear hB_1
  have hL : L.map Fd.it = F := hL
  subst hL
  have hl1 : L.length ≤ 1000 := by have := Hlen.out; rw [List.length_map] at this; exact Nat.le_trans this (by decide)
  obtain ⟨V, cv, rfl, z1, z2, z3⟩ := own_slice hv
  have Hcell := hid (fun (W : World) (hW : Below w1.heap.size w1 W) => (Cells.of_own hv).below hW)
  have Hfok := hid (fun (W : World) (hW : Below w1.heap.size w1 W) (x : Fd) (hx : x ∈ L) => ((hvo.below hW) x hx).pn)
  have Hfd := hid (fun (x : Fd) (hx : x ∈ L) => show x.tx.plan.targets.length ≤ 1000000 ∧ x.tx.plan.data.length ≤ 1000000 from by
    have h := (Hfit.out x.it (List.mem_map.2 ⟨x, hx, rfl⟩)).1.1
    have h1 : x.tx.plan.targets.length = x.tx.plan.data.length := h.1
    have h2 : x.tx.plan.targets.length ≤ 24 := h.2.1
    omega)
  have HB1 := hid hB
  clear hv hvo Hfit Hlen z1 z2 z3 hs x xk hB
  go_wp2_with fail
  go_loopw [19] (fun u W => ∃ i : Nat, i ≤ L.length ∧ u = .int .i64 i ∧ Hid (∀ j (hj : j < L.length), j < i → ∃ t ∈ T, L[j].tx = t.tx) ∧ Below w1.heap.size w1 W) (fun u _ => L.length - (intOf u).toNat)
  case atStart => exact ⟨0, Nat.zero_le _, rfl, hid (fun j hj h0 => by omega), Below.refl _ _⟩
  case round =>
    obtain ⟨i, hi, rfl, hno, hb⟩ := hrel
    by_cases hlt : i < L.length
    · obtain ⟨cb, co, e1, hc⟩ := (Hcell.out _ hb).fd hlt
      have e1' : V = some ⟨cb, co, none⟩ := e1
      subst e1'
      obtain ⟨m1, m2, m3, m4⟩ := hc i hlt
      have Hx24 := hid (Hfd.out _ (List.getElem_mem hlt))
      have Htc := hid (fun (W : World) (hW : Below w1.heap.size w1 W) => Hfok.out W hW _ (List.getElem_mem hlt))
      have Hnext := hid (fun (h : ∃ t ∈ T, L[i].tx = t.tx) => show ∀ j (hj : j < L.length), j < i + 1 → ∃ t ∈ T, L[j].tx = t.tx from fun j hj hji => by
        rcases Nat.lt_or_ge j i with h' | h'
        · exact hno.out j hj h'
        · obtain rfl : j = i := by omega
          exact h)
      clear e1 hc hno
      generalize L[i] = x at *
      obtain ⟨xp, xt, ⟨xa, xac⟩, ⟨xb, xbc⟩⟩ := x
      simp only at m1 m2 m3 m4
      have hfb := Blk.new wr 94 #[.int .i64 xp, .int .u64 xt.seq, .slice xa xt.plan.targets.length xac, .slice xb xt.plan.data.length xbc]
      have hba := hb.alloc hb.size (.cells #[.int .i64 xp, .int .u64 xt.seq, .slice xa xt.plan.targets.length xac, .slice xb xt.plan.data.length xbc] 94)
      go_wp2_with fail
      generalize wr.alloc (.cells #[.int .i64 xp, .int .u64 xt.seq, .slice xa xt.plan.targets.length xac, .slice xb xt.plan.data.length xbc] 94) = wa at *
      clear m1 m2 m3 m4
      generalize wr.heap.size = gx at *
      go_loopw [9, 25] (fun s u W => ∃ (b : Bool) (k : Nat), k ≤ T.length ∧ s = .bool b ∧ u = .int .i64 k ∧ Hid (b = true → ∃ t ∈ T, xt = t.tx) ∧ Blk W gx 94 #[.int .i64 xp, .int .u64 xt.seq, .slice xa xt.plan.targets.length xac, .slice xb xt.plan.data.length xbc] ∧ Below w1.heap.size w1 W) (fun _ u _ => T.length - (intOf u).toNat)
      case atStart => exact ⟨false, 0, Nat.zero_le _, rfl, rfl, hid (fun h => nomatch h), hfb, hba⟩
      case round =>
        obtain ⟨b, k, hk, rfl, rfl, hin, hfx, hbx⟩ := hrel
        by_cases hkt : k < T.length
        · have hTe : A = some ⟨g, 0, none⟩ := HA.out (fun h => by rw [h] at hkt; exact absurd hkt (Nat.not_lt_zero _))
          subst hTe
          have hTx := HT.out _ (bt HB1.out hbx) k hkt
          have n1 := hTx.c0
          have n2 := hTx.c1
          have n3 := hTx.c2
          have hpn := hTx.pn
          have h24 := H24.out _ (List.getElem_mem hkt)
          have Hmem := hid (List.getElem_mem hkt)
          have hxn := Htc.out _ hbx
          have hx24 := Hx24.out
          generalize T[k] = y at *
          obtain ⟨yp, yt, ⟨ya, yac⟩, ⟨yb, ybc⟩⟩ := y
          simp only at n1 n2 n3 hpn h24 hx24 hxn
          have nb := (Below.refl wr.heap.size wr).alloc (Nat.le_refl _) (.cells #[.int .u64 yt.seq, .slice ya yt.plan.targets.length yac, .slice yb yt.plan.data.length ybc] 92)
          have hsm := r6_same yt xt ⟨ya, yac⟩ ⟨yb, ybc⟩ ⟨xa, xac⟩ ⟨xb, xbc⟩ _ (hpn.below nb) (hxn.below nb) h24.1 h24.2 hx24.1 hx24.2
          have Hsm := hid (fun (h : yt.same xt = true) => show ∃ t ∈ T, xt = t.tx from ⟨_, Hmem.out, (Tx.same_eq h).symm⟩)
          generalize yt.same xt = sm at *
          cases b with
          | true =>
            clear hsm hpn hxn
            have hB := hbx
            have hB_1 := hB.alloc hB.size (.cells #[.int .u64 yt.seq, .slice ya yt.plan.targets.length yac, .slice yb yt.plan.data.length ybc] 92)
            have hfx_2 := hfx.below ((Below.refl _ _).alloc (Nat.le_refl _) (.cells #[.int .u64 yt.seq, .slice ya yt.plan.targets.length yac, .slice yb yt.plan.data.length ybc] 92))
            go_wp2_with fail
            go_roundw
            case rel => exact ⟨true, k + 1, by omega, rfl, by go_num, hin, hfx.alloc _, hB_1⟩
            case measure => simp [intOf]; omega
          | false =>
            have kfx := blk4 (hfx.alloc (.cells #[.int .u64 yt.seq, .slice ya yt.plan.targets.length yac, .slice yb yt.plan.data.length ybc] 92))
            have ky := blk3 (Blk.new wr 92 #[.int .u64 yt.seq, .slice ya yt.plan.targets.length yac, .slice yb yt.plan.data.length ybc])
            go_wp2_with fail
            go_at_call 97
            refine hsm.mono ?_
            rintro e w5 ⟨rfl, hb5⟩
            go_wp2_with fail
            go_roundw
            case rel => exact ⟨sm, k + 1, by omega, rfl, by go_num, Hsm, (hfx.below nb hfx.lt).below hb5 (by simp; exact Nat.lt_succ_of_lt hfx.lt), bt (bt hbx nb) hb5⟩
            case measure => simp [intOf]; omega
        · obtain rfl : k = T.length := by omega
          cases b with
          | true =>
            have Hn2 := hid (Hnext.out (hin.out rfl))
            clear Hnext hin
            go_wp2_with fail
            go_roundw
            case rel => exact ⟨i + 1, by omega, by go_num, Hn2, hbx⟩
            case measure => simp [intOf]; omega
          | false =>
            clear Hnext hin
            go_wp2_with fail
            go_ret
            exact ⟨⟨true, rfl, fun h => nomatch h⟩, bt HB1.out hbx⟩
    · obtain rfl : i = L.length := by omega
      have Hyes := hid (show ∀ x ∈ L.map Fd.it, ∃ t ∈ T, x.2 = t.tx from fun x hx => by
        obtain ⟨f, hf, rfl⟩ := List.mem_map.1 hx
        obtain ⟨j, hj, rfl⟩ := List.getElem_of_mem hf
        exact hno.out j hj hj)
      clear hno
      go_wp2_with fail
      go_ret
      exact ⟨⟨fe != 0, rfl, fun h => ⟨by simpa using h, Hyes.out⟩⟩, bt HB1.out hb⟩
end Go.Proofs.YtplgmlcoeehnfaaGreat
