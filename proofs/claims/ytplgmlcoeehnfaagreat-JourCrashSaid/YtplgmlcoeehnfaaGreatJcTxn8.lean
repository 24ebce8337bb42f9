/- The document's transactions: sectors as a transaction. -/
import Derived.Test.YtplgmlcoeehnfaaGreatJcTxn7
import Derived.Deep.RegionLaw
import Derived.Deep.AppendLies
set_option linter.unusedVariables false
namespace Go.Proofs.YtplgmlcoeehnfaaGreat
open Go.RowKit Go.Shelf
attribute [local go_sem] bs_mk bs_append bs_extract bs_size bs_toList bs_get
theorem drop_get {α : Type} {l : List α} {i : Nat} (h : i < (l.drop 1).length) : (l.drop 1)[i] = l[i + 1]'(by simp at h; omega) := by
  rw [List.getElem_drop]; congr 1; omega
/-- Where the sectors of a transaction stand, and its targets in them. -/
theorem tg_cut {T : List (List UInt8)} {N k : Nat} (hT : T.length = txSize N) (h64 : ∀ s ∈ T, s.length = 64) (hN : N ≤ 24) (hk : k < N) (h : 1 + k / 16 < T.length) : un (cut (T.drop 1).flatten (4 * k) 4) = un (cut (T[1 + k / 16]) (4 * (k % 16)) 4) := by
  have hl : k / 16 < (T.drop 1).length := by rw [List.length_drop]; omega
  have e := flat_cut (l := T.drop 1) (fun s hs => h64 s (List.mem_of_mem_drop hs)) (a := k / 16) (b := 4 * (k % 16)) hl (by omega)
  rw [show 64 * (k / 16) + 4 * (k % 16) = 4 * k by omega] at e
  rw [e, drop_get hl]
  congr 2
  · congr 1; omega
theorem row_lt {N k : Nat} (hN : N ≤ 24) (hk : k < N) : 1 + k / 16 < txSize N ∧ txSize N - N + k < txSize N ∧ N + 2 ≤ txSize N := by
  unfold txSize; split <;> omega
set_option maxRecDepth 100000 in
set_option maxHeartbeats 4000000 in
theorem r6_read_n (l : List (List UInt8)) (A : Option Addr) (c : Nat) (w : World) (hA : Cells w A (strCells l)) (hl : l.length ≤ 1000000) (hs : ∀ s ∈ l, s.length ≤ maxLen) :
    Calls Tryz.prog 92 #[.slice A l.length c] w fun e w' => RetTxN (w.heap.size + 1) (txRead l) e w' ∧ Below w.heap.size w w' := by
  have hb := (Below.refl w.heap.size w).alloc (Nat.le_refl _) (.cells #[.int .u64 0, .slice none 0 0, .slice none 0 0] 92)
  have r0 := Blk.new w 92 #[.int .u64 0, .slice none 0 0, .slice none 0 0]
  have k0 := blk3 r0
  have rf0 := r0.frozen
  cases l with
  | nil =>
    have Hw := hid (show txRead [] = (Tx.zero, 22) by unfold txRead; rw [if_pos rfl])
    go_enter Tryz.func92, Tryz.ntmps92
    go_wp2_with fail
    refine bodyPost_ret (v := .tuple #[(.agg #[.int .u64 0, .slice none 0 0, .slice none 0 0]), .int .i64 22]) (by simp [results, Tryz.results92, go_sem]) rfl ?_
    exact ⟨retTx_zero _ _ Hw.out, hb⟩
  | cons s0 tl =>
    obtain ⟨pb, po, hpa, hcell⟩ := hA.str (i := 0) (by simp)
    subst hpa
    have Hcell := hid (fun W (hW : Below w.heap.size w W) j (hj : j < (s0 :: tl).length) => cell_below hW (hcell j hj))
    have x00 := Hcell.out _ hb 0 (by simp)
    have hs0 := hs s0 List.mem_cons_self
    have hcnt := fun W => r6_count s0 hs0 W
    have hn24 := hcount_le s0
    have hszc := fun W => r6_size (hcount s0) (by unfold okI; omega) W
    simp only [txSizeI_nat] at hszc
    simp only [List.getElem_cons_zero, Nat.add_zero] at x00
    have hll : ((s0 :: tl : List (List UInt8)).length : Int) = (tl.length : Int) + 1 := by simp
    have hle : ((s0 :: tl : List (List UInt8)).length) = tl.length + 1 := rfl
    have Hsz := hid (show ∀ n, n ≤ 24 → txSize n ≤ 27 ∧ (n ≠ 0 → n + 2 ≤ txSize n) from fun n h => by unfold txSize; split <;> omega)
    have Hread := hid (@txRead_cons s0 tl _ rfl)
    generalize hcount s0 = N at *
    obtain ⟨z1, z2⟩ := Hsz.out N hn24
    by_cases h1 : N = 0
    · subst h1
      have Hw := hid (show txRead (s0 :: tl) = (Tx.zero, 14) by rw [Hread.out, if_pos rfl])
      clear Hread
      go_enter Tryz.func92, Tryz.ntmps92
      go_wp2_with fail
      go_at_call 90
      refine (hcnt _).mono ?_
      rintro e w1 ⟨rfl, hb1⟩
      have r1 := r0.below hb1 r0.lt
      have b1 := bt hb hb1
      have rf1 := r1.frozen
      have k1 := blk3 r1
      have yy := blk3 (blk_set3 r1 (.int .u64 0) (.slice none 0 0) (.slice none 0 0))
      clear k0 rf0 x00
      go_wp2_with fail
      refine bodyPost_ret (v := .tuple #[(.agg #[.int .u64 0, .slice none 0 0, .slice none 0 0]), .int .i64 14]) (by simp [results, Tryz.results92, go_sem, yy]) rfl ?_
      exact ⟨retTx_zero _ _ Hw.out, below_set3 b1 (Nat.le_refl _) _ _ _⟩
    have g1 : ((N : Int) == 0) = false := by rw [beq_eq_false_iff_ne]; omega
    by_cases h2 : (s0 :: tl).length < txSize N
    · have Hw := hid (show txRead (s0 :: tl) = (Tx.zero, 22) by rw [Hread.out, if_neg h1, if_pos h2])
      have g2 := h2
      have g2' : decide ((tl.length : Int) + 1 < (txSize N : Int)) = true := by rw [decide_eq_true_iff]; omega
      clear Hread
      go_enter Tryz.func92, Tryz.ntmps92
      go_wp2_with fail
      go_at_call 90
      refine (hcnt _).mono ?_
      rintro e w1 ⟨rfl, hb1⟩
      have r1 := r0.below hb1 r0.lt
      have b1 := bt hb hb1
      clear k0 rf0 x00
      go_wp2_with fail
      go_at_call 91
      refine (hszc _).mono ?_
      rintro e w2 ⟨rfl, hb2⟩
      have r2 := r1.below hb2 r1.lt
      have b2 := bt b1 hb2
      have rf2 := r2.frozen
      have k2 := blk3 r2
      have yy := blk3 (blk_set3 r2 (.int .u64 0) (.slice none 0 0) (.slice none 0 0))
      go_wp2_with fail
      refine bodyPost_ret (v := .tuple #[(.agg #[.int .u64 0, .slice none 0 0, .slice none 0 0]), .int .i64 22]) (by simp [results, Tryz.results92, go_sem, yy]) rfl ?_
      exact ⟨retTx_zero _ _ Hw.out, below_set3 b2 (Nat.le_refl _) _ _ _⟩
    have h2' : txSize N ≤ tl.length + 1 := by omega
    have g2 : ¬ ((tl.length : Int) + 1 < (txSize N : Int)) := by omega
    have g2' : decide ((tl.length : Int) + 1 < (txSize N : Int)) = false := by rw [decide_eq_false_iff_not]; exact g2
    obtain ⟨T, hT⟩ : ∃ T, (s0 :: tl).take (txSize N) = T := ⟨_, rfl⟩
    have hTl : T.length = txSize N := by rw [← hT, List.length_take]; omega
    have HTc := hid (fun W (hW : Below w.heap.size w W) j (hj : j < T.length) => show W.cell? ⟨pb, po + j, none⟩ = some (.string (bs T[j])) by
      have := Hcell.out W hW j (by rw [hTl] at hj; simp only [List.length_cons]; omega)
      subst hT
      rw [List.getElem_take]; exact this)
    have hTs : ∀ s ∈ T, s.length ≤ maxLen := fun s h => hs s (List.mem_of_mem_take (hT ▸ h))
    have HTs := hid hTs
    have Hread2 := hid (show txRead (s0 :: tl) = if ∃ s ∈ T, s.length ≠ 64 then (Tx.zero, 11) else if be 4 (crcOf (cut s0 4 10 ++ (T.drop 1).flatten)) ≠ cut s0 16 4 then (Tx.zero, 15) else if (parse (s0 :: tl) N).write = (T, 0) then (parse (s0 :: tl) N, 0) else (Tx.zero, 14) by
      rw [Hread.out, if_neg h1, if_neg h2, bodyOf, hT])
    clear Hread
    go_enter Tryz.func92, Tryz.ntmps92
    go_wp2_with fail
    go_at_call 90
    refine (hcnt _).mono ?_
    rintro e w1 ⟨rfl, hb1⟩
    have r1 := r0.below hb1 r0.lt
    have b1 := bt hb hb1
    clear k0 rf0 x00
    go_wp2_with fail
    go_at_call 91
    refine (hszc _).mono ?_
    rintro e w2 ⟨rfl, hb2⟩
    have r2 := r1.below hb2 r1.lt
    have b2 := bt b1 hb2
    clear hszc hcnt r0 r1
    go_wp2_with fail
    go_loopw [6] (fun x W => ∃ i : Nat, i ≤ txSize N ∧ x = .int .i64 i ∧ Hid (∀ j (hj : j < T.length), j < i → T[j].length = 64) ∧ W = w2) (fun x _ => txSize N - (intOf x).toNat)
    case atStart => exact ⟨0, Nat.zero_le _, rfl, hid (fun j hj h0 => by omega), rfl⟩
    case round =>
      obtain ⟨i, hi, rfl, hok, rfl⟩ := hrel
      by_cases hlt : i < txSize N
      · have hiT : i < T.length := by omega
        have x1 := HTc.out _ b2 i hiT
        have hsl := HTs.out _ (List.getElem_mem hiT)
        have Hmem := hid (List.getElem_mem hiT)
        obtain ⟨ti, hti⟩ : ∃ ti, T[i] = ti := ⟨_, rfl⟩
        have Hti := hid hti
        rw [hti] at x1 hsl
        unfold maxLen at hsl
        clear hti
        by_cases h64 : ti.length = 64
        · have g3 : ((ti.length : Int) != 64) = false := by simp; omega
          go_wp2_with fail
          go_roundw
          case rel => exact ⟨i + 1, by omega, by go_num, hid (fun j hj hji => by
            rcases Nat.lt_or_ge j i with h' | h'
            · exact hok.out j hj h'
            · obtain rfl : j = i := by omega
              rw [Hti.out]; exact h64), trivial⟩
          case measure => simp [intOf]; omega
        · have g3 : ((ti.length : Int) != 64) = true := by simp; omega
          have Hw := hid (show txRead (s0 :: tl) = (Tx.zero, 11) by rw [Hread2.out, if_pos ⟨_, Hmem.out, by rw [Hti.out]; exact h64⟩])
          have rf2 := r2.frozen
          have k2 := blk3 r2
          have yy := blk3 (blk_set3 r2 (.int .u64 0) (.slice none 0 0) (.slice none 0 0))
          go_wp2_with fail
          refine bodyPost_ret (v := .tuple #[(.agg #[.int .u64 0, .slice none 0 0, .slice none 0 0]), .int .i64 11]) (by simp [results, Tryz.results92, go_sem, yy]) rfl ?_
          exact ⟨retTx_zero _ _ Hw.out, below_set3 b2 (Nat.le_refl _) _ _ _⟩
      · obtain rfl : i = txSize N := by omega
        have H64 : ∀ s ∈ T, s.length = 64 := fun s hs' => by
          obtain ⟨j, hj, rfl⟩ := List.getElem_of_mem hs'
          exact hok.out j hj (by omega)
        have hno : ¬ ∃ s ∈ T, s.length ≠ 64 := by rintro ⟨s, hs', hn⟩; exact hn (H64 s hs')
        have h0T : 0 < T.length := by have := z2 h1; omega
        have hT0 : T[0] = s0 := by subst hT; simp
        have hs64 : s0.length = 64 := by rw [← hT0]; exact H64 _ (List.getElem_mem h0T)
        have H64h := hid H64
        have Hread3 := hid (show txRead (s0 :: tl) = if be 4 (crcOf (cut s0 4 10 ++ (T.drop 1).flatten)) ≠ cut s0 16 4 then (Tx.zero, 15) else if (parse (s0 :: tl) N).write = (T, 0) then (parse (s0 :: tl) N, 0) else (Tx.zero, 14) by
          rw [Hread2.out, if_neg hno])
        have x02 := HTc.out _ b2 0 h0T
        rw [hT0, Nat.add_zero] at x02
        have hc4 : cut s0 4 10 = (s0.take 14).drop 4 := by rw [cut, List.drop_take]
        have hc16 : cut s0 16 4 = (s0.take 20).drop 16 := by rw [cut, List.drop_take]
        have hl4 : (cut s0 4 10).length = 10 := cut_length (by omega)
        have hof := fun W => r2_of (cut s0 4 10) (by rw [hl4]; decide) W
        have hcl1 : crcOf (cut s0 4 10) < 4294967296 := crcMore_lt _ _
        have hDl : (T.drop 1).length + 1 = txSize N := by rw [List.length_drop, hTl]; have := z2 h1; omega
        have HDc := hid (fun W (hW : Below w.heap.size w W) j (hj : j < (T.drop 1).length) => show W.cell? ⟨pb, po + (j + 1), none⟩ = some (.string (bs (T.drop 1)[j])) by
          rw [drop_get hj]; exact HTc.out W hW (j + 1) (by rw [List.length_drop] at hj; omega))
        have Hcf := hid (fun i (hi : i < (T.drop 1).length) => crcMore_flat hcl1 (T.drop 1) i hi)
        have HD64 := hid (fun i (hi : i < (T.drop 1).length) => H64 _ (List.mem_of_mem_drop (List.getElem_mem hi)))
        have Hsum := hid (show crcMore (crcOf (cut s0 4 10)) (T.drop 1).flatten = crcOf (cut s0 4 10 ++ (T.drop 1).flatten) from crcMore_append (by omega) _ _)
        have hcsl : crcOf (cut s0 4 10 ++ (T.drop 1).flatten) < 4294967296 := crcMore_lt _ _
        have Hfin := hid (show txRead (s0 :: tl) = if be 4 (crcOf (cut s0 4 10 ++ (T.drop 1).flatten)) ≠ cut s0 16 4 then (Tx.zero, 15) else if (parse (s0 :: tl) N).write = (T, 0) then (parse (s0 :: tl) N, 0) else (Tx.zero, 14) from Hread3.out)
        obtain ⟨cs, hcs⟩ : ∃ cs, crcOf (cut s0 4 10 ++ (T.drop 1).flatten) = cs := ⟨_, rfl⟩
        rw [hcs] at hcsl
        have Hcs := hid hcs
        clear hcs Hread3 Hread2 hok hno H64
        have Hc16 := hid hc16
        generalize crcOf (cut s0 4 10) = c1 at *
        rw [hc4] at hof
        clear hc4
        have e14 : ¬ s0.length < 14 := by omega
        have e20 : ¬ s0.length < 20 := by omega
        go_wp2_with fail
        go_at_call 60
        refine (hof _).mono ?_
        rintro e wr' ⟨rfl, rfl⟩
        have Hcf2 := hid (fun (j : Nat) (h1 : 1 ≤ j) (h : j < T.length) => show crcMore (crcMore c1 (((T.drop 1).take (j - 1)).flatten)) T[j] = crcMore c1 (((T.drop 1).take j).flatten) by
          have e := Hcf.out (j - 1) (by rw [List.length_drop]; omega)
          rw [drop_get] at e
          simpa [show j - 1 + 1 = j by omega] using e)
        clear Hcf
        go_wp2_with fail
        go_loopw [7, 8] (fun s x W => ∃ j : Nat, 1 ≤ j ∧ j ≤ txSize N ∧ x = .int .i64 j ∧ s = .int .u32 ((crcMore c1 (((T.drop 1).take (j - 1)).flatten) : Nat) : Int) ∧ W = wr) (fun _ x _ => txSize N - (intOf x).toNat)
        case atStart => exact ⟨1, Nat.le_refl _, by omega, rfl, by simp [crcMore_nil hcl1], rfl⟩
        case round =>
          obtain ⟨j, hj1, hj, rfl, rfl, rfl⟩ := hrel
          by_cases hlt : j < txSize N
          · have hjT : j < T.length := by omega
            have x1 := HTc.out _ b2 j hjT
            have hml : crcMore c1 (((T.drop 1).take (j - 1)).flatten) < 4294967296 := crcMore_lt _ _
            have hm := fun W => r2_more (crcMore c1 (((T.drop 1).take (j - 1)).flatten)) hml T[j] (by rw [H64h.out _ (List.getElem_mem hjT)]; decide) W
            rw [Hcf2.out j hj1 hjT] at hm
            generalize T[j] = tj at *
            generalize crcMore c1 (((T.drop 1).take (j - 1)).flatten) = ck at *
            obtain ⟨cn, hcn⟩ : ∃ cn, crcMore c1 (((T.drop 1).take j).flatten) = cn := ⟨_, rfl⟩
            have Hcn := hid hcn
            rw [hcn] at hm
            clear hcn
            go_wp2_with fail
            go_at_call 103
            refine (hm _).mono ?_
            rintro e w5 ⟨rfl, rfl⟩
            go_wp2_with fail
            go_roundw
            case rel => exact ⟨j + 1, by omega, by omega, by go_num, by rw [show j + 1 - 1 = j by omega, Hcn.out], trivial⟩
            case measure => simp [intOf]; omega
          · obtain rfl : j = txSize N := by omega
            have e0 : (T.drop 1).take (txSize N - 1) = T.drop 1 := List.take_of_length_le (by rw [List.length_drop, hTl]; exact Nat.le_refl _)
            rw [e0, Hsum.out, Hcs.out]
            clear e0 Hcf2 Hsum
            have D3 := fun e : Ext wr => r2_bytes cs hcsl e.world
            have X0 : ∀ e : Ext wr, e.world.cell? ⟨pb, po, none⟩ = some (.string (bs s0)) := fun e => e.cell x02
            obtain ⟨h16, eh16⟩ : ∃ h, (s0.take 20).drop 16 = h := ⟨_, rfl⟩
            have hsumI : be 4 (crcOf (cut s0 4 10 ++ (T.drop 1).flatten)) ≠ cut s0 16 4 ↔ be 4 cs ≠ h16 := by rw [Hcs.out, Hc16.out, eh16]
            have HsumI := hid hsumI
            clear hsumI hc16
            by_cases hq : be 4 cs = h16
            rotate_left
            · have Hw := hid (show txRead (s0 :: tl) = (Tx.zero, 15) by rw [Hfin.out, if_pos (HsumI.out.2 hq)])
              have f1 : (be 4 cs == h16) = false := by simpa using hq
              clear hq
              go_wp2_with fail
              refine wp_region_ext mixed (by kernel_rfl) ?_
              repeat (go_big_quiet_step (((go_at_call 59; with_reducible exact ext_of (D3 _)))))
              refine wpQuiet_nil ?_
              rintro w5 ⟨pq_, hpq_⟩
              have hb5 := pq_.below
              rw [← hpq_] at hb5
              clear hpq_ pq_
              have r5 := r2.below hb5 r2.lt
              have b5 := bt b2 hb5
              have rf5 := r5.frozen
              have k5 := blk3 r5
              have yy := blk3 (blk_set3 r5 (.int .u64 0) (.slice none 0 0) (.slice none 0 0))
              go_wp2_with fail
              refine bodyPost_ret (v := .tuple #[(.agg #[.int .u64 0, .slice none 0 0, .slice none 0 0]), .int .i64 15]) (by simp [results, Tryz.results92, go_sem, yy]) rfl ?_
              exact ⟨retTx_zero _ _ Hw.out, below_set3 b5 (Nat.le_refl _) _ _ _⟩
            have Hread4 := hid (show txRead (s0 :: tl) = if (parse (s0 :: tl) N).write = (T, 0) then (parse (s0 :: tl) N, 0) else (Tx.zero, 14) by
              rw [Hfin.out, if_neg (by rw [HsumI.out]; exact fun h => h hq)])
            have f1 : (be 4 cs == h16) = true := by simpa using hq
            clear hq Hfin HsumI
            go_wp2_with fail
            refine wp_region_ext mixed (by kernel_rfl) ?_
            repeat (go_big_quiet_step (((go_at_call 59; with_reducible exact ext_of (D3 _)))))
            refine wpQuiet_nil ?_
            rintro w5 ⟨pq_, hpq_⟩
            have hb5 := pq_.below
            rw [← hpq_] at hb5
            clear hpq_ pq_
            have r5 := r2.below hb5 r2.lt
            have b5 := bt b2 hb5
            have x05 : w5.cell? ⟨pb, po, none⟩ = some (.string (bs s0)) := cell_below hb5 x02
            have htk := fun W => rtake_ok (s0.drop 4) (by unfold maxLen; rw [List.length_drop]; omega) 8 (by omega) (by omega) (by rw [List.length_drop]; omega) W
            obtain ⟨sq, hsq⟩ : ∃ sq, un ((s0.drop 4).take (8 : Int).toNat) = sq := ⟨_, rfl⟩
            have hsql : sq < 18446744073709551616 := by rw [← hsq]; exact un_bound (s0.drop 4) 8 (by omega)
            rw [hsq] at htk
            have Hsq := hid (show un (cut s0 4 8) = sq from hsq)
            have e4t : List.drop 4 (List.take 64 s0) = s0.drop 4 := by rw [List.take_of_length_le (by omega)]
            clear X0 D3 hsq x02 r2
            go_wp2_with fail
            go_at_call 61
            refine (htk _).mono ?_
            rintro e w6 ⟨rfl, hb6⟩
            have r6 := r5.below hb6 r5.lt
            have b6 := bt b5 hb6
            have tb7 := Blk.new w6 92 #[.int .u64 (sq : Int), .slice none 0 0, .slice none 0 0]
            have r7 := r6.alloc (.cells #[.int .u64 (sq : Int), .slice none 0 0, .slice none 0 0] 92)
            have b7 := b6.alloc b6.size (.cells #[.int .u64 (sq : Int), .slice none 0 0, .slice none 0 0] 92)
            have hg : w.heap.size < w6.heap.size := r6.lt
            obtain ⟨tg, htg⟩ : ∃ tg : List Int, (List.range N).map (fun i => (un (cut (T.drop 1).flatten (4 * i) 4) : Int)) = tg := ⟨_, rfl⟩
            have Htg := hid htg
            have htl : tg.length = N := by rw [← htg]; simp
            have Htk4 := hid (fun k (hk : k < N) => show tg[k]'(by omega) = (un (cut (T[1 + k / 16]'(by rw [hTl]; exact (row_lt hn24 hk).1)) (4 * (k % 16)) 4) : Int) by
              subst htg
              rw [List.getElem_map, List.getElem_range, tg_cut hTl H64h.out hn24 hk (by rw [hTl]; exact (row_lt hn24 hk).1)])
            obtain ⟨DT, hDT⟩ : ∃ DT, T.drop (txSize N - N) = DT := ⟨_, rfl⟩
            have hDTl : DT.length = N := by rw [← hDT, List.length_drop, hTl]; have := z2 h1; omega
            have Hdt := hid (fun k (hk : k < N) => show T[txSize N - N + k]'(by rw [hTl]; exact (row_lt hn24 hk).2.1) = DT[k]'(by omega) by
              subst hDT; rw [List.getElem_drop])
            have HDT := hid hDT
            clear htg hDT b5 htk r5 e4t eh16
            go_wp2_with fail
            generalize w6.alloc (.cells #[.int .u64 (sq : Int), .slice none 0 0, .slice none 0 0] 92) = w7 at *
            obtain ⟨i0, hi, iz0, iz1, iz2⟩ := info_parts Tryz.infoIntP
            obtain ⟨j0, hj, jz0, jz1, jz2⟩ := info_parts Tryz.infoStrP
            have ownz : w7.ownsRow (w6.heap.size + 1) 3 1 (.slice none 0 0) 0 [] := World.ownsRow_nil _ _ _ _
            have ownz' : w7.ownsRow (w6.heap.size + 1) 9 1 (.slice none 0 0) 0 [] := World.ownsRow_nil _ _ _ _
            go_loopw [13] (fun x W => ∃ k : Nat, k ≤ N ∧ x = .int .i64 k ∧ ∃ v u, Blk W w6.heap.size 92 #[.int .u64 sq, v, u] ∧ W.ownsRow (w6.heap.size + 1) 3 1 v k (intCells (tg.take k)) ∧ W.ownsRow (w6.heap.size + 1) 9 1 u k (strCells (DT.take k)) ∧ Blk W w.heap.size 92 #[.int .u64 0, .slice none 0 0, .slice none 0 0] ∧ Below w.heap.size w W) (fun x _ => N - (intOf x).toNat)
            case atStart => exact ⟨0, Nat.zero_le _, rfl, _, _, tb7, ownz, ownz', r7, b7⟩
            case round =>
              obtain ⟨k, hk, rfl, v, u, tb, own, own', rb, bb⟩ := hrel
              clear tb7 ownz ownz' r7 b7
              by_cases hlt : k < N
              · obtain ⟨q1, q2, q3⟩ := row_lt hn24 hlt
                have hjT : 1 + k / 16 < T.length := by omega
                have hdT : txSize N - N + k < T.length := by omega
                have x1 := HTc.out _ bb (1 + k / 16) hjT
                have hT64k := H64h.out _ (List.getElem_mem hjT)
                have hq : (k : Int).tdiv 16 = ((k / 16 : Nat) : Int) := by rw [Int.tdiv_eq_ediv_of_nonneg (by omega)]; rfl
                have hr : (k : Int).tmod 16 = ((k % 16 : Nat) : Int) := by rw [Int.tmod_eq_emod_of_nonneg (by omega)]; rfl
                have htgk := Htk4.out k hlt
                have Hxd := hid (fun W (hW : Below w.heap.size w W) => HTc.out W hW (txSize N - N + k) hdT)
                have hdtk := Hdt.out k hlt
                generalize T[1 + k / 16] = Tk at *
                have htk := fun W => rtake_ok (Tk.drop (4 * (k % 16))) (by unfold maxLen; rw [List.length_drop]; omega) 4 (by omega) (by omega) (by rw [List.length_drop]; omega) W
                have Hn := hid (show ((un ((Tk.drop (4 * (k % 16))).take (4 : Int).toNat) : Nat) : Int) = tg[k]'(by omega) from htgk.symm)
                have hul : un ((Tk.drop (4 * (k % 16))).take (4 : Int).toNat) < 4294967296 := un_bound (Tk.drop (4 * (k % 16))) 4 (by omega)
                have Hmap := hid (show intCells (tg.take k) ++ [Value.int .i64 (tg[k]'(by omega))] = intCells (tg.take (k + 1)) by rw [List.take_succ_eq_append_getElem (by omega), intCells_snoc])
                have Hmap' := hid (show strCells (DT.take k) ++ [Value.string (bs (T[txSize N - N + k]'hdT))] = strCells (DT.take (k + 1)) by rw [List.take_succ_eq_append_getElem (by omega), hdtk, strCells_snoc])
                generalize T[txSize N - N + k] = Td at *
                generalize un ((Tk.drop (4 * (k % 16))).take (4 : Int).toNat) = at_ at *
                have hat := i64w (x := (at_ : Int)) ⟨by omega, by omega⟩
                have e4 : List.drop (4 * (k % 16)) (List.take 64 Tk) = Tk.drop (4 * (k % 16)) := by rw [List.take_of_length_le (by omega)]
                have hgk : ¬ (64 : Int) < 4 * ((k % 16 : Nat) : Int) := by omega
                have wi1 := i64w (x := 1 + ((k / 16 : Nat) : Int)) ⟨by omega, by omega⟩
                have wi2 := i64w (x := 4 * ((k % 16 : Nat) : Int)) ⟨by omega, by omega⟩
                obtain ⟨m, hm⟩ : ∃ m, txSize N - N = m := ⟨_, rfl⟩
                have wi3 : IntKind.i64.wrap ((txSize N : Int) - (N : Int)) = (m : Int) := by rw [i64w (x := (txSize N : Int) - (N : Int)) ⟨by omega, by omega⟩]; omega
                have wi4 := i64w (x := (m : Int) + (k : Int)) ⟨by omega, by omega⟩
                have gi4 : (m : Int) + (k : Int) < (tl.length : Int) + 1 := by omega
                have gi5 : (0 : Int) ≤ (m : Int) + (k : Int) := by omega
                have gi6 : ((m : Int) + (k : Int)).toNat = m + k := by omega
                rw [hm] at Hxd
                have Hm := hid hm
                clear hm
                rw [← Hn.out] at Hmap
                clear htgk hdtk
                go_wp2_with fail
                go_at_call 61
                refine (htk _).mono ?_
                rintro e w8 ⟨rfl, hb8⟩
                have tb8 := tb.below hb8 tb.lt
                have rb8 := rb.below hb8 rb.lt
                have own8 := own_later own hb8
                have own8' := own_later own' hb8
                have bb8 := bt bb hb8
                have tf8 := tb8.frozen
                have kt8 := blk3 tb8
                have tbA := tb8.alloc (.cells #[.int .i64 (at_ : Int)] 3)
                have rbA := rb8.alloc (.cells #[.int .i64 (at_ : Int)] 3)
                have ownA := own8.alloc (.cells #[.int .i64 (at_ : Int)] 3)
                have ownA' := own8'.alloc (.cells #[.int .i64 (at_ : Int)] 3)
                have bbA := bb8.alloc bb8.size (.cells #[.int .i64 (at_ : Int)] 3)
                go_wp2_with (at_builtin; refine wpList_append_own _ rfl _ _ 23 rfl (w6.heap.size + 1) 3 i0 (.int .i64 0) 1 8 Tryz.underlying23 hi iz0 iz1 iz2 rfl (by decide) v k (intCells (tg.take k)) rfl ownA ⟨w8.heap.size, 0, none⟩ 1 1 [.int .i64 (at_ : Int)] rfl rfl (World.news_of_block (Blk.new w8 3 #[.int .i64 (at_ : Int)])) (by simp [Value.oneCell']) (by unfold maxLen; omega) (by omega) (Nat.succ_le_of_lt tbA.lt) ?_; intro v9 w9 own9 gr9 _; obtain ⟨A9, c9, rfl, -⟩ := own_slice own9; have tb9 := tbA.kept gr9 (own_box ownA tbA (by decide)); have rb9 := rbA.kept gr9 (own_box ownA rbA (by decide)); have own9' := ownA'.kept gr9 (own_apart ownA' ownA (by decide)); have bb9 := bbA.trans ((grown_below ownA gr9 (Nat.succ_le_of_lt tbA.lt)).mono (by omega)); have tf9 := tb9.frozen; have kt9 := blk3 tb9)
                obtain ⟨A', c', rfl, hkc', hcm', hnil'⟩ := own_slice own9'
                have tbS : Blk (w9.setCell ⟨w6.heap.size, 1, none⟩ (.slice A9 (k + 1) c9)) w6.heap.size 92 #[.int .u64 sq, .slice A9 (k + 1) c9, .slice A' k c'] := by simpa using tb9.set 1 (.slice A9 (k + 1) c9)
                have ownS := ownsRow_setCell_other own9 (a := ⟨w6.heap.size, 1, none⟩) (own_box own9 tb9 (by decide)).symm (.slice A9 (k + 1) c9)
                have ownS' := ownsRow_setCell_other own9' (a := ⟨w6.heap.size, 1, none⟩) (own_box own9' tb9 (by decide)).symm (.slice A9 (k + 1) c9)
                have rbS := rb9.other (a := ⟨w6.heap.size, 1, none⟩) (by simp; omega) (.slice A9 (k + 1) c9)
                have bbS := bb9.setCell (p := ⟨w6.heap.size, 1, none⟩) (by simp; omega) (.slice A9 (k + 1) c9)
                have xdS := Hxd.out _ bbS
                rw [Hmap.out] at ownS
                clear kt9 kt8 tf9 tf8 tb9 tb8 tbA own9 own9' own8 own8' ownA ownA' rb9 rb8 rbA bb9 bb8 bbA x1 htk gr9
                generalize w9.setCell ⟨w6.heap.size, 1, none⟩ (.slice A9 (k + 1) c9) = w10 at *
                have ktS := blk3 tbS
                have tfS := tbS.frozen
                have ownD := (ownS'.alloc (.cells #[.string (bs Td)] 9)).drew
                have nwD := World.news_of_block (Blk.new w10 9 #[.string (bs Td)]).drew
                have tbD := (tbS.alloc (.cells #[.string (bs Td)] 9)).drew
                have rbD := (rbS.alloc (.cells #[.string (bs Td)] 9)).drew
                have ownI := (ownS.alloc (.cells #[.string (bs Td)] 9)).drew
                have bbD := (bbS.alloc bbS.size (.cells #[.string (bs Td)] 9)).drew
                have ktD := blk3 tbD
                have tfD := tbD.frozen
                go_region_law ((refine step_append_lies _ rfl (.tmp 116) (.tmp 125) 26 rfl (w6.heap.size + 1) 9 j0 (.string ⟨#[]⟩) 1 16 Tryz.underlying26 hj jz0 jz1 jz2 rfl (by decide) (.slice A' k c') k (strCells (DT.take k)) (by rfl) ownD ⟨w10.heap.size, 0, none⟩ 1 1 [.string (bs Td)] (by rfl) rfl nwD (by simp [Value.oneCell']) (by decide) (by unfold maxLen; omega) (by omega) (Nat.succ_le_of_lt tbD.lt) (w10.heap.size + 1) (by simp) ?_; intro g cap w11 own11 gr11 hat hlt11; have tb11 := tbD.kept gr11 (own_box ownD tbD (by decide)); have tf11 := tb11.frozen; have kt11 := blk3 tb11))
                all_goals
                  go_wp2_with fail
                  go_roundw
                  case rel =>
                    have ownI' := ownI.kept gr11 (own_apart ownI ownD (by decide))
                    have rb11 := rbD.kept gr11 (own_box ownD rbD (by decide))
                    have bb11 := bbD.trans ((grown_below ownD gr11 (Nat.succ_le_of_lt tbD.lt)).mono (by omega))
                    rw [Hmap'.out] at own11
                    exact ⟨k + 1, by omega, by go_num, _, _, by simpa using tb11.set 2 (.slice (some ⟨g, 0, none⟩) (k + 1) cap), ownsRow_setCell_other ownI' (a := ⟨w6.heap.size, 2, none⟩) (own_box ownI' tb11 (by decide)).symm _, ownsRow_setCell_other own11 (a := ⟨w6.heap.size, 2, none⟩) (own_box own11 tb11 (by decide)).symm _, rb11.other (a := ⟨w6.heap.size, 2, none⟩) (by simp; omega) _, bb11.setCell (p := ⟨w6.heap.size, 2, none⟩) (by simp; omega) _⟩
                  case measure => simp [intOf]; omega
              · obtain rfl : N = k := by omega
                have hfull : tg.take tg.length = tg := List.take_length
                rw [htl] at hfull
                have hfull' : DT.take DT.length = DT := List.take_length
                rw [hDTl] at hfull'
                rw [hfull] at own
                rw [hfull'] at own'
                obtain ⟨AT, cT, rfl, v1, v2, v3⟩ := own_slice own
                obtain ⟨A8, c8, rfl, u1, u2, u3'⟩ := own_slice own'
                have Hr2 := hid (show Rows2 (w.heap.size + 1) ⟨tg, DT⟩ ⟨AT, cT⟩ ⟨A8, c8⟩ wr from ⟨by show World.ownsRow _ _ _ _ (.slice AT tg.length cT) tg.length _; rw [htl]; exact own_base own (by omega), by show World.ownsRow _ _ _ _ (.slice A8 DT.length c8) DT.length _; rw [hDTl]; exact own_base own' (by omega)⟩)
                have hParse := hid (show parse (s0 :: tl) N = ⟨sq, ⟨tg, DT⟩⟩ by
                  unfold parse
                  rw [hT, HDT.out, show bodyOf (s0 :: tl) (txSize N) = (T.drop 1).flatten by unfold bodyOf; rw [hT], Htg.out, List.headD_cons, Hsq.out])
                have hpn : IsPn wr ⟨tg, DT⟩ ⟨AT, cT⟩ ⟨A8, c8⟩ :=
                  { targets := Cells.of_own own, data := Cells.of_own own', pn := v3, qn := u3', pc := by rw [htl]; exact v1, qc := by rw [hDTl]; exact u1, pm := v2, qm := u2
                    ats := fun x hx => by
                      obtain ⟨j, hj, rfl⟩ := List.getElem_of_mem hx
                      have hjN : j < N := by rw [← htl]; exact hj
                      have := un_bound ((T[1 + j / 16]'(by rw [hTl]; exact (row_lt hn24 hjN).1)).drop (4 * (j % 16))) 4 (by omega)
                      rw [Htk4.out j hjN, cut]
                      omega
                    strs := fun x hx => by
                      have := H64h.out x (List.mem_of_mem_drop (HDT.out ▸ hx))
                      omega }
                have hwr := r6_write ⟨sq, ⟨tg, DT⟩⟩ ⟨AT, cT⟩ ⟨A8, c8⟩ _ hpn hsql
                simp only [tval, htl, hDTl] at hwr
                have Hpn := hid hpn
                have kt := blk3 tb
                have Hcells := hid (fun W (hW : Below w.heap.size w W) j (hj : j < txSize N) => HTc.out W hW j (by rw [hTl]; exact hj))
                clear own own' hpn hfull hfull' Hdt
                go_wp2_with fail
                go_at_call 82
                refine hwr.mono ?_
                rintro e wa ⟨⟨vr, rfl, ownR⟩, hba⟩
                obtain ⟨AR, cR, rfl, y1, y2, y3⟩ := own_slice ownR
                have tba := tb.below hba tb.lt
                have rba := rb.below hba rb.lt
                have bba := bt bb hba
                have hpna := hid (Hpn.out.below hba)
                have Hr2a := hid (Hr2.out.below hba)
                clear hwr Hpn Hr2 kt tb rb bb
                by_cases hok : (⟨sq, ⟨tg, DT⟩⟩ : Tx).Ok
                · have hW : (⟨sq, ⟨tg, DT⟩⟩ : Tx).write = ((⟨sq, ⟨tg, DT⟩⟩ : Tx).rows, 0) := by unfold Tx.write; rw [if_pos hok]
                  rw [hW] at ownR
                  simp only [hW]
                  have HrowsT := hid (show (parse (s0 :: tl) N).write = ((⟨sq, ⟨tg, DT⟩⟩ : Tx).rows, 0) by rw [hParse.out, hW])
                  have hRl : (⟨sq, ⟨tg, DT⟩⟩ : Tx).rows.length = txSize N := by rw [Tx.rows_length hok]; show txSize tg.length = _; rw [htl]
                  clear hW
                  generalize (⟨sq, ⟨tg, DT⟩⟩ : Tx).rows = RW at *
                  obtain ⟨qb, qo, rfl, hcR⟩ := (Cells.of_own ownR).str (i := 0) (by rw [hRl]; have := z2 h1; omega)
                  have HcR := hid hcR
                  clear hcR ownR
                  rw [hRl]
                  go_wp2_with fail
                  go_loopw [19] (fun x W => ∃ i : Nat, i ≤ txSize N ∧ x = .int .i64 i ∧ Hid (∀ j (hj : j < T.length) (hj' : j < RW.length), j < i → RW[j] = T[j]) ∧ Below wa.heap.size wa W) (fun x _ => txSize N - (intOf x).toNat)
                  case atStart => exact ⟨0, Nat.zero_le _, rfl, hid (fun j hj hj' h0 => by omega), Below.refl _ _⟩
                  case round =>
                    obtain ⟨i, hi, rfl, hsame, hbw⟩ := hrel
                    have tbw := tba.below hbw tba.lt
                    have rbw := rba.below hbw rba.lt
                    have bbw := bt bba hbw
                    by_cases hlt : i < txSize N
                    · have hiT : i < T.length := by omega
                      have hiR : i < RW.length := by omega
                      have x1 := Hcells.out _ bbw i hlt
                      have x2 := cell_below hbw (HcR.out i hiR)
                      have HeqI := hid (show ∀ (h : ¬ RW[i] = T[i]), txRead (s0 :: tl) = (Tx.zero, 14) from fun h => by
                        rw [Hread4.out, HrowsT.out, if_neg]
                        intro hh
                        have := (Prod.mk.inj hh).1
                        subst this
                        exact h rfl)
                      have HsameI := hid (show RW[i] = T[i] → ∀ j (hj : j < T.length) (hj' : j < RW.length), j < i + 1 → RW[j] = T[j] from fun h j hj hj' hji => by
                        rcases Nat.lt_or_ge j i with h' | h'
                        · exact hsame.out j hj hj' h'
                        · obtain rfl : j = i := by omega
                          exact h)
                      have X1 := fun e : Ext wr => e.cell x1
                      have X2 := fun e : Ext wr => e.cell x2
                      clear x1 x2 hsame
                      generalize RW[i] = ri at *
                      generalize T[i] = ti at *
                      by_cases he : ri = ti
                      · have HsameN := hid (HsameI.out he)
                        have f1 : (ri == ti) = true := by rw [he]; simp
                        clear he HsameI HeqI
                        go_wp2_with fail
                        refine wp_region_ext mixed (by kernel_rfl) ?_
                        repeat (go_big_quiet_step ((fail)))
                        refine wpQuiet_nil ?_
                        rintro wz ⟨pq_, hpq_⟩
                        have hbz := pq_.below
                        rw [← hpq_] at hbz
                        clear hpq_ pq_
                        go_wp2_with fail
                        go_roundw
                        case rel => exact ⟨i + 1, by omega, by go_num, HsameN, bt hbw hbz⟩
                        case measure => simp [intOf]; omega
                      · have Hw := hid (HeqI.out he)
                        have f1 : (ri == ti) = false := by rw [beq_eq_false_iff_ne]; exact he
                        clear he HsameI HeqI
                        go_wp2_with fail
                        refine wp_region_ext mixed (by kernel_rfl) ?_
                        repeat (go_big_quiet_step ((fail)))
                        refine wpQuiet_nil ?_
                        rintro wz ⟨pq_, hpq_⟩
                        have hbz := pq_.below
                        rw [← hpq_] at hbz
                        clear hpq_ pq_
                        have rbz := rbw.below hbz rbw.lt
                        have bbz := bt bbw hbz
                        have rfz := rbz.frozen
                        have krz := blk3 rbz
                        have yy := blk3 (blk_set3 rbz (.int .u64 0) (.slice none 0 0) (.slice none 0 0))
                        go_wp2_with fail
                        refine bodyPost_ret (v := .tuple #[(.agg #[.int .u64 0, .slice none 0 0, .slice none 0 0]), .int .i64 14]) (by simp [results, Tryz.results92, go_sem, yy]) rfl ?_
                        exact ⟨retTx_zero _ _ Hw.out, below_set3 bbz (Nat.le_refl _) _ _ _⟩
                    · obtain rfl : i = txSize N := by omega
                      have hRT : RW = T := List.ext_getElem (by omega) fun j h1 h2 => hsame.out j h2 h1 (by omega)
                      have Hw := hid (show txRead (s0 :: tl) = (⟨sq, ⟨tg, DT⟩⟩, 0) by rw [Hread4.out, HrowsT.out, if_pos (by rw [hRT]), hParse.out])
                      clear hRT hsame
                      have rfz := rbw.frozen
                      have krz := blk3 rbw
                      have ktz := blk3 tbw
                      have yy := blk3 (blk_set3 rbw (.int .u64 (sq : Int)) (.slice AT N cT) (.slice A8 N c8))
                      go_wp2_with fail
                      refine bodyPost_ret (v := .tuple #[(.agg #[.int .u64 (sq : Int), .slice AT N cT, .slice A8 N c8]), .int .i64 0]) (by simp [results, Tryz.results92, go_sem, yy]) rfl ?_
                      refine ⟨⟨⟨AT, cT⟩, ⟨A8, c8⟩, ?_, ?_, ?_⟩, below_set3 bbw (Nat.le_refl _) _ _ _⟩
                      · rw [Hw.out]; simp only [tval, htl, hDTl]
                      · rw [Hw.out]
                        have hpb := hpna.out.below hbw
                        have ho := Hr2a.out.off (Nat.lt_succ_self w.heap.size)
                        exact ((hpb.off (a := ⟨w.heap.size, 0, none⟩) ho _).off (a := ⟨w.heap.size, 1, none⟩) ho _).off (a := ⟨w.heap.size, 2, none⟩) ho _
                      · rw [Hw.out]
                        exact (Hr2a.out.below hbw).set3 (Nat.lt_succ_self _) _ _ _
                · have hW : (⟨sq, ⟨tg, DT⟩⟩ : Tx).write = ([], 25) := by unfold Tx.write; rw [if_neg hok]
                  have Hw := hid (show txRead (s0 :: tl) = (Tx.zero, 14) by
                    rw [Hread4.out, hParse.out, hW, if_neg (fun h => by have := (Prod.mk.inj h).2; simp at this)])
                  simp only [hW]
                  have rfa := rba.frozen
                  have kra := blk3 rba
                  have yy := blk3 (blk_set3 rba (.int .u64 0) (.slice none 0 0) (.slice none 0 0))
                  go_wp2_with fail
                  refine bodyPost_ret (v := .tuple #[(.agg #[.int .u64 0, .slice none 0 0, .slice none 0 0]), .int .i64 14]) (by simp [results, Tryz.results92, go_sem, yy]) rfl ?_
                  exact ⟨retTx_zero _ _ Hw.out, below_set3 bba (Nat.le_refl _) _ _ _⟩
end Go.Proofs.YtplgmlcoeehnfaaGreat
