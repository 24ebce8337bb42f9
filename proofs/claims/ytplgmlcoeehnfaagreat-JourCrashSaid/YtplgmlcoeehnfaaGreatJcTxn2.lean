/- Package txn and the document's: sizes, what a head tells, numbers and pads. Package txn: slices.Chunk at []int, whose iterator hands out stretches of 16. -/
import Derived.Test.YtplgmlcoeehnfaaGreatJcPlain1
import Derived.Test.YtplgmlcoeehnfaaGreatJcPacks
import Derived.Test.YtplgmlcoeehnfaaGreatJcRegs
import Derived.Test.YtplgmlcoeehnfaaGreatJcLay1
import Derived.Test.YtplgmlcoeehnfaaGreatJcRanges
set_option linter.unusedVariables false
namespace Go.Proofs.YtplgmlcoeehnfaaGreat
open Go.RowKit Go.Shelf
attribute [local go_sem] bs_mk bs_append bs_extract bs_size bs_toList bs_get
def okI (n : Int) : Prop := -9223372036854775808 ≤ n ∧ n ≤ 9223372036854775807
def txSizeI (n : Int) : Int := if n < 1 ∨ 24 < n then 0 else n + (n - 1) / 16 + 2
theorem txSizeI_nat (n : Nat) : txSizeI n = txSize n := by
  unfold txSizeI txSize
  by_cases h : n = 0 ∨ 24 < n
  · rw [if_pos h, if_pos (by omega)]; rfl
  · rw [if_neg h, if_neg (by omega)]; omega
theorem tx_size (n : Int) (hn : okI n) (w : World) : Calls Tryz.prog 95 #[.int .i64 n] w fun e w' => e = .returned (.int .i64 (txSizeI n)) ∧ Below w.heap.size w w' := by
  unfold okI at hn
  by_cases h : n < 1 ∨ 24 < n
  · have Hw := hid (show txSizeI n = 0 by unfold txSizeI; rw [if_pos h])
    rcases h with h | h
    · go_enter Tryz.func95, Tryz.ntmps95
      go_wp2_with fail
      go_ret
      exact ⟨by rw [Hw.out]; rfl, Below.refl _ _⟩
    · have h1 : ¬ n < 1 := by omega
      go_enter Tryz.func95, Tryz.ntmps95
      go_wp2_with fail
      go_ret
      exact ⟨by rw [Hw.out]; rfl, Below.refl _ _⟩
  · have Hw := hid (show txSizeI n = n + (n - 1).tdiv 16 + 2 by unfold txSizeI; rw [if_neg h, Int.tdiv_eq_ediv_of_nonneg (by omega)])
    have hq : 0 ≤ (n - 1).tdiv 16 ∧ (n - 1).tdiv 16 ≤ 1 := by rw [Int.tdiv_eq_ediv_of_nonneg (by omega)]; omega
    have h1 : ¬ n < 1 := by omega
    have h2 : ¬ 24 < n := by omega
    have w1 := i64w (x := n - 1) ⟨by omega, by omega⟩
    have w2 := i64w (x := (n - 1).tdiv 16) ⟨by omega, by omega⟩
    have w3 := i64w (x := n + (n - 1).tdiv 16) ⟨by omega, by omega⟩
    have w4 := i64w (x := n + (n - 1).tdiv 16 + 2) ⟨by omega, by omega⟩
    clear h
    go_enter Tryz.func95, Tryz.ntmps95
    go_wp2_with fail
    go_ret
    exact ⟨by rw [Hw.out]; rfl, Below.refl _ _⟩
theorem r6_size (n : Int) (hn : okI n) (w : World) : Calls Tryz.prog 91 #[.int .i64 n] w fun e w' => e = .returned (.int .i64 (txSizeI n)) ∧ Below w.heap.size w w' := by
  unfold okI at hn
  by_cases h : n < 1 ∨ 24 < n
  · have Hw := hid (show txSizeI n = 0 by unfold txSizeI; rw [if_pos h])
    rcases h with h | h
    · go_enter Tryz.func91, Tryz.ntmps91
      go_wp2_with fail
      go_ret
      exact ⟨by rw [Hw.out]; rfl, Below.refl _ _⟩
    · have h1 : ¬ n < 1 := by omega
      go_enter Tryz.func91, Tryz.ntmps91
      go_wp2_with fail
      go_ret
      exact ⟨by rw [Hw.out]; rfl, Below.refl _ _⟩
  · have Hw := hid (show txSizeI n = 1 + (n + 15).tdiv 16 + n by unfold txSizeI; rw [if_neg h, Int.tdiv_eq_ediv_of_nonneg (by omega)]; omega)
    have hq : 0 ≤ (n + 15).tdiv 16 ∧ (n + 15).tdiv 16 ≤ 2 := by rw [Int.tdiv_eq_ediv_of_nonneg (by omega)]; omega
    have h1 : ¬ n < 1 := by omega
    have h2 : ¬ 24 < n := by omega
    have w0 := i64w (x := n + 16) ⟨by omega, by omega⟩
    have w1 := i64w (x := n + 15) ⟨by omega, by omega⟩
    have w1' := i64w (x := n + 16 - 1) ⟨by omega, by omega⟩
    have w2 := i64w (x := (n + 15).tdiv 16) ⟨by omega, by omega⟩
    have w3 := i64w (x := 1 + (n + 15).tdiv 16) ⟨by omega, by omega⟩
    have w4 := i64w (x := 1 + (n + 15).tdiv 16 + n) ⟨by omega, by omega⟩
    have e1 : n + 16 - 1 = n + 15 := by omega
    clear h
    go_enter Tryz.func91, Tryz.ntmps91
    go_wp2_with fail
    go_ret
    exact ⟨by rw [Hw.out]; rfl, Below.refl _ _⟩
theorem tx_num_u (x : Nat) (hx : x < 18446744073709551616) (k : Nat) (h1 : 1 ≤ k) (h2 : k ≤ 8) (w : World) :
    Calls Tryz.prog 133 #[.int .u64 x, .int .i64 k] w fun e w' => e = .returned (.string (bs (be k x))) ∧ Below w.heap.size w w' := by
  have hp := fun W => put_ok x k hx h1 h2 W
  go_enter Tryz.func133, Tryz.ntmps133
  go_wp2_with (go_at_call 177; refine (hp _).mono ?_; rintro e w' ⟨rfl, hb⟩)
  go_ret
  exact ⟨rfl, hb⟩
theorem tx_num_i (x : Nat) (hx : x < 9223372036854775808) (k : Nat) (h1 : 1 ≤ k) (h2 : k ≤ 8) (w : World) :
    Calls Tryz.prog 134 #[.int .i64 x, .int .i64 k] w fun e w' => e = .returned (.string (bs (be k x))) ∧ Below w.heap.size w w' := by
  have hp := fun W => put_ok x k (by omega) h1 h2 W
  have hw := u64w (x := (x : Int)) ⟨by omega, by omega⟩
  go_enter Tryz.func134, Tryz.ntmps134
  go_wp2_with (go_at_call 177; refine (hp _).mono ?_; rintro e w' ⟨rfl, hb⟩)
  go_ret
  exact ⟨rfl, hb⟩
theorem tx_pad (s : List UInt8) (hs : s.length ≤ 64) (w : World) : Calls Tryz.prog 138 #[.string (bs s)] w fun e w' => e = .returned (.string (bs (pad64 s))) ∧ Below w.heap.size w w' := by
  have hp := fun W => pad_ok s (by unfold maxLen; omega) 64 (by omega) (by omega) W
  go_enter Tryz.func138, Tryz.ntmps138
  go_wp2_with (go_at_call 193; refine (hp _).mono ?_; rintro e w' ⟨rfl, hb⟩)
  go_ret
  exact ⟨rfl, hb⟩
theorem r6_pad (s : List UInt8) (hs : s.length ≤ 64) (w : World) : Calls Tryz.prog 148 #[.string (bs s)] w fun e w' => e = .returned (.string (bs (pad64 s))) ∧ Below w.heap.size w w' := by
  have hp := fun W => rpad_ok s (by unfold maxLen; omega) 64 (by omega) (by omega) W
  go_enter Tryz.func148, Tryz.ntmps148
  go_wp2_with (go_at_call 105; refine (hp _).mono ?_; rintro e w' ⟨rfl, hb⟩)
  go_ret
  exact ⟨rfl, hb⟩
theorem hn_lt (s : List UInt8) : hn s < 65536 := un_bound (s.drop 12) 2 (by omega)
theorem hm_lt (s : List UInt8) : hm s < 65536 := un_bound (s.drop 14) 2 (by omega)
theorem hcount_no {s : List UInt8} (h : s.length ≠ 64 ∨ magicJ.isPrefixOf s = false ∨ txSizeI (hn s) = 0 ∨ hn s + hm s ≠ 65535) : hcount s = 0 := by
  unfold hcount
  rw [if_neg]
  rintro ⟨h1, h2, h3, h4⟩
  rcases h with h | h | h | h
  · exact h h1
  · rw [h] at h2; cases h2
  · rw [txSizeI_nat] at h; omega
  · exact h h4
theorem hcount_yes {s : List UInt8} (h1 : s.length = 64) (h2 : magicJ.isPrefixOf s = true) (h3 : txSizeI (hn s) ≠ 0) (h4 : hn s + hm s = 65535) : hcount s = hn s := by
  unfold hcount
  rw [if_pos ⟨h1, h2, by rw [txSizeI_nat] at h3; omega, h4⟩]
theorem prefix_take {s : List UInt8} (h : 4 ≤ s.length) : magicJ.isPrefixOf s = decide (s.take 4 = magicJ) := by
  rw [Bool.eq_iff_iff, List.isPrefixOf_iff_prefix, decide_eq_true_iff]
  constructor
  · rintro ⟨t, rfl⟩; rfl
  · intro e; exact ⟨s.drop 4, by rw [← e, List.take_append_drop]⟩
set_option maxRecDepth 100000 in
theorem tx_count (s : List UInt8) (hs : s.length ≤ maxLen) (w : World) : Calls Tryz.prog 198 #[.string (bs s)] w fun e w' => e = .returned (.int .i64 (hcount s)) ∧ Below w.heap.size w w' := by
  unfold maxLen at hs
  have hp := fun W => Tryz.strings_HasPrefix (bs s) (bs magicJ) W
  rw [bs_list, bs_list] at hp
  have n0 : Lib.hasPrefix s magicJ = magicJ.isPrefixOf s := rfl
  rw [n0] at hp
  clear n0
  by_cases h1 : s.length = 64
  · have g1 : ((s.length : Int) != 64) = false := by simp; omega
    cases h2 : magicJ.isPrefixOf s with
    | false =>
      have Hw := hid (hcount_no (s := s) (.inr (.inl h2)))
      rw [h2] at hp
      clear h2
      go_enter Tryz.func198, Tryz.ntmps198
      go_wp2_with fail
      go_at_call 158
      refine (hp _).mono ?_
      rintro e w1 ⟨rfl, rfl⟩
      go_wp2_with fail
      go_ret
      exact ⟨by rw [Hw.out]; rfl, Below.refl _ _⟩
    | true =>
      have ht1 := fun W => take_ok (s.drop 12) (by unfold maxLen; rw [List.length_drop]; omega) 2 (by omega) (by omega) (by rw [List.length_drop]; omega) W
      have ht2 := fun W => take_ok ((s.drop 12).drop 2) (by unfold maxLen; rw [List.length_drop, List.length_drop]; omega) 2 (by omega) (by omega) (by rw [List.length_drop, List.length_drop]; omega) W
      have hn1 : un ((s.drop 12).take (2 : Int).toNat) = hn s := rfl
      have hm1 : un (((s.drop 12).drop 2).take (2 : Int).toNat) = hm s := by rw [List.drop_drop]; rfl
      have hnl := hn_lt s
      have hml := hm_lt s
      rw [hn1] at ht1
      rw [hm1] at ht2
      have hsz := fun W => tx_size (hn s) (by unfold okI; omega) W
      have e1 : List.drop 12 (List.take 64 s) = s.drop 12 := by rw [List.take_of_length_le (by omega)]
      have Hno := hid (hcount_no (s := s))
      have Hyes := hid (hcount_yes (s := s) h1 h2)
      rw [h2] at hp
      have w1 := i64w (x := (hn s : Int)) ⟨by omega, by omega⟩
      have w2 := u64w (x := (hn s : Int) + (hm s : Int)) ⟨by omega, by omega⟩
      have e2 : (s.drop 12).drop (2 : Int).toNat = (s.drop 12).drop 2 := rfl
      rw [e2] at ht1
      clear hn1 hm1 e2 h2
      generalize s.drop 12 = s12 at *
      generalize s12.drop 2 = s14 at *
      generalize hN : hn s = N at *
      generalize hM : hm s = M at *
      by_cases h3 : txSizeI N = 0
      · have Hw := hid (Hno.out (.inr (.inr (.inl h3))))
        rw [h3] at hsz
        clear h3
        go_enter Tryz.func198, Tryz.ntmps198
        go_wp2_with fail
        go_at_call 158
        refine (hp _).mono ?_
        rintro e w1 ⟨rfl, rfl⟩
        go_wp2_with fail
        go_at_call 173
        refine (ht1 _).mono ?_
        rintro e w2 ⟨rfl, hb2⟩
        go_wp2_with fail
        go_at_call 173
        refine (ht2 _).mono ?_
        rintro e w3 ⟨rfl, hb3⟩
        go_wp2_with fail
        go_at_call 95
        refine (hsz _).mono ?_
        rintro e w4 ⟨rfl, hb4⟩
        go_wp2_with fail
        go_ret
        exact ⟨by rw [Hw.out]; rfl, bt (bt hb2 hb3) hb4⟩
      · have g3 : (txSizeI N == 0) = false := by simpa using h3
        by_cases h4 : N + M = 65535
        · have Hw := hid (Hyes.out h3 h4)
          have g4 : (((N : Int) + (M : Int)) != 65535) = false := by simp; omega
          generalize txSizeI N = Z at *
          clear h3 Hno Hyes
          go_enter Tryz.func198, Tryz.ntmps198
          go_wp2_with fail
          go_at_call 158
          refine (hp _).mono ?_
          rintro e w1 ⟨rfl, rfl⟩
          go_wp2_with fail
          go_at_call 173
          refine (ht1 _).mono ?_
          rintro e w2 ⟨rfl, hb2⟩
          go_wp2_with fail
          go_at_call 173
          refine (ht2 _).mono ?_
          rintro e w3 ⟨rfl, hb3⟩
          go_wp2_with fail
          go_at_call 95
          refine (hsz _).mono ?_
          rintro e w4 ⟨rfl, hb4⟩
          go_wp2_with fail
          go_ret
          exact ⟨by rw [Hw.out]; rfl, bt (bt hb2 hb3) hb4⟩
        · have Hw := hid (Hno.out (.inr (.inr (.inr h4))))
          have g4 : (((N : Int) + (M : Int)) != 65535) = true := by simp; omega
          generalize txSizeI N = Z at *
          clear h3 Hno Hyes h4
          go_enter Tryz.func198, Tryz.ntmps198
          go_wp2_with fail
          go_at_call 158
          refine (hp _).mono ?_
          rintro e w1 ⟨rfl, rfl⟩
          go_wp2_with fail
          go_at_call 173
          refine (ht1 _).mono ?_
          rintro e w2 ⟨rfl, hb2⟩
          go_wp2_with fail
          go_at_call 173
          refine (ht2 _).mono ?_
          rintro e w3 ⟨rfl, hb3⟩
          go_wp2_with fail
          go_at_call 95
          refine (hsz _).mono ?_
          rintro e w4 ⟨rfl, hb4⟩
          go_wp2_with fail
          go_ret
          exact ⟨by rw [Hw.out]; rfl, bt (bt hb2 hb3) hb4⟩
  · have g1 : ((s.length : Int) != 64) = true := by simp; omega
    have Hw := hid (hcount_no (s := s) (.inl h1))
    go_enter Tryz.func198, Tryz.ntmps198
    go_wp2_with fail
    go_ret
    exact ⟨by rw [Hw.out]; rfl, Below.refl _ _⟩
end Go.Proofs.YtplgmlcoeehnfaaGreat
set_option linter.unusedVariables false
namespace Go.Proofs.YtplgmlcoeehnfaaGreat
open Go.RowKit Go.Shelf
attribute [local go_sem] bs_mk bs_append bs_extract bs_size bs_toList bs_get Oper.semAt_some
def chEnc (b off len : Nat) (j : Fin ((len + 15) / 16)) : Array Value := #[.slice (some ⟨b, off + 16 * j.val, none⟩) (min 16 (len - 16 * j.val)) (min 16 (len - 16 * j.val))]
set_option maxRecDepth 100000 in
set_option maxHeartbeats 1000000 in
theorem chunk_stops (n : Nat) (hn : 1 ≤ n) (b off len c : Nat) (hl : len ≤ 1000000) (hlc : len ≤ c) (hc : c ≤ maxLen) (B0 B1 B2 : Nat) (w : World) (h0 : B0 ≤ w.heap.size)
    (b1 : Blk w B1 23 #[.slice (some ⟨b, off, none⟩) len c]) (b2 : Blk w B2 3 #[.int .i64 16]) :
    SeqC 0 Fence.wide n Tryz.prog 214 #[.pointer (some ⟨B1, 0, none⟩), .pointer (some ⟨B2, 0, none⟩)] (chEnc b off len) (KeepB B0 [B1, B2])
      (fun ys => ys.map (·.val) = List.range ((len + 15) / 16)) (fun pre => ∃ m, m < (len + 15) / 16 ∧ pre.map (·.val) = List.range (m + 1)) ((len + 15) / 16) w := by
  intro l J Jx W hW hJ hJx hY h0J
  have h1 : 1 ≤ n := hn
  have HY := hid hY
  have kW : KeepB B0 [B1, B2] w W := KeepB.later hW h0 (fun g hg => by
    simp only [List.mem_cons, List.not_mem_nil, or_false] at hg
    rcases hg with rfl | rfl
    · exact b1.lt
    · exact b2.lt)
  have in1 : B1 ∈ [B1, B2] := by simp
  have in2 : B2 ∈ [B1, B2] := by simp
  have k1 := blk1 (b1.at_ (kW.at_ _ in1))
  have k2 := blk1 (b2.at_ (kW.at_ _ in2))
  have hm := hc
  unfold maxLen at hm
  clear hY
  refine callsIn_of_wp Tryz.func214 rfl trivial ?_ rfl
  simp only [Tryz.ntmps214, List.size_toArray, List.length_cons, List.length_nil, Nat.reduceAdd, Nat.reduceSub, Array.replicate_succ, Array.replicate_zero, List.push_toArray, List.append_toArray, List.nil_append, List.cons_append]
  gi_wp2
  gi_loopw [4] (fun x V => ∃ m : Nat, m ≤ (len + 15) / 16 ∧ x = .int .i64 ((16 * m : Nat) : Int) ∧ (∃ pre, pre.length = m ∧ Hid (pre.map (·.val) = List.range m) ∧ J pre V) ∧ KeepB B0 [B1, B2] w V ∧ Hid (W.heap.size ≤ V.heap.size)) (fun x _ => len + 16 - (intOf x).toNat)
  case atStart => exact ⟨0, Nat.zero_le _, rfl, ⟨[], rfl, hid rfl, h0J⟩, kW, hid (Nat.le_refl _)⟩
  case round =>
    obtain ⟨m, hm2, rfl, ⟨pre, hpl, hpm, hJm⟩, hk, hsz⟩ := hrel
    have Hpl := hid hpl
    clear k1 k2 h0J kW hpl
    have k1 := blk1 (b1.at_ (hk.at_ _ in1))
    have k2 := blk1 (b2.at_ (hk.at_ _ in2))
    by_cases hlt : 16 * m < len
    · have hmk : m < (len + 15) / 16 := by omega
      have hdr : Below wr.heap.size wr wr.drew := (Below.refl _ _).drew
      have hkd : KeepB B0 [B1, B2] wr wr.drew := ⟨hdr.mono (Nat.le_trans h0 hk.below.size), fun g hg => rfl⟩
      obtain ⟨fn, tmps, assign, body, hy, hR⟩ := HY.out pre ⟨m, hmk⟩ wr.drew (OwnFrom.later hJ hJm hdr) (by rw [Hpl.out]; exact hmk) hsz.out
      have Hz := hid (show (pre ++ [(⟨m, hmk⟩ : Fin ((len + 15) / 16))]).map (·.val) = List.range (m + 1) by
        rw [List.map_append, hpm.out, List.range_succ]; rfl)
      simp only [chEnc] at hy
      clear hJm
      obtain ⟨r, hr⟩ : ∃ r, len = 16 * m + r := ⟨len - 16 * m, by omega⟩
      subst hr
      rw [show min 16 (16 * m + r - 16 * m) = (16 * (m : Int) + min 16 (r : Int)).toNat - 16 * m by omega] at hy
      gi_wp2
      gi_region
      gi_wp2
      refine hR.mono ?_
      rintro e W3 (⟨rfl, hJ3, hkf, _, hk3⟩ | ⟨rfl, hJx3, _⟩)
      · have HJ3 := hid hJ3
        have k4 := blk1 (b2.at_ (((hk.trans hkd).trans hk3).at_ _ in2))
        clear hJ3 k1 k2
        gi_wp2
        go_roundw
        case rel => exact ⟨m + 1, by omega, by go_num, ⟨_, by rw [List.length_append, Hpl.out]; rfl, Hz, HJ3.out⟩, (hk.trans hkd).trans hk3, hid (Nat.le_trans hsz.out hkf.size)⟩
        case measure => simp [intOf]; omega
      · gi_wp2
        refine bodyPost_ret (results_none rfl _ _ _) rfl ?_
        exact ⟨⟨_, rfl⟩, .inr ⟨_, ⟨m, hmk, Hz.out⟩, hJx3⟩⟩
    · have hmk : m = (len + 15) / 16 := by omega
      have Hm := hid hmk
      clear hmk
      gi_wp2
      go_end0
      exact ⟨⟨_, rfl⟩, .inl ⟨pre, by rw [hpm.out, Hm.out], hJm⟩⟩
end Go.Proofs.YtplgmlcoeehnfaaGreat
