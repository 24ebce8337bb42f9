/- Package txn: slices.Chunk at []int, whose iterator hands out stretches of 16. -/
import Derived.Test.YtkiokdphjfkocaaTxn1
import Derived.Test.YtkiokdphjfkocaaLay1
import Derived.Test.YtkiokdphjfkocaaRangeC
set_option linter.unusedVariables false
namespace Go.Proofs.Ytkiokdphjfkocaa
open Go.RowKit Go.Shelf
attribute [local go_sem] bs_mk bs_append bs_extract bs_size bs_toList bs_get Oper.semAt_some
def chEnc (b off len : Nat) (j : Fin ((len + 15) / 16)) : Array Value := #[.slice (some ⟨b, off + 16 * j.val, none⟩) (min 16 (len - 16 * j.val)) (min 16 (len - 16 * j.val))]
set_option maxRecDepth 100000 in
set_option maxHeartbeats 1000000 in
theorem chunk_stops (n : Nat) (hn : 1 ≤ n) (b off len c : Nat) (hl : len ≤ 1000000) (hlc : len ≤ c) (hc : c ≤ maxLen) (B0 B1 B2 : Nat) (w : World) (h0 : B0 ≤ w.heap.size)
    (b1 : Blk w B1 23 #[.slice (some ⟨b, off, none⟩) len c]) (b2 : Blk w B2 3 #[.int .i64 16]) :
    SeqC 0 Fence.wide n Try.prog 63 #[.pointer (some ⟨B1, 0, none⟩), .pointer (some ⟨B2, 0, none⟩)] (chEnc b off len) (KeepB B0 [B1, B2])
      (fun ys => ys.map (·.val) = List.range ((len + 15) / 16)) (fun pre => ∃ m, m < (len + 15) / 16 ∧ pre.map (·.val) = List.range (m + 1)) ((len + 15) / 16) w := by
  intro l J Jx W hW hJ hJx hY h0J
  have h1 : 1 ≤ n := hn
  have HY := hid hY
  have kW : KeepB B0 [B1, B2] w W := KeepB.later hW h0 (fun g hg => by
    simp only [List.mem_cons, List.not_mem_nil, or_false] at hg
    rcases hg with rfl | rfl
    · exact b1.lt
    · exact b2.lt)
  have in1 : B1 ∈ [B1, B2] := by simp
  have in2 : B2 ∈ [B1, B2] := by simp
  have k1 := blk1 (b1.at_ (kW.at_ _ in1))
  have k2 := blk1 (b2.at_ (kW.at_ _ in2))
  have hm := hc
  unfold maxLen at hm
  clear hY
  refine callsIn_of_wp Try.func63 rfl trivial ?_ rfl
  simp only [Try.ntmps63, List.size_toArray, List.length_cons, List.length_nil, Nat.reduceAdd, Nat.reduceSub, Array.replicate_succ, Array.replicate_zero, List.push_toArray, List.append_toArray, List.nil_append, List.cons_append]
  gi_wp2
  gi_loopw [4] (fun x V => ∃ m : Nat, m ≤ (len + 15) / 16 ∧ x = .int .i64 ((16 * m : Nat) : Int) ∧ (∃ pre, pre.length = m ∧ Hid (pre.map (·.val) = List.range m) ∧ J pre V) ∧ KeepB B0 [B1, B2] w V ∧ Hid (W.heap.size ≤ V.heap.size)) (fun x _ => len + 16 - (intOf x).toNat)
  case atStart => exact ⟨0, Nat.zero_le _, rfl, ⟨[], rfl, hid rfl, h0J⟩, kW, hid (Nat.le_refl _)⟩
  case round =>
    obtain ⟨m, hm2, rfl, ⟨pre, hpl, hpm, hJm⟩, hk, hsz⟩ := hrel
    have Hpl := hid hpl
    clear k1 k2 h0J kW hpl
    have k1 := blk1 (b1.at_ (hk.at_ _ in1))
    have k2 := blk1 (b2.at_ (hk.at_ _ in2))
    by_cases hlt : 16 * m < len
    · have hmk : m < (len + 15) / 16 := by omega
      have hdr : Below wr.heap.size wr wr.drew := (Below.refl _ _).drew
      have hkd : KeepB B0 [B1, B2] wr wr.drew := ⟨hdr.mono (Nat.le_trans h0 hk.below.size), fun g hg => rfl⟩
      obtain ⟨fn, tmps, assign, body, hy, hR⟩ := HY.out pre ⟨m, hmk⟩ wr.drew (OwnFrom.later hJ hJm hdr) (by rw [Hpl.out]; exact hmk) hsz.out
      have Hz := hid (show (pre ++ [(⟨m, hmk⟩ : Fin ((len + 15) / 16))]).map (·.val) = List.range (m + 1) by
        rw [List.map_append, hpm.out, List.range_succ]; rfl)
      simp only [chEnc] at hy
      clear hJm
      obtain ⟨r, hr⟩ : ∃ r, len = 16 * m + r := ⟨len - 16 * m, by omega⟩
      subst hr
      rw [show min 16 (16 * m + r - 16 * m) = (16 * (m : Int) + min 16 (r : Int)).toNat - 16 * m by omega] at hy
      gi_wp2
      gi_region
      gi_wp2
      refine hR.mono ?_
      rintro e W3 (⟨rfl, hJ3, hkf, _, hk3⟩ | ⟨rfl, hJx3, _⟩)
      · have HJ3 := hid hJ3
        have k4 := blk1 (b2.at_ (((hk.trans hkd).trans hk3).at_ _ in2))
        clear hJ3 k1 k2
        gi_wp2
        go_roundw
        case rel => exact ⟨m + 1, by omega, by go_num, ⟨_, by rw [List.length_append, Hpl.out]; rfl, Hz, HJ3.out⟩, (hk.trans hkd).trans hk3, hid (Nat.le_trans hsz.out hkf.size)⟩
        case measure => simp [intOf]; omega
      · gi_wp2
        refine bodyPost_ret (results_none rfl _ _ _) rfl ?_
        exact ⟨⟨_, rfl⟩, .inr ⟨_, ⟨m, hmk, Hz.out⟩, hJx3⟩⟩
    · have hmk : m = (len + 15) / 16 := by omega
      have Hm := hid hmk
      clear hmk
      gi_wp2
      go_end0
      exact ⟨⟨_, rfl⟩, .inl ⟨pre, by rw [hpm.out, Hm.out], hJm⟩⟩
end Go.Proofs.Ytkiokdphjfkocaa
