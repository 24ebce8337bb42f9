/- Package plan: the sectors of a plan, one by one. -/
import Derived.Test.YtplgmlcoeehnfaaGreatJcPlain1
import Derived.Test.YtplgmlcoeehnfaaGreatJcRegs
import Derived.Test.YtplgmlcoeehnfaaGreatJcRanges
import Derived.Test.YtplgmlcoeehnfaaGreatProg
import Derived.WalkMore
set_option linter.unusedVariables false
namespace Go.Proofs.YtplgmlcoeehnfaaGreat
open Go.RowKit Go.Shelf
attribute [local go_sem] bs_mk bs_append bs_extract bs_size bs_toList bs_get Oper.semAt_some
def Pn.secs (L : Pn) : List (Int × List UInt8) := L.targets.zip L.data
def secEnc (Z : List (Int × List UInt8)) (i : Fin Z.length) : Array Value := #[.int .i64 Z[i.val].1, .string (bs Z[i.val].2)]
theorem secs_at (L : Pn) (m : Nat) (hm : m < L.secs.length) : ∃ (h1 : m < L.targets.length) (h2 : m < L.data.length), L.secs[m] = (L.targets[m], L.data[m]) := by
  have h := hm
  rw [Pn.secs, List.length_zip] at h
  exact ⟨by omega, by omega, List.getElem_zip⟩
theorem secs_length (L : Pn) (h : L.targets.length = L.data.length) : L.secs.length = L.targets.length := by
  rw [Pn.secs, List.length_zip]; omega
def picked {α : Type} (Z : List α) (pre : List (Fin Z.length)) : List α := pre.map fun i => Z[i.val]
theorem picked_snoc {α : Type} (Z : List α) (pre : List (Fin Z.length)) (i : Fin Z.length) : picked Z (pre ++ [i]) = picked Z pre ++ [Z[i.val]] := by
  unfold picked; rw [List.map_append]; rfl
theorem picked_next {α : Type} (Z : List α) (pre : List (Fin Z.length)) (m : Nat) (hm : m < Z.length) (h : picked Z pre = Z.take m) : picked Z (pre ++ [⟨m, hm⟩]) = Z.take (m + 1) := by
  rw [picked_snoc, h, List.take_succ_eq_append_getElem hm]
theorem keepsFrom_below {B : Nat} {X Y : World} (h : Below X.heap.size X Y) : KeepsFrom B X Y :=
  ⟨h.size, fun k o _ hk _ => (h.block k (Array.getElem?_eq_some_iff.1 hk).1).trans hk⟩
set_option maxRecDepth 100000 in
set_option maxHeartbeats 1000000 in
theorem sectors_stops (n : Nat) (hn : 1 ≤ n) (L : Pn) (p' q' : Pl) (hlen : L.targets.length = L.data.length) (hmany : L.targets.length ≤ 1000000) (B0 Bp : Nat) (w : World) (h0 : B0 ≤ w.heap.size)
    (hLW : ∀ W, Below B0 w W → IsPn W L p' q') (bp : Blk w Bp 28 #[.slice p'.a L.targets.length p'.c, .slice q'.a L.data.length q'.c]) :
    SeqO Fence.wide n Tryz.prog 213 #[.pointer (some ⟨Bp, 0, none⟩)] (secEnc L.secs) (KeepB B0 [Bp])
      (fun ys => picked L.secs ys = L.secs) (fun pre => ∃ m, m < L.secs.length ∧ picked L.secs pre = L.secs.take (m + 1)) L.secs.length w := by
  intro l J Jx W hW hJ hJx hY h0J
  have h1 : 1 ≤ n := hn
  have HY := hid hY
  have Hlen := hid hlen
  have kW : KeepB B0 [Bp] w W := KeepB.later hW h0 (fun g hg => by
    simp only [List.mem_cons, List.not_mem_nil, or_false] at hg
    rcases hg with rfl
    exact bp.lt)
  obtain ⟨B1, b1⟩ := p'
  obtain ⟨B2, b2⟩ := q'
  have in1 : Bp ∈ [Bp] := by simp
  have bp0 := blk2 (bp.at_ (kW.at_ _ in1))
  clear hlen hY
  refine callsIn_of_wp Tryz.func213 rfl trivial ?_ rfl
  simp only [Tryz.ntmps213, List.size_toArray, List.length_cons, List.length_nil, Nat.reduceAdd, Nat.reduceSub, Array.replicate_succ, Array.replicate_zero, List.push_toArray, List.append_toArray, List.nil_append, List.cons_append]
  gi_wp2
  gi_loopw [8] (fun x V => ∃ m : Nat, m ≤ L.targets.length ∧ x = .int .i64 m ∧ (∃ pre, pre.length = m ∧ Hid (picked L.secs pre = L.secs.take m) ∧ J pre V) ∧ KeepB B0 [Bp] w V) (fun x _ => L.targets.length - (intOf x).toNat)
  case atStart => exact ⟨0, Nat.zero_le _, rfl, ⟨[], rfl, hid rfl, h0J⟩, kW⟩
  case round =>
    obtain ⟨m, hm, rfl, ⟨pre, hpl, hpm, hJm⟩, hk⟩ := hrel
    have Hpl := hid hpl
    clear bp0 h0J kW hpl
    by_cases hlt : m < L.targets.length
    · have hm2 : m < L.data.length := by have := Hlen.out; omega
      have hP := hLW wr hk.below
      obtain ⟨c1, o1, e1, ct⟩ := hP.targets.int hlt
      obtain ⟨c2, o2, e2, cs⟩ := hP.data.str hm2
      have e1' : B1 = some ⟨c1, o1, none⟩ := e1
      have e2' : B2 = some ⟨c2, o2, none⟩ := e2
      subst e1' e2'
      have ct := ct m hlt
      have cs := cs m hm2
      have hz : m < L.secs.length := by rw [secs_length L Hlen.out]; omega
      have Hze := hid (secs_at L m hz)
      have Hz := hid (picked_next L.secs pre m hz hpm.out)
      have bp0 := blk2 (bp.at_ (hk.at_ _ in1))
      obtain ⟨fn, tmps, assign, body, hy, hR⟩ := HY.out pre ⟨m, hz⟩ wr hJm (by rw [Hpl.out]; exact hz)
      obtain ⟨_, _, hze⟩ := Hze.out
      simp only [secEnc, hze] at hy
      clear hze
      clear hP e1 e2 hJm
      gi_wp2
      refine hR.mono ?_
      rintro e W3 (⟨rfl, hJ3, hst, hk3⟩ | ⟨rfl, hJx3, _⟩)
      · have HJ3 := hid hJ3
        clear hJ3
        gi_wp2
        go_roundw
        case rel => exact ⟨m + 1, by omega, by go_num, ⟨_, by rw [List.length_append, Hpl.out]; rfl, Hz, HJ3.out⟩, hk.trans hk3⟩
        case measure => simp [intOf]; omega
      · gi_wp2
        refine bodyPost_ret (results_none rfl _ _ _) rfl ?_
        exact ⟨⟨_, rfl⟩, .inr ⟨_, ⟨m, hz, Hz.out⟩, hJx3⟩⟩
    · obtain rfl : m = L.targets.length := by omega
      gi_wp2
      go_end0
      exact ⟨⟨_, rfl⟩, .inl ⟨pre, by rw [hpm.out, List.take_of_length_le (by rw [secs_length L Hlen.out]; omega)], hJm⟩⟩
theorem sectors_in (n : Nat) (L : Pn) (p' q' : Pl) (w : World) :
    CallsIn Fence.wide n Tryz.prog 188 #[pval L p' q'] w fun e w' => e = .returned (.func (.func 213) #[] #[.pointer (some ⟨w.heap.size, 0, none⟩)]) ∧
      w' = w.alloc (.cells #[.slice p'.a L.targets.length p'.c, .slice q'.a L.data.length q'.c] 28) := by
  refine callsIn_of_wp Tryz.func188 rfl trivial ?_ rfl
  simp only [Tryz.ntmps188, List.size_toArray, List.length_cons, List.length_nil, Nat.reduceAdd, Nat.reduceSub, Array.replicate_succ, Array.replicate_zero, List.push_toArray, List.append_toArray, List.nil_append, List.cons_append]
  gi_wp2
  go_ret
  exact ⟨rfl, rfl⟩
end Go.Proofs.YtplgmlcoeehnfaaGreat
