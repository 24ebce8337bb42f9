/- Package refc and the document's ref08: all counts. -/
import Derived.Test.YtlajbmmhgflabaaRefc1
import Derived.Test.YtlajbmmhgflabaaPlan4
import Derived.Test.YtlajbmmhgflabaaIter
import Derived.WalkMore
set_option linter.unusedVariables false
namespace Go.Proofs.Ytlajbmmhgflabaa
open Go.RowKit Go.Shelf
attribute [local go_sem] bs_mk bs_append bs_extract bs_size bs_toList bs_get Oper.semAt_some

def cntEnc (D : Dk) (L : Pn) (i : Nat) : Array Value := #[.int .i64 (Pn.cntGet D L i).1, .int .i64 (Pn.cntGet D L i).2]
set_option maxRecDepth 100000 in
set_option maxHeartbeats 1000000 in
theorem counts_stops (n : Nat) (hn : 2 ≤ n) (D : Dk) (L : Pn) (p q p' q' : Pl) (hf : D.fit = true) (hfl : L.Fit) (N B0 Bn Bd Bp : Nat) (hN : N ≤ 256) (w : World) (h0 : B0 ≤ w.heap.size)
    (hDW : ∀ W, Below B0 w W → IsDk W D p q ∧ IsPn W L p' q') (bn : Blk w Bn 3 #[.int .i64 N])
    (bd : Blk w Bd 25 #[.string (bs D.data), .slice p.a D.cache.length p.c, .int .i64 D.fuse, .bool D.off, .slice q.a D.bad.length q.c])
    (bp : Blk w Bp 28 #[.slice p'.a L.targets.length p'.c, .slice q'.a L.data.length q'.c]) :
    SeqStopsK Fence.wide n Try.prog 90 #[.pointer (some ⟨Bn, 0, none⟩), .pointer (some ⟨Bd, 0, none⟩), .pointer (some ⟨Bp, 0, none⟩)] (cntEnc D L) (KeepB B0 [Bn, Bd, Bp])
      (IterS (fun i : Nat => Pn.cntGet D L i) N) (IterP (fun i : Nat => Pn.cntGet D L i) N) N w := by
  intro l J Jx W hW hJ hJx hY h0J
  have hfn : Fence.wide.fn 17 := trivial
  have h1 : 1 ≤ n := by omega
  have h2 : 1 ≤ n - 1 := by omega
  have HY := hid hY
  have kW : KeepB B0 [Bn, Bd, Bp] w W := KeepB.later hW h0 (fun g hg => by
    simp only [List.mem_cons, List.not_mem_nil, or_false] at hg
    rcases hg with rfl | rfl | rfl
    · exact bn.lt
    · exact bd.lt
    · exact bp.lt)
  have hgc := fun (V : World) (hb : KeepB B0 [Bn, Bd, Bp] w V) (m : Nat) => rc_get D L p q p' q' V (hDW V hb.below).1 (hDW V hb.below).2 hf hfl m
  obtain ⟨A1, a1⟩ := p
  obtain ⟨A2, a2⟩ := q
  obtain ⟨B1, b1⟩ := p'
  obtain ⟨B2, b2⟩ := q'
  have in1 : Bn ∈ [Bn, Bd, Bp] := by simp
  have in2 : Bd ∈ [Bn, Bd, Bp] := by simp
  have in3 : Bp ∈ [Bn, Bd, Bp] := by simp
  have bn0 := blk1 (bn.at_ (kW.at_ _ in1))
  refine callsIn_of_wp Try.func90 rfl trivial ?_ rfl
  simp only [Try.ntmps90, List.size_toArray, List.length_cons, List.length_nil, Nat.reduceAdd, Nat.reduceSub, Array.replicate_succ, Array.replicate_zero, List.push_toArray, List.append_toArray, List.nil_append, List.cons_append]
  clear hY
  gi_wp2
  gi_loopw [9] (fun x V => ∃ m : Nat, m ≤ N ∧ x = .int .i64 m ∧ Hid (∀ i, i < m → (Pn.cntGet D L i).2 = 0) ∧ J (List.range m) V ∧ KeepB B0 [Bn, Bd, Bp] w V) (fun x _ => N - (intOf x).toNat)
  case atStart => exact ⟨0, Nat.zero_le _, rfl, hid (fun i hi => by omega), h0J, kW⟩
  case round =>
    obtain ⟨m, hm, rfl, hok, hJm, hk⟩ := hrel
    clear bn0 h0J kW
    by_cases hlt : m < N
    · have hg := hgc wr hk m
      have HJ2 := hid (fun (V : World) (hb : Below wr.heap.size wr V) => HY.out (List.range m) m V (AbidesFrom.later hJ hJm hb) (by rw [List.length_range]; exact hlt))
      have Hk := hid hk
      have bd0 := blk5 (bd.at_ (hk.at_ _ in2))
      have bp0 := blk2 (bp.at_ (hk.at_ _ in3))
      have Hse := hid (fun (he : (Pn.cntGet D L m).2 ≠ 0) => iterS_err (f := fun i : Nat => Pn.cntGet D L i) hlt hok.out he)
      have Hsp := hid (iterP_of (f := fun i : Nat => Pn.cntGet D L i) hlt hok.out)
      have Hnx := hid (fun (he : (Pn.cntGet D L m).2 = 0) (i : Nat) (hi : i < m + 1) => show (Pn.cntGet D L i).2 = 0 by
        rcases Nat.lt_or_eq_of_le (Nat.le_of_lt_succ hi) with h | h
        · exact hok.out i h
        · rw [h]; exact he)
      have Hin := hid (show Bn < wr.heap.size ∧ Bd < wr.heap.size ∧ Bp < wr.heap.size from ⟨(bn.at_ (hk.at_ _ in1)).lt, (bd.at_ (hk.at_ _ in2)).lt, (bp.at_ (hk.at_ _ in3)).lt⟩)
      have Hw0 := hid (Nat.le_trans h0 hk.below.size)
      clear hok hJm hk
      simp only [cntEnc] at HJ2
      generalize hx : Pn.cntGet D L m = x at *
      obtain ⟨c, er⟩ := x
      simp only at hg Hse Hnx HJ2
      gi_wp2_with (gi_at_call 17; refine (callsIn_wide.2 hg).mono ?_; rintro e W2 ⟨rfl, hb2⟩)
      obtain ⟨fn, tmps, assign, body, hy, hR⟩ := HJ2.out W2 hb2
      have Hk2 := hid (Hk.out.trans (KeepB.later hb2 Hw0.out (fun g hg => by
        simp only [List.mem_cons, List.not_mem_nil, or_false] at hg
        rcases hg with rfl | rfl | rfl
        · exact Hin.out.1
        · exact Hin.out.2.1
        · exact Hin.out.2.2)))
      clear HJ2
      rw [hy]
      refine ⟨fun _ => h1, ?_⟩
      refine hR.mono ?_
      rintro e W3 (⟨rfl, hJ3, hk3⟩ | ⟨rfl, hJx3⟩)
      · by_cases he : er = 0
        · subst he
          have HJ3 := hid hJ3
          clear hJ3
          gi_wp2
          go_roundw
          case rel => exact ⟨m + 1, by omega, by go_num, hid (by first | exact Hnx.out rfl | exact Hnx.out trivial), by rw [List.range_succ]; exact HJ3.out, Hk2.out.trans hk3⟩
          case measure => simp [intOf]; omega
        · have n1 : (er != 0) = true := by simpa using he
          have HJ3 := hid (show IterS (fun i : Nat => Pn.cntGet D L i) N (List.range (m + 1)) ∧ J (List.range (m + 1)) W3 from ⟨Hse.out he, by rw [List.range_succ]; exact hJ3⟩)
          clear he hJ3
          gi_wp2
          refine bodyPost_ret (results_none rfl _ _ _) rfl ?_
          exact ⟨⟨_, rfl⟩, .inl ⟨_, HJ3.out⟩⟩
      · gi_wp2
        refine bodyPost_ret (results_none rfl _ _ _) rfl ?_
        exact ⟨⟨_, rfl⟩, .inr ⟨_, Hsp.out, hJx3⟩⟩
    · obtain rfl : m = N := by omega
      gi_wp2
      go_end0
      exact ⟨⟨_, rfl⟩, .inl ⟨_, iterS_all hok.out, hJm⟩⟩
theorem counts_in (n : Nat) (D : Dk) (L : Pn) (p q p' q' : Pl) (N : Int) (w : World) :
    CallsIn Fence.wide n Try.prog 59 #[dval D p q, pval L p' q', .int .i64 N] w fun e w' => e = .returned (.func (.func 90) #[] #[.pointer (some ⟨w.heap.size + 1 + 1, 0, none⟩), .pointer (some ⟨w.heap.size, 0, none⟩), .pointer (some ⟨w.heap.size + 1, 0, none⟩)]) ∧
      w' = ((w.alloc (.cells #[.string (bs D.data), .slice p.a D.cache.length p.c, .int .i64 D.fuse, .bool D.off, .slice q.a D.bad.length q.c] 25)).alloc (.cells #[.slice p'.a L.targets.length p'.c, .slice q'.a L.data.length q'.c] 28)).alloc (.cells #[.int .i64 N] 3) := by
  refine callsIn_of_wp Try.func59 rfl trivial ?_ rfl
  simp only [Try.ntmps59, List.size_toArray, List.length_cons, List.length_nil, Nat.reduceAdd, Nat.reduceSub, Array.replicate_succ, Array.replicate_zero, List.push_toArray, List.append_toArray, List.nil_append, List.cons_append]
  gi_wp2
  go_ret
  exact ⟨rfl, rfl⟩
theorem rc_all_out (D : Dk) (L : Pn) (p q p' q' : Pl) (w : World) (n : Int) (h : n < 0 ∨ 256 < n) :
    Calls Try.prog 20 #[dval D p q, pval L p' q', .int .i64 n] w fun e w' => (∃ v, e = .returned (.tuple #[v, .int .i64 (Pn.cntAll D L n).2]) ∧ w'.ownsRow w.heap.size 3 1 v (Pn.cntAll D L n).1.length (intCells (Pn.cntAll D L n).1)) ∧ Below w.heap.size w w' := by
  have Hw := hid (show Pn.cntAll D L n = ([], 10) by rw [Pn.cntAll, if_pos h])
  obtain ⟨A1, a1⟩ := p
  obtain ⟨A2, a2⟩ := q
  obtain ⟨B1, b1⟩ := p'
  obtain ⟨B2, b2⟩ := q'
  have hB := Below.refl w.heap.size w
  have x := Blk.new w 25 #[.string (bs D.data), .slice A1 D.cache.length a1, .int .i64 D.fuse, .bool D.off, .slice A2 D.bad.length a2]
  have xk := blk5 x
  have hB_1 := hB.alloc hB.size (.cells #[.string (bs D.data), .slice A1 D.cache.length a1, .int .i64 D.fuse, .bool D.off, .slice A2 D.bad.length a2] 25)
  have z := Blk.new (w.alloc (.cells #[.string (bs D.data), .slice A1 D.cache.length a1, .int .i64 D.fuse, .bool D.off, .slice A2 D.bad.length a2] 25)) 28 #[.slice B1 L.targets.length b1, .slice B2 L.data.length b2]
  simp only [World.size_alloc] at z
  have zk := blk2 z
  have hB_2 := hB_1.alloc hB_1.size (.cells #[.slice B1 L.targets.length b1, .slice B2 L.data.length b2] 28)
  have x_3 := x.alloc (.cells #[.slice B1 L.targets.length b1, .slice B2 L.data.length b2] 28)
  have xk_3 := blk5 x_3
  have u := Blk.new ((w.alloc (.cells #[.string (bs D.data), .slice A1 D.cache.length a1, .int .i64 D.fuse, .bool D.off, .slice A2 D.bad.length a2] 25)).alloc (.cells #[.slice B1 L.targets.length b1, .slice B2 L.data.length b2] 28)) 23 #[.slice none 0 0]
  simp only [World.size_alloc] at u
  have uk := blk1 u
  have hB_4 := hB_2.alloc hB_2.size (.cells #[.slice none 0 0] 23)
  have x_5 := x_3.alloc (.cells #[.slice none 0 0] 23)
  have xk_5 := blk5 x_5
  have z_6 := z.alloc (.cells #[.slice none 0 0] 23)
  have zk_6 := blk2 z_6
  have v := Blk.new (((w.alloc (.cells #[.string (bs D.data), .slice A1 D.cache.length a1, .int .i64 D.fuse, .bool D.off, .slice A2 D.bad.length a2] 25)).alloc (.cells #[.slice B1 L.targets.length b1, .slice B2 L.data.length b2] 28)).alloc (.cells #[.slice none 0 0] 23)) 31 #[.int .i64 10]
  simp only [World.size_alloc] at v
  have vk := blk1 v
  have hB_7 := hB_4.alloc hB_4.size (.cells #[.int .i64 10] 31)
  have x_8 := x_5.alloc (.cells #[.int .i64 10] 31)
  have xk_8 := blk5 x_8
  have z_9 := z_6.alloc (.cells #[.int .i64 10] 31)
  have zk_9 := blk2 z_9
  have u_10 := u.alloc (.cells #[.int .i64 10] 31)
  have uk_10 := blk1 u_10
  by_cases h0 : n < 0
  · go_enter Try.func20, Try.ntmps20
    go_wp2_with fail
    rw [Hw.out]
    refine bodyPost_ret (v := .tuple #[.slice none 0 0, .int .i64 10]) (by simp [results, Try.results20, go_sem, uk_10, vk]) rfl ?_
    exact ⟨⟨_, rfl, World.ownsRow_nil _ _ _ _⟩, hB_7⟩
  · have h1 : 256 < n := by omega
    clear h
    go_enter Try.func20, Try.ntmps20
    go_wp2_with fail
    rw [Hw.out]
    refine bodyPost_ret (v := .tuple #[.slice none 0 0, .int .i64 10]) (by simp [results, Try.results20, go_sem, uk_10, vk]) rfl ?_
    exact ⟨⟨_, rfl, World.ownsRow_nil _ _ _ _⟩, hB_7⟩
set_option maxRecDepth 100000 in
set_option maxHeartbeats 1000000 in
theorem rc_all_in (D : Dk) (L : Pn) (p q p' q' : Pl) (w : World) (hD : IsDk w D p q) (hL : IsPn w L p' q') (hf : D.fit = true) (hfl : L.Fit) (N : Nat) (hN : N ≤ 256) :
    Calls Try.prog 20 #[dval D p q, pval L p' q', .int .i64 N] w fun e w' => (∃ v, e = .returned (.tuple #[v, .int .i64 (Pn.cntAll D L N).2]) ∧ w'.ownsRow w.heap.size 3 1 v (Pn.cntAll D L N).1.length (intCells (Pn.cntAll D L N).1)) ∧ Below w.heap.size w w' := by
  have n1 : 1 ≤ 6 := by omega
  have Hall := hid (show Pn.cntAll D L N = allN (fun i : Nat => Pn.cntGet D L i) N by rw [Pn.cntAll, if_neg (by omega), Int.toNat_natCast])
  have hDW := fun (W : World) (hb : Below w.heap.size w W) => (⟨hD.below hb, hL.below hb⟩ : IsDk W D p q ∧ IsPn W L p' q')
  obtain ⟨i0, hi, hz0, hz1, hz2⟩ := info_parts Try.infoIntP
  clear hD hL
  obtain ⟨A1, a1⟩ := p
  obtain ⟨A2, a2⟩ := q
  obtain ⟨B1, b1⟩ := p'
  obtain ⟨B2, b2⟩ := q'
  refine (callsIn_wide (n := 6)).1 (callsIn_of_wp_marks Try.func20 rfl trivial (wpIn_wide.2 ?_) rfl)
  simp only [Try.ntmps20, List.size_toArray, List.length_cons, List.length_nil, Nat.reduceAdd, Nat.reduceSub, Array.replicate_succ, Array.replicate_zero, List.push_toArray, List.append_toArray, List.nil_append, List.cons_append]
  go_wp2_with (go_at_call 59; refine (callsIn_wide.1 (counts_in 5 D L ⟨A1, a1⟩ ⟨A2, a2⟩ ⟨B1, b1⟩ ⟨B2, b2⟩ N _)).mono ?_; rintro e w3 ⟨rfl, rfl⟩)
  have hB := Below.refl w.heap.size w
  have hB_1 := hB.alloc hB.size (.cells #[.string (bs D.data), .slice A1 D.cache.length a1, .int .i64 D.fuse, .bool D.off, .slice A2 D.bad.length a2] 25)
  have hB_2 := hB_1.alloc hB_1.size (.cells #[.slice B1 L.targets.length b1, .slice B2 L.data.length b2] 28)
  have r0 := Blk.new ((w.alloc (.cells #[.string (bs D.data), .slice A1 D.cache.length a1, .int .i64 D.fuse, .bool D.off, .slice A2 D.bad.length a2] 25)).alloc (.cells #[.slice B1 L.targets.length b1, .slice B2 L.data.length b2] 28)) 23 #[.slice none 0 0]
  simp only [World.size_alloc] at r0
  have r0k := blk1 r0
  have hB_3 := hB_2.alloc hB_2.size (.cells #[.slice none 0 0] 23)
  have r1 := Blk.new (((w.alloc (.cells #[.string (bs D.data), .slice A1 D.cache.length a1, .int .i64 D.fuse, .bool D.off, .slice A2 D.bad.length a2] 25)).alloc (.cells #[.slice B1 L.targets.length b1, .slice B2 L.data.length b2] 28)).alloc (.cells #[.slice none 0 0] 23)) 31 #[.int .i64 0]
  simp only [World.size_alloc] at r1
  have r1k := blk1 r1
  have hB_4 := hB_3.alloc hB_3.size (.cells #[.int .i64 0] 31)
  have r0_5 := r0.alloc (.cells #[.int .i64 0] 31)
  have r0k_5 := blk1 r0_5
  have lb := Blk.new ((((w.alloc (.cells #[.string (bs D.data), .slice A1 D.cache.length a1, .int .i64 D.fuse, .bool D.off, .slice A2 D.bad.length a2] 25)).alloc (.cells #[.slice B1 L.targets.length b1, .slice B2 L.data.length b2] 28)).alloc (.cells #[.slice none 0 0] 23)).alloc (.cells #[.int .i64 0] 31)) 23 #[.slice none 0 0]
  simp only [World.size_alloc] at lb
  have lbk := blk1 lb
  have hB_6 := hB_4.alloc hB_4.size (.cells #[.slice none 0 0] 23)
  have r0_7 := r0_5.alloc (.cells #[.slice none 0 0] 23)
  have r0k_7 := blk1 r0_7
  have r1_8 := r1.alloc (.cells #[.slice none 0 0] 23)
  have r1k_8 := blk1 r1_8
  have bd := Blk.new (((((w.alloc (.cells #[.string (bs D.data), .slice A1 D.cache.length a1, .int .i64 D.fuse, .bool D.off, .slice A2 D.bad.length a2] 25)).alloc (.cells #[.slice B1 L.targets.length b1, .slice B2 L.data.length b2] 28)).alloc (.cells #[.slice none 0 0] 23)).alloc (.cells #[.int .i64 0] 31)).alloc (.cells #[.slice none 0 0] 23)) 25 #[.string (bs D.data), .slice A1 D.cache.length a1, .int .i64 D.fuse, .bool D.off, .slice A2 D.bad.length a2]
  simp only [World.size_alloc] at bd
  have bdk := blk5 bd
  have hB_9 := hB_6.alloc hB_6.size (.cells #[.string (bs D.data), .slice A1 D.cache.length a1, .int .i64 D.fuse, .bool D.off, .slice A2 D.bad.length a2] 25)
  have r0_10 := r0_7.alloc (.cells #[.string (bs D.data), .slice A1 D.cache.length a1, .int .i64 D.fuse, .bool D.off, .slice A2 D.bad.length a2] 25)
  have r0k_10 := blk1 r0_10
  have r1_11 := r1_8.alloc (.cells #[.string (bs D.data), .slice A1 D.cache.length a1, .int .i64 D.fuse, .bool D.off, .slice A2 D.bad.length a2] 25)
  have r1k_11 := blk1 r1_11
  have lb_12 := lb.alloc (.cells #[.string (bs D.data), .slice A1 D.cache.length a1, .int .i64 D.fuse, .bool D.off, .slice A2 D.bad.length a2] 25)
  have lbk_12 := blk1 lb_12
  have bp := Blk.new ((((((w.alloc (.cells #[.string (bs D.data), .slice A1 D.cache.length a1, .int .i64 D.fuse, .bool D.off, .slice A2 D.bad.length a2] 25)).alloc (.cells #[.slice B1 L.targets.length b1, .slice B2 L.data.length b2] 28)).alloc (.cells #[.slice none 0 0] 23)).alloc (.cells #[.int .i64 0] 31)).alloc (.cells #[.slice none 0 0] 23)).alloc (.cells #[.string (bs D.data), .slice A1 D.cache.length a1, .int .i64 D.fuse, .bool D.off, .slice A2 D.bad.length a2] 25)) 28 #[.slice B1 L.targets.length b1, .slice B2 L.data.length b2]
  simp only [World.size_alloc] at bp
  have bpk := blk2 bp
  have hB_13 := hB_9.alloc hB_9.size (.cells #[.slice B1 L.targets.length b1, .slice B2 L.data.length b2] 28)
  have r0_14 := r0_10.alloc (.cells #[.slice B1 L.targets.length b1, .slice B2 L.data.length b2] 28)
  have r0k_14 := blk1 r0_14
  have r1_15 := r1_11.alloc (.cells #[.slice B1 L.targets.length b1, .slice B2 L.data.length b2] 28)
  have r1k_15 := blk1 r1_15
  have lb_16 := lb_12.alloc (.cells #[.slice B1 L.targets.length b1, .slice B2 L.data.length b2] 28)
  have lbk_16 := blk1 lb_16
  have bd_17 := bd.alloc (.cells #[.slice B1 L.targets.length b1, .slice B2 L.data.length b2] 28)
  have bdk_17 := blk5 bd_17
  have bn := Blk.new (((((((w.alloc (.cells #[.string (bs D.data), .slice A1 D.cache.length a1, .int .i64 D.fuse, .bool D.off, .slice A2 D.bad.length a2] 25)).alloc (.cells #[.slice B1 L.targets.length b1, .slice B2 L.data.length b2] 28)).alloc (.cells #[.slice none 0 0] 23)).alloc (.cells #[.int .i64 0] 31)).alloc (.cells #[.slice none 0 0] 23)).alloc (.cells #[.string (bs D.data), .slice A1 D.cache.length a1, .int .i64 D.fuse, .bool D.off, .slice A2 D.bad.length a2] 25)).alloc (.cells #[.slice B1 L.targets.length b1, .slice B2 L.data.length b2] 28)) 3 #[.int .i64 N]
  simp only [World.size_alloc] at bn
  have bnk := blk1 bn
  have hB_18 := hB_13.alloc hB_13.size (.cells #[.int .i64 N] 3)
  have r0_19 := r0_14.alloc (.cells #[.int .i64 N] 3)
  have r0k_19 := blk1 r0_19
  have r1_20 := r1_15.alloc (.cells #[.int .i64 N] 3)
  have r1k_20 := blk1 r1_20
  have lb_21 := lb_16.alloc (.cells #[.int .i64 N] 3)
  have lbk_21 := blk1 lb_21
  have bd_22 := bd_17.alloc (.cells #[.int .i64 N] 3)
  have bdk_22 := blk5 bd_22
  have bp_23 := bp.alloc (.cells #[.int .i64 N] 3)
  have bpk_23 := blk2 bp_23
  generalize ((((((((w.alloc (.cells #[.string (bs D.data), .slice A1 D.cache.length a1, .int .i64 D.fuse, .bool D.off, .slice A2 D.bad.length a2] 25)).alloc (.cells #[.slice B1 L.targets.length b1, .slice B2 L.data.length b2] 28)).alloc (.cells #[.slice none 0 0] 23)).alloc (.cells #[.int .i64 0] 31)).alloc (.cells #[.slice none 0 0] 23)).alloc (.cells #[.string (bs D.data), .slice A1 D.cache.length a1, .int .i64 D.fuse, .bool D.off, .slice A2 D.bad.length a2] 25)).alloc (.cells #[.slice B1 L.targets.length b1, .slice B2 L.data.length b2] 28)).alloc (.cells #[.int .i64 N] 3)) = V at hB_18 r0_19 r0k_19 r1_20 r1k_20 lb_21 lbk_21 bd_22 bdk_22 bp_23 bpk_23 bn bnk ⊢
  clear hB_1 hB_2 hB_3 hB_4 r0k_5 r0_5 hB_6 r0k_7 r0_7 r1k_8 r1_8 hB_9 r0k_10 r0_10 r1k_11 r1_11 lbk_12 lb_12 hB_13 r0k_14 r0_14 r1k_15 r1_15 lbk_16 lb_16 bdk_17 bd_17 hB r0 r1 lb bd bp r0k r1k lbk bdk bpk
  have hB := hB_18
  have r0 := r0_19
  have r0k := r0k_19
  have r1 := r1_20
  have r1k := r1k_20
  have lb := lb_21
  have lbk := lbk_21
  have bd := bd_22
  have bdk := bdk_22
  have bp := bp_23
  have bpk := bpk_23
  clear hB_18 r0_19 r0k_19 r1_20 r1k_20 lb_21 lbk_21 bd_22 bdk_22 bp_23 bpk_23
  have vl : w.heap.size + 1 + 1 + 1 + 1 + 1 + 1 + 1 < V.heap.size := bn.lt
  have hbs : ∀ g ∈ [w.heap.size + 1 + 1 + 1 + 1 + 1 + 1 + 1, w.heap.size + 1 + 1 + 1 + 1 + 1, w.heap.size + 1 + 1 + 1 + 1 + 1 + 1], g < V.heap.size ∧ w.heap.size + 1 + 1 + 1 + 1 < g := fun g hg => by
    simp only [List.mem_cons, List.not_mem_nil, or_false] at hg
    omega
  refine (wpIn_wide (n := 6)).1 ?_
  refine wpIn_rangeFunc_ownH rfl n1 (gf := 90) (lb := #[.pointer (some ⟨w.heap.size + 1 + 1 + 1 + 1 + 1 + 1 + 1, 0, none⟩), .pointer (some ⟨w.heap.size + 1 + 1 + 1 + 1 + 1, 0, none⟩), .pointer (some ⟨w.heap.size + 1 + 1 + 1 + 1 + 1 + 1, 0, none⟩)]) rfl trivial (enters_of Try.func90 (by kernel_rfl) rfl)
    (counts_stops 5 (by omega) D L ⟨A1, a1⟩ ⟨A2, a2⟩ ⟨B1, b1⟩ ⟨B2, b2⟩ hf hfl N w.heap.size _ _ _ hN V hB.size (fun W hb => hDW W (hB.trans hb)) bn bd bp)
    KeepB.trans (fun W l o o' q1 q2 q3 q4 => KeepB.putObj o' (by omega) (fun g hg => by have := hbs g hg; omega)) (Below.refl _ _) (fun _ => rfl)
    (fun pre W => (Blk W (w.heap.size + 1 + 1) 23 #[.slice none 0 0] ∧ Blk W (w.heap.size + 1 + 1 + 1) 31 #[.int .i64 0]) ∧ (∃ v, Boxed W (w.heap.size + 1 + 1 + 1 + 1) 23 v ∧ W.ownsRow V.heap.size 3 1 v pre.length (intCells (pre.map fun i : Nat => (Pn.cntGet D L i).1)) ∧ True) ∧
      KeepB w.heap.size [w.heap.size + 1 + 1 + 1 + 1 + 1 + 1 + 1, w.heap.size + 1 + 1 + 1 + 1 + 1, w.heap.size + 1 + 1 + 1 + 1 + 1 + 1] V W ∧ Hid (∀ i ∈ pre, (Pn.cntGet D L (i : Nat)).2 = 0))
    (fun c pre W => c = .ret ∧ (∃ pre' y, pre = pre' ++ [y] ∧ Hid ((Pn.cntGet D L (y : Nat)).2 ≠ 0) ∧ Blk W (w.heap.size + 1 + 1) 23 #[.slice none 0 0] ∧ Blk W (w.heap.size + 1 + 1 + 1) 31 #[.int .i64 (Pn.cntGet D L (y : Nat)).2]) ∧ Below w.heap.size w W)
    ?hI ?hIx ?h0
    (fun y a' W => a' = { tmps := #[dval D ⟨A1, a1⟩ ⟨A2, a2⟩, pval L ⟨B1, b1⟩ ⟨B2, b2⟩, .int .i64 N, .pointer (some ⟨w.heap.size, 0, none⟩), .pointer (some ⟨w.heap.size + 1, 0, none⟩), undef, .pointer (some ⟨w.heap.size + 1 + 1, 0, none⟩), .pointer (some ⟨w.heap.size + 1 + 1 + 1, 0, none⟩), .pointer (some ⟨w.heap.size + 1 + 1 + 1 + 1, 0, none⟩),
      .int .i64 (Pn.cntGet D L (y : Nat)).1, .int .i64 (Pn.cntGet D L (y : Nat)).2, .int .i64 N, .bool (decide ((N : Int) < 0)), .bool (decide ((N : Int) < 0)), .int .i64 N, .bool (decide (256 < (N : Int))), .bool (decide ((N : Int) < 0) || decide (256 < (N : Int))),
      .agg #[.string (bs D.data), .slice A1 D.cache.length a1, .int .i64 D.fuse, .bool D.off, .slice A2 D.bad.length a2], .agg #[.slice B1 L.targets.length b1, .slice B2 L.data.length b2], .int .i64 N,
      .func (.func 90) #[] #[.pointer (some ⟨w.heap.size + 1 + 1 + 1 + 1 + 1 + 1 + 1, 0, none⟩), .pointer (some ⟨w.heap.size + 1 + 1 + 1 + 1 + 1, 0, none⟩), .pointer (some ⟨w.heap.size + 1 + 1 + 1 + 1 + 1 + 1, 0, none⟩)],
      .int .i64 (Pn.cntGet D L (y : Nat)).1, .int .i64 (Pn.cntGet D L (y : Nat)).2, undef, undef, undef, undef, undef, undef, undef, undef], defers := [] }) (fun _ _ _ _ _ _ hs _ _ => hs)
    ?assign ?body ?done ?stop
  case hI =>
    refine OwnFrom.and (Own.from (Own.and (blk_own _ _ _) (blk_own _ _ _)) _) (OwnFrom.and (Own.from (holdsRow_own V.heap.size (w.heap.size + 1 + 1 + 1 + 1) 23 3 1 (fun pre : List Nat => pre.length) (fun pre => intCells (pre.map fun i : Nat => (Pn.cntGet D L i).1)) (fun _ _ => True)) _) (OwnFrom.and ?_ (fun _ _ _ _ hs _ _ => hs)))
    exact fun s X Y row hs hy hr => keepB_own w.heap.size _ hB.size (fun g hg => (hbs g hg).1) rfl () X Y row hs hy hr
  case hIx =>
    rintro c s X Y row ⟨hc, ⟨pre', y, e, he, hr0, hr1⟩, hb⟩ hy hr
    exact ⟨hc, ⟨pre', y, e, he, (Own.from (blk_own _ _ (fun _ : Unit => _)) _) () X Y row hr0 hy hr, (Own.from (blk_own _ _ (fun _ : Unit => _)) _) () X Y row hr1 hy hr⟩, ownFrom_below (β := Unit) (Nat.le_refl _) hB.size () X Y row hb hy hr⟩
  case h0 => exact ⟨⟨r0, r1⟩, ⟨_, lb, World.ownsRow_nil _ _ _ _, trivial⟩, KeepB.refl _ _ _, hid (fun i hi => by cases hi)⟩
  case assign =>
    rintro l pre y W K hI hK
    dsimp only [cntEnc]
    gi_wp2
    exact hK _ _ (KeepsFrom.refl _ _) (KeepB.refl _ _ _) hI rfl
  case body =>
    rintro l pre y a' W hl hrec ⟨⟨hr0, hr1⟩, ⟨v, hlb, hown, _⟩, hk, hok⟩ rfl hpl
    have k0 := blk1 hr0
    have k1 := blk1 hr1
    have f0 := hr0.frozen 0
    have f1 := hr1.frozen 0
    have kl := hlb.cell
    have fl := hlb.frozen
    have hsz : V.heap.size ≤ W.heap.size := hk.below.size
    have hcb := Pn.cntGet_le D L y
    obtain ⟨⟨c, er⟩, hx⟩ : ∃ x, Pn.cntGet D L (y : Nat) = x := ⟨_, rfl⟩
    have Hx := hid hx
    have Hmap := hid (show intCells (pre.map fun i : Nat => (Pn.cntGet D L i).1) ++ [Value.int .i64 c] = intCells ((pre ++ [y]).map fun i : Nat => (Pn.cntGet D L i).1) by simp [intCells, hx])
    have Hok := hid (fun (he : er = 0) (i : Nat) (hi : i ∈ pre ++ [y]) => show (Pn.cntGet D L (i : Nat)).2 = 0 by
      rcases List.mem_append.1 hi with h | h
      · exact hok.out i h
      · rw [List.mem_singleton.1 h, hx]; exact he)
    rw [hx] at hcb ⊢
    simp only at hcb
    clear hx hok
    by_cases he : er = 0
    · subst he
      gi_wp2_with (gi_at_builtin; refine wpListIn_append_own _ rfl _ _ 23 rfl V.heap.size 3 i0 (.int .i64 0) 1 8 Try.underlying23 hi hz0 hz1 hz2 rfl (by decide) _ _ _ rfl (hown.alloc _) ⟨W.heap.size, 0, none⟩ 1 1 [.int .i64 c] rfl rfl (World.news_of_block (Blk.new W 3 #[.int .i64 c])) (by simp [Value.oneCell']) (by unfold maxLen; omega) (by omega) (by simp; omega) ?_; intro v' w1 hown' hgrow _; obtain ⟨g', cap', rfl⟩ := ownsRow_succ hown'; obtain ⟨q1, q2, q3, q4, q5, q6⟩ := appended_at hlb (by decide) hown hsz hown' hgrow; have kl1 := blk1 q1; have fl1 := q1.frozen 0)
      refine ⟨q4.from _, ⟨q5 _ hB.size (by omega), fun g hg => q6 g (hbs g hg).1 (by have := hbs g hg; omega)⟩, ⟨hr0.at_ (q6 _ (by omega) (by omega)), hr1.at_ (q6 _ (by omega) (by omega))⟩, ⟨_, q2, ?_⟩, hk.trans ⟨q5 _ hB.size (by omega), fun g hg => q6 g (hbs g hg).1 (by have := hbs g hg; omega)⟩, hid (by first | exact Hok.out rfl | exact Hok.out trivial)⟩
      have e : (pre ++ [y]).length = pre.length + 1 := by simp
      first | (rw [← Hmap.out, e]; exact q3) | (rw [← Hmap.out, e]; exact ⟨q3, trivial⟩)
    · have m1 : (er != 0) = true := by simpa using he
      have He := hid he
      clear he
      gi_wp2
      have w0 := hr0.set 0 (.slice none 0 0)
      have w1 := hr1.set 0 (.int .i64 er)
      refine ⟨((KeepsOthers.setCell _ _ _).trans (KeepsOthers.setCell _ _ _)).from _, rfl, ⟨pre, y, rfl, hid (by rw [Hx.out]; exact He.out), ?_, ?_⟩, ?_⟩
      · exact Blk.other (by simpa using w0) (by simp) _
      · rw [Hx.out]
        have w2 := (hr1.other (a := ⟨w.heap.size + 1 + 1, 0, none⟩) (by simp) (.slice none 0 0)).set 0 (.int .i64 er)
        simpa using w2
      · exact ((hB.trans hk.below).setCell (p := ⟨w.heap.size + 1 + 1, 0, none⟩) (by simp; omega) _).setCell (p := ⟨w.heap.size + 1 + 1 + 1, 0, none⟩) (by simp; omega) _
  case done =>
    rintro Dd ys U hDd ⟨m, rfl, hm, hall, hend⟩ ⟨⟨hr0, hr1⟩, ⟨v, hlb, hown, _⟩, hk, hok⟩ hK
    obtain rfl : m = N := by
      rcases Nat.lt_or_eq_of_le hm with h | h
      · obtain ⟨h1, h2⟩ := hend h
        exact absurd (hok.out (m - 1) (by simp; omega)) h2
      · exact h
    have k0 := blk1 hr0
    have k1 := blk1 hr1
    have f0 := hr0.frozen 0
    have f1 := hr1.frozen 0
    rw [List.length_range] at hown
    obtain ⟨Al, cl, rfl, _⟩ := own_slice hown
    have kl := hlb.cell
    go_wp2_with fail
    have c0 : Blk ((U.setCell ⟨w.heap.size + 1 + 1, 0, none⟩ (.slice Al m cl)).setCell ⟨w.heap.size + 1 + 1 + 1, 0, none⟩ (.int .i64 0)) (w.heap.size + 1 + 1) 23 #[.slice Al m cl] :=
      Blk.other (by have := hr0.set 0 (.slice Al m cl); simpa using this) (by simp) _
    have c1 : Blk ((U.setCell ⟨w.heap.size + 1 + 1, 0, none⟩ (.slice Al m cl)).setCell ⟨w.heap.size + 1 + 1 + 1, 0, none⟩ (.int .i64 0)) (w.heap.size + 1 + 1 + 1) 31 #[.int .i64 0] := by
      have := (hr1.other (a := ⟨w.heap.size + 1 + 1, 0, none⟩) (by simp) (.slice Al m cl)).set 0 (.int .i64 0)
      simpa using this
    have hK9 : ((U.setCell ⟨w.heap.size + 1 + 1, 0, none⟩ (.slice Al m cl)).setCell ⟨w.heap.size + 1 + 1 + 1, 0, none⟩ (.int .i64 0)).heap[Dd]? = some (.deferred (some [])) :=
      (Below.heap_setCell _ _ _ _ (by simp; omega)).trans ((Below.heap_setCell _ _ _ _ (by simp; omega)).trans hK)
    have d0 := fun o => blk1 (c0.at_ (World.putObj_heap_other (r := Dd) (o := o) (by omega)))
    have d1 := fun o => blk1 (c1.at_ (World.putObj_heap_other (r := Dd) (o := o) (by omega)))
    refine ⟨by simp, .inl ⟨_, _, rfl, run_takeDeferred hK9, ?_⟩⟩
    refine ⟨.tuple #[.slice Al m cl, .int .i64 0], by simp [results, Try.results20, go_sem, d0, d1], ⟨.slice Al m cl, ?_, ?_⟩, ?_⟩
    · rw [Hall.out, allN_list (fun i hi => hok.out i (by simpa using hi))]
    · rw [Hall.out, allN_list (fun i hi => hok.out i (by simpa using hi))]
      have h := ownsRow_putObj (ownsRow_setCell_below (ownsRow_setCell_below hown (a := ⟨w.heap.size + 1 + 1, 0, none⟩) (by simp; omega) (.slice Al m cl)) (a := ⟨w.heap.size + 1 + 1 + 1, 0, none⟩) (by simp; omega) (.int .i64 0)) (.deferred none) hK9 rfl
      simp only [List.length_map, List.length_range]
      exact own_base h hB.size
    · exact (((hB.trans hk.below).setCell (p := ⟨w.heap.size + 1 + 1, 0, none⟩) (by simp; omega) _).setCell (p := ⟨w.heap.size + 1 + 1 + 1, 0, none⟩) (by simp; omega) _).trans (belowK_b (w := w) (Nat.le_refl _) _ Dd _ _ (by omega) hK9 rfl rfl)
  case stop =>
    rintro Dd c pre U hDd ⟨m, rfl, hm, hall⟩ ⟨rfl, ⟨pre', y, e, he, hr0, hr1⟩, hb⟩ hK
    obtain rfl : y = m := by
      rw [List.range_succ] at e
      have := List.append_inj_right' e rfl
      injection this with this
      exact this.symm
    obtain ⟨er, her⟩ : ∃ er, (Pn.cntGet D L (y : Nat)).2 = er := ⟨_, rfl⟩
    have Hr := hid (show Pn.cntAll D L N = ([], er) by
      rw [Hall.out, allN_stop (f := fun i : Nat => Pn.cntGet D L i) (n := y) (allN_all (fun i hi => hall i hi)) he.out N hm, her])
    rw [her] at hr1
    refine wpIn_wide.2 ?_
    go_wp2_with fail
    have d0 := fun o => blk1 (hr0.at_ (World.putObj_heap_other (r := Dd) (o := o) (by omega)))
    have d1 := fun o => blk1 (hr1.at_ (World.putObj_heap_other (r := Dd) (o := o) (by omega)))
    refine ⟨by simp, .inl ⟨_, _, rfl, run_takeDeferred hK, ?_⟩⟩
    rw [Hr.out]
    refine ⟨.tuple #[.slice none 0 0, .int .i64 er], by simp [results, Try.results20, go_sem, d0, d1], ⟨.slice none 0 0, ?_, ?_⟩, ?_⟩
    · rfl
    · exact World.ownsRow_nil _ _ _ _
    · exact hb.trans (belowK_b (w := w) (Nat.le_refl _) _ Dd _ _ (by omega) hK rfl rfl)
theorem rc_all (D : Dk) (L : Pn) (p q p' q' : Pl) (w : World) (hD : IsDk w D p q) (hL : IsPn w L p' q') (hf : D.fit = true) (hfl : L.Fit) (n : Int) :
    Calls Try.prog 20 #[dval D p q, pval L p' q', .int .i64 n] w fun e w' => (∃ v, e = .returned (.tuple #[v, .int .i64 (Pn.cntAll D L n).2]) ∧ w'.ownsRow w.heap.size 3 1 v (Pn.cntAll D L n).1.length (intCells (Pn.cntAll D L n).1)) ∧ Below w.heap.size w w' := by
  by_cases h : n < 0 ∨ 256 < n
  · exact rc_all_out D L p q p' q' w n h
  · obtain ⟨n, rfl⟩ := Int.eq_ofNat_of_zero_le (show 0 ≤ n by omega)
    exact rc_all_in D L p q p' q' w hD hL hf hfl n (by omega)
end Go.Proofs.Ytlajbmmhgflabaa
