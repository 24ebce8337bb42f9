/- The document's ref12: Reach. The document's ref12: Share. -/
import Derived.Test.YtplgmlcoeehnfaaGreatPtPoint7
import Derived.Test.YtplgmlcoeehnfaaGreatPtPointsC
set_option linter.unusedVariables false
namespace Go.Proofs.YtplgmlcoeehnfaaGreat
open Go.RowKit Go.Shelf
attribute [local go_sem] bs_mk bs_append bs_extract bs_size bs_toList bs_get
set_option maxRecDepth 100000 in
set_option maxHeartbeats 2000000 in
theorem r12_reach (D : Dk) (L : Pn) (p q p' q' : Pl) (w : World) (hD : IsDk w D p q) (hL : IsPn w L p' q') (hf : D.fit = true) (hfl : L.Fit) (l1 : Int) :
    Calls Tryz.prog 26 #[dval D p q, pval L p' q', .int .i64 l1] w fun e w' => (∃ v, e = .returned (.tuple #[v, .int .i64 (Pn.ptReach D L l1).2]) ∧ w'.ownsRow w.heap.size 3 1 v (Pn.ptReach D L l1).1.length (intCells (Pn.ptReach D L l1).1)) ∧ Below w.heap.size w w' := by
  obtain ⟨i1, hi1, hy0, hy1, hy2⟩ := info_parts Tryz.infoIntP
  have hget := fun (W : World) (hb : Below w.heap.size w W) (t i : Int) => t11_get D L p q p' q' W (hD.below hb) (hL.below hb) hf hfl t i
  have HS := hid (fun (i : Nat) (xs : List Int) (h : Pn.reachN D L l1 i = (xs, 0)) => show xs.length ≤ 17 * i by have := (Pn.reachN_small (D := D) (L := L) l1 i).2; rw [h] at this; exact this)
  clear hD hL hf hfl
  obtain ⟨A1, a1⟩ := p
  obtain ⟨A2, a2⟩ := q
  obtain ⟨B1, b1⟩ := p'
  obtain ⟨B2, b2⟩ := q'
  have hB := Below.refl w.heap.size w
  have x := Blk.new w 25 #[.string (bs D.data), .slice A1 D.cache.length a1, .int .i64 D.fuse, .bool D.off, .slice A2 D.bad.length a2]
  have xk := blk5 x
  have hB_1 := hB.alloc hB.size (.cells #[.string (bs D.data), .slice A1 D.cache.length a1, .int .i64 D.fuse, .bool D.off, .slice A2 D.bad.length a2] 25)
  have z := Blk.new (w.alloc (.cells #[.string (bs D.data), .slice A1 D.cache.length a1, .int .i64 D.fuse, .bool D.off, .slice A2 D.bad.length a2] 25)) 28 #[.slice B1 L.targets.length b1, .slice B2 L.data.length b2]
  simp only [World.size_alloc] at z
  have zk := blk2 z
  have hB_2 := hB_1.alloc hB_1.size (.cells #[.slice B1 L.targets.length b1, .slice B2 L.data.length b2] 28)
  have x_3 := x.alloc (.cells #[.slice B1 L.targets.length b1, .slice B2 L.data.length b2] 28)
  have xk_3 := blk5 x_3
  have BV := hid hB
  go_enter Tryz.func26, Tryz.ntmps26
  go_wp2_with fail
  generalize ((w.alloc (.cells #[.string (bs D.data), .slice A1 D.cache.length a1, .int .i64 D.fuse, .bool D.off, .slice A2 D.bad.length a2] 25)).alloc (.cells #[.slice B1 L.targets.length b1, .slice B2 L.data.length b2] 28)) = V at hB_2 x_3 xk_3 z zk ⊢
  clear hB_1 hB x xk
  have hB := hB_2
  have x := x_3
  have xk := xk_3
  clear hB_2 x_3 xk_3
  have HBV := hid hB
  have hsV := hB.size
  go_loopw [8, 9] (fun lv iv W => ∃ i : Nat, i ≤ 4 ∧ iv = .int .i64 i ∧ ∃ pre, Hid (Pn.reachN D L l1 i = (pre, 0)) ∧ W.ownsRow V.heap.size 3 1 lv pre.length (intCells pre) ∧ Below V.heap.size V W) (fun _ iv _ => 4 - (intOf iv).toNat)
  case atStart => exact ⟨0, Nat.zero_le _, rfl, [], hid rfl, World.ownsRow_nil _ _ _ _, Below.refl _ _⟩
  case round =>
    obtain ⟨i, hi, rfl, pre, hpre, ho, hb⟩ := hrel
    have hbw := HBV.out.trans (hb.mono hsV)
    have xk2 := blk5 (x.below hb x.lt)
    have zk2 := blk2 (z.below hb z.lt)
    clear xk zk
    by_cases hlt : i < 4
    · have hlen := HS.out i pre hpre.out
      have hc := hget wr hbw l1 (i : Int)
      have hsm := Pn.tabGet_small D L l1 (i : Int)
      have Hat := hid (show Pn.reachAt D L l1 i = if (Pn.tabGet D L l1 i).2 ≠ 0 then ([], (Pn.tabGet D L l1 i).2) else if (Pn.tabGet D L l1 i).1.1 = 2 then ([], 14) else if (Pn.tabGet D L l1 i).1.1 = 0 then ([], 0)
        else ((Pn.tabGet D L l1 i).1.2 :: (Pn.reachIn D L (Pn.tabGet D L l1 i).1.2 16).1, (Pn.reachIn D L (Pn.tabGet D L l1 i).1.2 16).2) from rfl)
      generalize Pn.tabGet D L l1 (i : Int) = E at *
      obtain ⟨⟨K, B⟩, e2⟩ := E
      simp only at hc Hat hsm
      obtain ⟨s1, s2, s3, s4⟩ := hsm
      go_wp2_with fail
      go_at_call 69
      refine hc.mono ?_
      rintro e W2 ⟨rfl, hb2⟩
      have hb3 := (Below.refl W2.heap.size W2).alloc (Nat.le_refl _) (.cells #[.int .i64 K, .int .i64 B] 32)
      have bx := Blk.new W2 32 #[.int .i64 K, .int .i64 B]
      have o3 := (own_below ho hb2).alloc (.cells #[.int .i64 K, .int .i64 B] 32)
      have b3 := hb.trans ((bt hb2 hb3).mono hb.size)
      have zx := blk2 bx
      clear hc xk2 zk2
      by_cases he : e2 = 0
      case neg =>
        have n1 : (e2 != 0) = true := by simpa using he
        have HE := hid (show Pn.ptReach D L l1 = ([], e2) by
          have hr : Pn.reachAt D L l1 i = ([], e2) := by rw [Hat.out, if_pos he]
          have h9 := Pn.reachN_end hlt hpre.out (by rw [hr]; exact he)
          rw [hr] at h9
          rw [Pn.ptReach, h9, if_pos he])
        go_wp2_with fail
        refine bodyPost_ret (v := .tuple #[.slice none 0 0, .int .i64 e2]) (by simp [results, Tryz.results26, go_sem]) rfl ?_
        rw [HE.out]
        exact ⟨⟨_, rfl, World.ownsRow_nil _ _ _ _⟩, HBV.out.trans (b3.mono hsV)⟩
      subst he
      replace Hat := hid (Hat.out.trans (if_neg (by simp)))
      by_cases hK2 : K = 2
      · subst hK2
        have HE := hid (show Pn.ptReach D L l1 = ([], 14) by
          have hr : Pn.reachAt D L l1 i = ([], 14) := by rw [Hat.out, if_pos rfl]
          have h9 := Pn.reachN_end hlt hpre.out (by rw [hr]; exact (by decide : (14 : Int) ≠ 0))
          rw [hr] at h9
          rw [Pn.ptReach, h9, if_pos (by decide)])
        go_wp2_with fail
        refine bodyPost_ret (v := .tuple #[.slice none 0 0, .int .i64 14]) (by simp [results, Tryz.results26, go_sem]) rfl ?_
        rw [HE.out]
        exact ⟨⟨_, rfl, World.ownsRow_nil _ _ _ _⟩, HBV.out.trans (b3.mono hsV)⟩
      replace Hat := hid (Hat.out.trans (if_neg hK2))
      have nK2 : (K == 2) = false := by simpa using hK2
      by_cases hK0 : K = 0
      · subst hK0
        have Hn := hid (show Pn.reachN D L l1 (i + 1) = (pre, 0) by
          have hr : Pn.reachAt D L l1 i = ([], 0) := by rw [Hat.out, if_pos rfl]
          rw [Pn.reachN_next hpre.out, hr, List.append_nil])
        go_wp2_with fail
        go_roundw
        case rel => exact ⟨i + 1, by omega, by go_num, pre, Hn, o3, b3⟩
        case measure => simp [intOf]; omega
      have nK0 : (K == 0) = false := by simpa using hK0
      have hK1 : K = 1 := by omega
      have HatB := hid (show Pn.reachAt D L l1 i = (B :: (Pn.reachIn D L B 16).1, (Pn.reachIn D L B 16).2) by rw [Hat.out, if_neg hK0])
      clear Hat hK2 hK0
      subst hK1
      have l3 := b3.size
      simp only [World.size_alloc] at l3
      go_wp2_with (at_builtin; refine wpList_append_own _ rfl _ _ 23 rfl V.heap.size 3 i1 (.int .i64 0) 1 8 Tryz.underlying23 hi1 hy0 hy1 hy2 rfl (by decide) _ _ _ rfl (o3.alloc _) ⟨W2.heap.size + 1, 0, none⟩ 1 1 [.int .i64 B] rfl rfl (World.news_of_block (by have h9 := Blk.new (W2.alloc (.cells #[.int .i64 1, .int .i64 B] 32)) 3 #[.int .i64 B]; rw [World.size_alloc] at h9; exact h9)) (by simp [Value.oneCell']) (by unfold maxLen; omega) (by first | omega | (simp; omega)) (by first | omega | (simp; omega)) ?_; intro v5 w5 h5 gr5 _)
      have b5 := (b3.alloc b3.size (.cells #[.int .i64 B] 3)).trans (grown_below (o3.alloc (.cells #[.int .i64 B] 3)) gr5 (by simp; omega))
      have bx5 := (bx.alloc (.cells #[.int .i64 B] 3)).kept gr5 (own_box (o3.alloc (.cells #[.int .i64 B] 3)) (bx.alloc (.cells #[.int .i64 B] 3)) (by decide))
      rw [intCells_snoc] at h5
      clear o3 b3 bx zx gr5 hb3 hb2 ho
      generalize W2.heap.size = gx at *
      go_loopw [8, 12] (fun lv kv W => ∃ k : Nat, k ≤ 16 ∧ kv = .int .i64 k ∧ ∃ r, Hid (Pn.reachIn D L B k = (r, 0)) ∧ W.ownsRow V.heap.size 3 1 lv (pre.length + 1 + r.length) (intCells (pre ++ B :: r)) ∧ Below V.heap.size V W ∧ Blk W gx 32 #[.int .i64 1, .int .i64 B]) (fun _ kv _ => 16 - (intOf kv).toNat)
      case atStart => exact ⟨0, Nat.zero_le _, rfl, [], hid rfl, h5, b5, bx5⟩
      case round =>
        obtain ⟨k, hk, rfl, r, hr, ho, hb, bx⟩ := hrel
        have hbw := HBV.out.trans (hb.mono hsV)
        have xk3 := blk5 (x.below hb x.lt)
        have zk3 := blk2 (z.below hb z.lt)
        have zx := blk2 bx
        clear h5 b5 bx5
        by_cases hkt : k < 16
        · have hrl : r.length ≤ k := by have h9 := Pn.reachIn_len (D := D) (L := L) B k; rw [hr.out] at h9; exact h9
          have hc := hget _ hbw B (k : Int)
          have hsm := Pn.tabGet_small D L B (k : Int)
          have Hat := hid (Pn.reachIn_next hr.out)
          generalize Pn.tabGet D L B (k : Int) = E at *
          obtain ⟨⟨K2, A3⟩, e3⟩ := E
          simp only at hc Hat hsm
          obtain ⟨q1, q2, q3, q4⟩ := hsm
          go_wp2_with fail
          go_at_call 69
          refine hc.mono ?_
          rintro e W6 ⟨rfl, hb6⟩
          have hb7 := (Below.refl W6.heap.size W6).alloc (Nat.le_refl _) (.cells #[.int .i64 K2, .int .i64 A3] 32)
          have byy := Blk.new W6 32 #[.int .i64 K2, .int .i64 A3]
          have o7 := (own_below ho hb6).alloc (.cells #[.int .i64 K2, .int .i64 A3] 32)
          have b7 := hb.trans ((bt hb6 hb7).mono hb.size)
          have bx7 := (bx.below hb6 bx.lt).alloc (.cells #[.int .i64 K2, .int .i64 A3] 32)
          have zy := blk2 byy
          clear hc xk3 zk3 zx
          by_cases he : e3 = 0
          case neg =>
            have n1 : (e3 != 0) = true := by simpa using he
            have HE := hid (show Pn.ptReach D L l1 = ([], e3) by
              have h1 : Pn.reachIn D L B (k + 1) = (r, e3) := by rw [Hat.out, if_pos he]
              have h2 : Pn.reachIn D L B 16 = (r, e3) := by rw [Pn.reachIn_stop (n := k + 1) (by rw [h1]; exact he) 16 (by omega), h1]
              have hr : Pn.reachAt D L l1 i = (B :: r, e3) := by rw [HatB.out, h2]
              have h9 := Pn.reachN_end hlt hpre.out (by rw [hr]; exact he)
              rw [hr] at h9
              rw [Pn.ptReach, h9, if_pos he])
            go_wp2_with fail
            refine bodyPost_ret (v := .tuple #[.slice none 0 0, .int .i64 e3]) (by simp [results, Tryz.results26, go_sem]) rfl ?_
            rw [HE.out]
            exact ⟨⟨_, rfl, World.ownsRow_nil _ _ _ _⟩, HBV.out.trans (b7.mono hsV)⟩
          subst he
          replace Hat := hid (Hat.out.trans (if_neg (by simp)))
          by_cases hK1 : K2 = 1
          · subst hK1
            have Hn := hid (show Pn.reachIn D L B (k + 1) = (r ++ [A3], 0) by rw [Hat.out, if_pos rfl])
            have l7 := b7.size
            simp only [World.size_alloc] at l7
            clear Hat
            go_wp2_with (at_builtin; refine wpList_append_own _ rfl _ _ 23 rfl V.heap.size 3 i1 (.int .i64 0) 1 8 Tryz.underlying23 hi1 hy0 hy1 hy2 rfl (by decide) _ _ _ rfl (o7.alloc _) ⟨W6.heap.size + 1, 0, none⟩ 1 1 [.int .i64 A3] rfl rfl (World.news_of_block (by have h9 := Blk.new (W6.alloc (.cells #[.int .i64 1, .int .i64 A3] 32)) 3 #[.int .i64 A3]; rw [World.size_alloc] at h9; exact h9)) (by simp [Value.oneCell']) (by unfold maxLen; omega) (by first | omega | (simp; omega)) (by first | omega | (simp; omega)) ?_; intro v8 w8 h8 gr8 _)
            have b8 := (b7.alloc b7.size (.cells #[.int .i64 A3] 3)).trans (grown_below (o7.alloc (.cells #[.int .i64 A3] 3)) gr8 (by simp; omega))
            have bx8 := (bx7.alloc (.cells #[.int .i64 A3] 3)).kept gr8 (own_box (o7.alloc (.cells #[.int .i64 A3] 3)) (bx7.alloc (.cells #[.int .i64 A3] 3)) (by decide))
            rw [intCells_snoc, List.append_assoc, List.cons_append] at h8
            go_roundw
            case rel => exact ⟨k + 1, by omega, by go_num, r ++ [A3], Hn, by rw [List.length_append, List.length_singleton]; exact h8, b8, bx8⟩
            case measure => simp [intOf]; omega
          · have nK1 : (K2 == 1) = false := by simpa using hK1
            have Hn := hid (show Pn.reachIn D L B (k + 1) = (r, 0) by rw [Hat.out, if_neg hK1])
            clear Hat
            go_wp2_with fail
            go_roundw
            case rel => exact ⟨k + 1, by omega, by go_num, r, Hn, o7, b7, bx7⟩
            case measure => simp [intOf]; omega
        · obtain rfl : k = 16 := by omega
          have Hn := hid (show Pn.reachN D L l1 (i + 1) = (pre ++ B :: r, 0) by
            have hr2 : Pn.reachAt D L l1 i = (B :: r, 0) := by rw [HatB.out, hr.out]
            rw [Pn.reachN_next hpre.out, hr2])
          have e9 : pre.length + 1 + r.length = (pre ++ B :: r).length := by rw [List.length_append, List.length_cons]; omega
          rw [e9] at ho
          go_wp2_with fail
          go_roundw
          case rel => exact ⟨i + 1, by omega, by go_num, _, Hn, ho, hb⟩
          case measure => simp [intOf]; omega
    · obtain rfl : i = 4 := by omega
      obtain ⟨Al, cl, rfl, _⟩ := own_slice ho
      have HE := hid (show Pn.ptReach D L l1 = (pre, 0) by rw [Pn.ptReach, hpre.out, if_neg (by simp)])
      go_wp2_with fail
      refine bodyPost_ret (v := .tuple #[.slice Al pre.length cl, .int .i64 0]) (by simp [results, Tryz.results26, go_sem]) rfl ?_
      rw [HE.out]
      exact ⟨⟨_, rfl, own_base ho hsV⟩, hbw⟩
end Go.Proofs.YtplgmlcoeehnfaaGreat
set_option linter.unusedVariables false
namespace Go.Proofs.YtplgmlcoeehnfaaGreat
open Go.RowKit Go.Shelf
attribute [local go_sem] bs_mk bs_append bs_extract bs_size bs_toList bs_get
set_option maxRecDepth 100000 in
set_option maxHeartbeats 2000000 in
theorem r12_share (D : Dk) (L : Pn) (p q p' q' : Pl) (w : World) (hD : IsDk w D p q) (hL : IsPn w L p' q') (hf : D.fit = true) (hfl : L.Fit) (l1 b : Int) (hb64 : -9223372036854775808 ≤ b ∧ b ≤ 9223372036854775807) :
    Calls Tryz.prog 28 #[dval D p q, pval L p' q', .int .i64 l1, .int .i64 b] w fun e w' => RetPn w.heap.size L p' q' (Pn.ptShare D L l1 b) e w' ∧ Below w.heap.size w w' := by
  have hreach := fun (W : World) (hb : Below w.heap.size w W) => r12_reach D L p q p' q' W (hD.below hb) (hL.below hb) hf hfl l1
  have HL := hid (fun (W : World) (hb : Below w.heap.size w W) => hL.below hb)
  have hadd := fun (W : World) (hb : Below w.heap.size w W) (Y : Pn) (p1 q1 : Pl) (hY : IsPn W Y p1 q1) (hYf : Y.Fit) (k : Int) => r8_add D Y p q p1 q1 W (hD.below hb) hY hf hYf k b hb64
  have oP : ∀ B, w.heap.size ≤ B → PnOff B L p' q' := fun B hB => hL.apart hB
  have hrs := Pn.ptReach_small (D := D) (L := L) l1
  have Hfit := hid (fun (m : List Int) => Pn.addAll_fit (D := D) hf b m (s := (L, 0)) hfl)
  obtain ⟨⟨l, e0⟩, hR⟩ : ∃ x, Pn.ptReach D L l1 = x := ⟨_, rfl⟩
  have Hsh := hid (show Pn.ptShare D L l1 b = if e0 ≠ 0 then (L, e0) else if (Pn.addAll D b l (L, 0)).2 ≠ 0 then (L, (Pn.addAll D b l (L, 0)).2) else ((Pn.addAll D b l (L, 0)).1, 0) by rw [Pn.ptShare, hR])
  rw [hR] at hreach hrs
  simp only at hreach hrs
  clear hD hL hR hf hfl
  obtain ⟨A1, a1⟩ := p
  obtain ⟨A2, a2⟩ := q
  obtain ⟨B1, b1⟩ := p'
  obtain ⟨B2, b2⟩ := q'
  have hB := Below.refl w.heap.size w
  have x := Blk.new w 25 #[.string (bs D.data), .slice A1 D.cache.length a1, .int .i64 D.fuse, .bool D.off, .slice A2 D.bad.length a2]
  have xk := blk5 x
  have hB_1 := hB.alloc hB.size (.cells #[.string (bs D.data), .slice A1 D.cache.length a1, .int .i64 D.fuse, .bool D.off, .slice A2 D.bad.length a2] 25)
  have z := Blk.new (w.alloc (.cells #[.string (bs D.data), .slice A1 D.cache.length a1, .int .i64 D.fuse, .bool D.off, .slice A2 D.bad.length a2] 25)) 28 #[.slice B1 L.targets.length b1, .slice B2 L.data.length b2]
  simp only [World.size_alloc] at z
  have zk := blk2 z
  have hB_2 := hB_1.alloc hB_1.size (.cells #[.slice B1 L.targets.length b1, .slice B2 L.data.length b2] 28)
  have x_3 := x.alloc (.cells #[.slice B1 L.targets.length b1, .slice B2 L.data.length b2] 28)
  have xk_3 := blk5 x_3
  have r := Blk.new ((w.alloc (.cells #[.string (bs D.data), .slice A1 D.cache.length a1, .int .i64 D.fuse, .bool D.off, .slice A2 D.bad.length a2] 25)).alloc (.cells #[.slice B1 L.targets.length b1, .slice B2 L.data.length b2] 28)) 28 #[.slice none 0 0, .slice none 0 0]
  simp only [World.size_alloc] at r
  have rk := blk2 r
  have rkf := r.frozen
  have hB_4 := hB_2.alloc hB_2.size (.cells #[.slice none 0 0, .slice none 0 0] 28)
  have x_5 := x_3.alloc (.cells #[.slice none 0 0, .slice none 0 0] 28)
  have xk_5 := blk5 x_5
  have z_6 := z.alloc (.cells #[.slice none 0 0, .slice none 0 0] 28)
  have zk_6 := blk2 z_6
  go_enter Tryz.func28, Tryz.ntmps28
  have lr1 := (r).lt
  go_wp2_with fail
  go_at_call 26
  refine ((hreach _ hB_4)).mono ?_
  rintro e w1 ⟨⟨v, rfl, hv⟩, hb1⟩
  replace hB := bt hB_4 hb1
  replace x := x_5.below hb1 x_5.lt
  replace xk := blk5 x
  replace z := z_6.below hb1 z_6.lt
  replace zk := blk2 z
  replace r := r.below hb1 r.lt
  replace rk := blk2 r
  replace rkf := r.frozen
  clear hB_1 hB_2 xk_3 x_3 hB_4 xk_5 x_5 zk_6 z_6
  obtain ⟨A3, a3, rfl, _, _, _⟩ := own_slice hv
  have hcl := Cells.of_own hv
  have hol := off_below hcl (n := l.length) (by rw [intCells_length]; exact Nat.le_refl _) (Nat.le_refl w1.heap.size)
  have sw1 := hB.size
  have lr2 := r.lt
  by_cases h0 : e0 = 0
  rotate_left
  · have n1 : (e0 != 0) = true := by simpa using h0
    have HE := hid (Hsh.out.trans (if_pos h0))
    clear h0
    have yy := blk2 (blk_set2 r (.slice B1 L.targets.length b1) (.slice B2 L.data.length b2))
    have qq := ((r).set 0 (.slice B1 L.targets.length b1)).frozen
    have b9 := below_set2 hB (g := w.heap.size + 1 + 1) (by omega) (.slice B1 L.targets.length b1) (.slice B2 L.data.length b2)
    have i9 := (HL.out _ hB).off2 (oP (w.heap.size + 1 + 1) (by omega)) (.slice B1 L.targets.length b1) (.slice B2 L.data.length b2)
    go_wp2_with fail
    refine bodyPost_ret (v := .tuple #[pval L ⟨B1, b1⟩ ⟨B2, b2⟩, .int .i64 e0]) (by simp [results, Tryz.results28, go_sem, yy]) rfl ?_
    rw [HE.out]
    exact ⟨⟨⟨B1, b1⟩, ⟨B2, b2⟩, rfl, i9, fun b hb ho => ho⟩, b9⟩
  have n1 : (e0 != 0) = false := by simp [h0]
  replace Hsh := hid (Hsh.out.trans (if_neg (by simpa using h0)))
  clear h0
  have gB := (Below.refl w1.heap.size w1).alloc (Nat.le_refl _) (.cells #[.slice B1 L.targets.length b1, .slice B2 L.data.length b2] 28)
  have hcl2 := hcl.below gB
  have iL := (HL.out _ hB).below gB
  have qb := Blk.new w1 28 #[.slice B1 L.targets.length b1, .slice B2 L.data.length b2]
  have qbk := blk2 qb
  have hB_7 := hB.alloc hB.size (.cells #[.slice B1 L.targets.length b1, .slice B2 L.data.length b2] 28)
  have x_8 := x.alloc (.cells #[.slice B1 L.targets.length b1, .slice B2 L.data.length b2] 28)
  have xk_8 := blk5 x_8
  have z_9 := z.alloc (.cells #[.slice B1 L.targets.length b1, .slice B2 L.data.length b2] 28)
  have zk_9 := blk2 z_9
  have r_10 := r.alloc (.cells #[.slice B1 L.targets.length b1, .slice B2 L.data.length b2] 28)
  have rk_10 := blk2 r_10
  have rkf_10 := r_10.frozen
  clear hreach hv hcl gB
  go_wp2_with fail
  generalize hU : w1.alloc (.cells #[.slice B1 L.targets.length b1, .slice B2 L.data.length b2] 28) = U at *
  have sU : w1.heap.size < U.heap.size := qb.lt
  have xU := x_8
  have zU := z_9
  have rU := r_10
  have BU := hid hB_7
  have hnl : l.length ≤ 68 := hrs.2
  have HS := hid hrs.1
  have Hcl := hid (fun (V : World) (hg : U.grownBy V (some w1.heap.size)) => hcl2.grown hg hol (fun h0 => by rw [List.length_eq_zero_iff.1 h0]; rfl))
  have oL : PnOff w1.heap.size L ⟨B1, b1⟩ ⟨B2, b2⟩ := oP _ (by omega)
  have qbU := qb
  clear hcl2 hol hU
  go_loopw [13] (fun x V => ∃ i : Nat, i ≤ l.length ∧ x = .int .i64 i ∧ ∃ S : Pn, Hid (Pn.addAll D b (l.take i) (L, 0) = (S, 0)) ∧ ∃ p5 q5, U.grownBy V (some w1.heap.size) ∧ Blk V w1.heap.size 28 #[.slice p5.a S.targets.length p5.c, .slice q5.a S.data.length q5.c] ∧ IsPn V S p5 q5 ∧ PnOff w1.heap.size S p5 q5 ∧ Hid (∀ g, g < U.heap.size → PnOff g L ⟨B1, b1⟩ ⟨B2, b2⟩ → PnOff g S p5 q5)) (fun x _ => l.length - (intOf x).toNat)
  case atStart => exact ⟨0, Nat.zero_le _, rfl, L, hid rfl, ⟨B1, b1⟩, ⟨B2, b2⟩, grown_refl _ _, qbU, iL, oL, hid (fun _ _ h => h)⟩
  case round =>
    obtain ⟨i, hi, rfl, S, hS, p5, q5, hg, qv, i5, oq5, o5⟩ := hrel
    have xv := xU.grown hg (by omega)
    have zv := zU.grown hg (by omega)
    have rv := rU.grown hg (by omega)
    have hBv : Below w.heap.size w wr := BU.out.trans (grown_belowG hg (by omega) (by omega))
    have sv := hg.size
    clear qbU iL qbk
    by_cases hlt : i < l.length
    · obtain ⟨cb, co, e1, hc⟩ := (Hcl.out _ hg).int hlt
      subst e1
      replace hc := hc i hlt
      have hk := HS.out l[i] (List.getElem_mem hlt)
      have Hn := hid (Pn.addAll_take (D := D) (b := b) (s := (L, 0)) hlt)
      rw [hS.out, Pn.step_zero (s := (S, 0)) rfl] at Hn
      have Sf : S.Fit := by have h9 := Hfit.out (l.take i); rw [hS.out] at h9; exact h9
      have Hst := hid (fun (h9 : (Pn.cntAdd D S l[i] b).2 ≠ 0) => show Pn.addAll D b l (L, 0) = Pn.cntAdd D S l[i] b by
        have e : l = l.take (i + 1) ++ l.drop (i + 1) := (List.take_append_drop _ _).symm
        have e2 : Pn.addAll D b l (L, 0) = Pn.addAll D b (l.drop (i + 1)) (Pn.addAll D b (l.take (i + 1)) (L, 0)) := by
          conv => lhs; rw [e]
          unfold Pn.addAll; rw [List.foldl_append]
        rw [e2, Hn.out, Pn.addAll_err (s := Pn.cntAdd D S l[i] b) _ h9])
      have KX := fun (W : World) (hW : Below wr.heap.size wr W) => blk5 (xv.below hW xv.lt)
      have KQ := fun (W : World) (hW : Below wr.heap.size wr W) => blk2 (qv.below hW qv.lt)
      have KC := fun (W : World) (hW : Below wr.heap.size wr W) => cell_below hW hc
      have hcall := fun (W : World) (hW : Below wr.heap.size wr W) => hadd W (hBv.trans (hW.mono hBv.size)) S p5 q5 (i5.below hW) Sf
      generalize l[i] = kk at *
      have hin : (i : Int) < (l.length : Int) := by omega
      have hin0 : (0 : Int) ≤ (i : Int) := by omega
      go_wp2_with fail
      have s0 : Below wr.heap.size wr wr.drew := (Below.refl _ _).drew
      refine wp_region_late (S := fun W => Below wr.heap.size wr W) (late := fun _ => false) (by kernel_rfl) ?_
      generalize wr.drew = U0 at s0 ⊢
      simp only [List.size_toArray, List.length_cons, List.length_nil, Nat.reduceAdd, Array.replicate_succ, Array.replicate_zero, List.push_toArray, List.nil_append, List.cons_append]
      refine wpLate_take (i := 0) (oi := _) (v := dval D ⟨A1, a1⟩ ⟨A2, a2⟩) (d := some 35) rfl rfl (by kernel_rfl) (by kernel_rfl) (by kernel_rfl) (by kernel_rfl) (fun _ _ _ h => h) rfl (fun W hW => by have z := KX W hW; go_simp) s0 ?_
      simp only [Act.put, List.setIfInBounds_toArray, List.set_cons_zero, List.set_cons_succ]
      refine wpLate_take (i := 1) (oi := _) (v := pval S p5 q5) (d := some 36) rfl rfl (by kernel_rfl) (by kernel_rfl) (by kernel_rfl) (by kernel_rfl) (fun _ _ _ h => h) rfl (fun W hW => by have z := KQ W hW; go_simp) s0 ?_
      simp only [Act.put, List.setIfInBounds_toArray, List.set_cons_zero, List.set_cons_succ]
      refine wpLate_take0 (i := 2) (oi := _) (v := .slice (some ⟨cb, co, none⟩) l.length a3) (d := some 37) rfl rfl (by kernel_rfl) (by kernel_rfl) (by kernel_rfl) (fun _ _ _ h => h) rfl (fun W => by first | rfl | go_simp) ?_
      simp only [Act.put, List.setIfInBounds_toArray, List.set_cons_zero, List.set_cons_succ]
      refine wpLate_take0 (i := 3) (oi := _) (v := .int .i64 i) (d := some 38) rfl rfl (by kernel_rfl) (by kernel_rfl) (by kernel_rfl) (fun _ _ _ h => h) rfl (fun W => by first | rfl | go_simp) ?_
      simp only [Act.put, List.setIfInBounds_toArray, List.set_cons_zero, List.set_cons_succ]
      refine wpLate_take0 (i := 4) (oi := _) (v := .pointer (some ⟨cb, co + i, none⟩)) (d := some 39) rfl rfl (by kernel_rfl) (by kernel_rfl) (by kernel_rfl) (fun _ _ _ h => h) rfl (fun W => by go_simp) ?_
      simp only [Act.put, List.setIfInBounds_toArray, List.set_cons_zero, List.set_cons_succ]
      refine wpLate_take (i := 5) (oi := _) (v := .int .i64 kk) (d := some 40) rfl rfl (by kernel_rfl) (by kernel_rfl) (by kernel_rfl) (by kernel_rfl) (fun _ _ _ h => h) rfl (fun W hW => by have z := KC W hW; go_simp) s0 ?_
      simp only [Act.put, List.setIfInBounds_toArray, List.set_cons_zero, List.set_cons_succ]
      refine wpLate_take0 (i := 6) (oi := _) (v := .int .i64 b) (d := some 41) rfl rfl (by kernel_rfl) (by kernel_rfl) (by kernel_rfl) (fun _ _ _ h => h) rfl (fun W => by first | rfl | go_simp) ?_
      simp only [Act.put, List.setIfInBounds_toArray, List.set_cons_zero, List.set_cons_succ]
      refine wpLate_two (i := 7) (k := 11) (by kernel_rfl) rfl rfl rfl rfl (fun K' hK => ?_) (fun K' hK => ?_)
      · skip
        refine oper_calls (f := 71) (args := #[dval D ⟨A1, a1⟩ ⟨A2, a2⟩, pval S p5 q5, .int .i64 kk, .int .i64 b]) (w' := U0) (by go_simp) ((hcall U0 s0 kk).mono ?_)
        rintro e U1 ⟨⟨p6, q6, rfl, i6, o6⟩, hb6⟩
        refine ⟨_, rfl, ?_⟩
        show K' (Act.put _ (some 42) _) _
        have s1 := s0.trans (hb6.mono s0.size)
        have o6q := fun (g : Nat) (h1 : g < wr.heap.size) h2 => o6 g (Nat.lt_of_lt_of_le h1 s0.size) h2
        refine hK _ _ (fun _ _ => s1) ?_
        simp only [Act.put, List.setIfInBounds_toArray, List.set_cons_zero, List.set_cons_succ]
        refine wpLate_take0 (i := 8) (oi := _) (v := .tuple #[pval (Pn.cntAdd D S kk b).1 p6 q6, .int .i64 (Pn.cntAdd D S kk b).2]) (d := some 34) rfl rfl (by kernel_rfl) (by kernel_rfl) (by kernel_rfl) (fun _ _ _ h => h) rfl (fun W => by first | rfl | go_simp) ?_
        simp only [Act.put, List.setIfInBounds_toArray, List.set_cons_zero, List.set_cons_succ]
        refine wpLate_take0 (i := 9) (oi := _) (v := pval (Pn.cntAdd D S kk b).1 p6 q6) (d := some 43) rfl rfl (by kernel_rfl) (by kernel_rfl) (by kernel_rfl) (fun _ _ _ h => h) rfl (fun W => by first | rfl | go_simp) ?_
        simp only [Act.put, List.setIfInBounds_toArray, List.set_cons_zero, List.set_cons_succ]
        refine wpLate_take0 (i := 10) (oi := _) (v := .int .i64 (Pn.cntAdd D S kk b).2) (d := some 44) rfl rfl (by kernel_rfl) (by kernel_rfl) (by kernel_rfl) (fun _ _ _ h => h) rfl (fun W => by first | rfl | go_simp) ?_
        simp only [Act.put, List.setIfInBounds_toArray, List.set_cons_zero, List.set_cons_succ]
        refine wpLate_one (i := 11) (by kernel_rfl) rfl rfl (fun K' hK => ?_)
        refine oper_ran (v := .pointer (some ⟨U1.heap.size, 0, none⟩)) (w' := U1.alloc (.cells #[.slice none 0 0, .slice none 0 0] 28)) (by go_simp) ?_
        show K' (Act.put _ (some 14) _) _
        have s2 := s1.alloc s1.size (.cells #[.slice none 0 0, .slice none 0 0] 28)
        have gx0 : wr.heap.size ≤ U1.heap.size := s1.size
        have bx2 := Blk.new U1 28 #[.slice none 0 0, .slice none 0 0]
        have og6 := i6.apart (Nat.le_refl U1.heap.size)
        replace i6 := i6.below ((Below.refl _ _).alloc (Nat.le_refl _) (.cells #[.slice none 0 0, .slice none 0 0] 28))
        refine hK _ _ (fun _ _ => s2) ?_
        simp only [Act.put, List.setIfInBounds_toArray, List.set_cons_zero, List.set_cons_succ]
        generalize U1.alloc (.cells #[.slice none 0 0, .slice none 0 0] 28) = U2 at s2 bx2 i6 ⊢
        generalize U1.heap.size = gx at gx0 bx2 og6 ⊢
        
        refine wpLate_one (i := 12) (by kernel_rfl) rfl rfl (fun K' hK => ?_)
        refine oper_skip (w' := (U2.setCell ⟨gx, 0, none⟩ (.slice p6.a (Pn.cntAdd D S kk b).1.targets.length p6.c)).setCell ⟨gx, 1, none⟩ (.slice q6.a (Pn.cntAdd D S kk b).1.data.length q6.c)) (by have f1 := bx2.frozen; have z1 := blk2 bx2; have qq := bx2.set 0 (.slice p6.a (Pn.cntAdd D S kk b).1.targets.length p6.c); have uf2 := qq.frozen; have u1 := blk2 qq; go_simp) ?_
        show K' (Act.put _ none _) _
        have s8 := below_set2 s2 (g := gx) gx0 (.slice p6.a (Pn.cntAdd D S kk b).1.targets.length p6.c) (.slice q6.a (Pn.cntAdd D S kk b).1.data.length q6.c)
        have b8 := blk_set2 bx2 (.slice p6.a (Pn.cntAdd D S kk b).1.targets.length p6.c) (.slice q6.a (Pn.cntAdd D S kk b).1.data.length q6.c)
        have i8 := i6.off2 og6 (.slice p6.a (Pn.cntAdd D S kk b).1.targets.length p6.c) (.slice q6.a (Pn.cntAdd D S kk b).1.data.length q6.c)
        refine hK _ _ (fun _ _ => s8) ?_
        generalize (U2.setCell ⟨gx, 0, none⟩ (.slice p6.a (Pn.cntAdd D S kk b).1.targets.length p6.c)).setCell ⟨gx, 1, none⟩ (.slice q6.a (Pn.cntAdd D S kk b).1.data.length q6.c) = U8 at s8 b8 i8 ⊢
        try simp only [Act.put, List.setIfInBounds_toArray, List.set_cons_zero, List.set_cons_succ]
        refine wpLate_take0 (i := 13) (oi := _) (v := .int .i64 (Pn.cntAdd D S kk b).2) (d := some 15) rfl rfl (by kernel_rfl) (by kernel_rfl) (by kernel_rfl) (fun _ _ _ h => h) rfl (fun W => by rfl) ?_
        simp only [Act.put, List.setIfInBounds_toArray, List.set_cons_zero, List.set_cons_succ]
        refine wpLate_done (by kernel_rfl) ?_ _
        have or6 : PnOff (w.heap.size + 1 + 1) (Pn.cntAdd D S kk b).1 p6 q6 := o6q _ (by omega) (o5.out _ (by omega) (oP _ (by omega)))
        have oq6 : PnOff w1.heap.size (Pn.cntAdd D S kk b).1 p6 q6 := o6q _ (by omega) oq5
        have O6 := hid (fun (g : Nat) (h1 : g < U.heap.size) (h2 : PnOff g L ⟨B1, b1⟩ ⟨B2, b2⟩) => o6q g (by omega) (o5.out g h1 h2))
        have xw := xv.below s8 xv.lt
        have zw := zv.below s8 zv.lt
        have rw_ := rv.below s8 rv.lt
        have qw := qv.below s8 qv.lt
        have zwk := blk2 zw
        have rwk := blk2 rw_
        have rwf := rw_.frozen
        have qwk := blk2 qw
        have qwf := qw.frozen
        have b8k := blk2 b8
        have hB8 := hBv.trans (s8.mono hBv.size)
        have g8 := grown_then hg s8
        clear KX KQ KC hcall o6q
        generalize (Pn.cntAdd D S kk b) = R at *
        by_cases h9 : R.2 = 0
        · have HR := hid (show Pn.addAll D b (l.take (i + 1)) (L, 0) = (R.1, 0) by rw [Hn.out]; exact Prod.ext rfl h9)
          have n9 : (R.2 != 0) = false := by simp [h9]
          clear h9
          have q9 := blk_set2 qw (.slice p6.a R.1.targets.length p6.c) (.slice q6.a R.1.data.length q6.c)
          have q9k := (qw.set 0 (.slice p6.a R.1.targets.length p6.c)).frozen
          have g9 := grown_set (grown_set g8 0 (.slice p6.a R.1.targets.length p6.c)) 1 (.slice q6.a R.1.data.length q6.c)
          have i9 := i8.off2 oq6 (.slice p6.a R.1.targets.length p6.c) (.slice q6.a R.1.data.length q6.c)
          go_wp2_with fail
          go_roundw
          case rel => exact ⟨i + 1, by omega, by go_num, R.1, HR, p6, q6, g9, q9, i9, oq6, O6⟩
          case measure => simp [intOf]; omega
        · have HE := hid (show Pn.ptShare D L l1 b = (L, R.2) by rw [Hsh.out, Hst.out h9, if_pos h9])
          have n9 : (R.2 != 0) = true := by simpa using h9
          clear h9
          have yy := blk2 (blk_set2 rw_ (.slice B1 L.targets.length b1) (.slice B2 L.data.length b2))
          have qq := (rw_.set 0 (.slice B1 L.targets.length b1)).frozen
          have b9 := below_set2 hB8 (g := w.heap.size + 1 + 1) (by omega) (.slice B1 L.targets.length b1) (.slice B2 L.data.length b2)
          have i9 := (HL.out _ hB8).off2 (oP (w.heap.size + 1 + 1) (by omega)) (.slice B1 L.targets.length b1) (.slice B2 L.data.length b2)
          go_wp2_with fail
          refine bodyPost_ret (v := .tuple #[pval L ⟨B1, b1⟩ ⟨B2, b2⟩, .int .i64 R.2]) (by simp [results, Tryz.results28, go_sem, yy]) rfl ?_
          rw [HE.out]
          exact ⟨⟨⟨B1, b1⟩, ⟨B2, b2⟩, rfl, i9, fun b hb ho => ho⟩, b9⟩
      · skip
        refine oper_ran (v := .pointer (some ⟨U0.heap.size, 0, none⟩)) (w' := U0.alloc (.cells #[.slice none 0 0, .slice none 0 0] 28)) (by go_simp) ?_
        show K' (Act.put _ (some 14) _) _
        have s1 := s0.alloc s0.size (.cells #[.slice none 0 0, .slice none 0 0] 28)
        have gx0 : wr.heap.size ≤ U0.heap.size := s0.size
        have bx1 := Blk.new U0 28 #[.slice none 0 0, .slice none 0 0]
        skip
        refine hK _ _ (fun _ _ => s1) ?_
        simp only [Act.put, List.setIfInBounds_toArray, List.set_cons_zero, List.set_cons_succ]
        generalize U0.alloc (.cells #[.slice none 0 0, .slice none 0 0] 28) = U1 at s1 bx1 ⊢
        generalize U0.heap.size = gx at gx0 bx1 ⊢
        refine wpLate_one (i := 7) (by kernel_rfl) rfl rfl (fun K' hK => ?_)
        refine oper_calls (f := 71) (args := #[dval D ⟨A1, a1⟩ ⟨A2, a2⟩, pval S p5 q5, .int .i64 kk, .int .i64 b]) (w' := U1) (by go_simp) ((hcall U1 s1 kk).mono ?_)
        rintro e U2 ⟨⟨p6, q6, rfl, i6, o6⟩, hb6⟩
        refine ⟨_, rfl, ?_⟩
        show K' (Act.put _ (some 42) _) _
        have s2 := s1.trans (hb6.mono s1.size)
        have o6q := fun (g : Nat) (h1 : g < wr.heap.size) h2 => o6 g (Nat.lt_of_lt_of_le h1 s1.size) h2
        have og6 := o6 gx bx1.lt (i5.apart gx0)
        have bx2 := bx1.below hb6 bx1.lt
        refine hK _ _ (fun _ _ => s2) ?_
        simp only [Act.put, List.setIfInBounds_toArray, List.set_cons_zero, List.set_cons_succ]
        refine wpLate_take0 (i := 8) (oi := _) (v := .tuple #[pval (Pn.cntAdd D S kk b).1 p6 q6, .int .i64 (Pn.cntAdd D S kk b).2]) (d := some 34) rfl rfl (by kernel_rfl) (by kernel_rfl) (by kernel_rfl) (fun _ _ _ h => h) rfl (fun W => by first | rfl | go_simp) ?_
        simp only [Act.put, List.setIfInBounds_toArray, List.set_cons_zero, List.set_cons_succ]
        refine wpLate_take0 (i := 9) (oi := _) (v := pval (Pn.cntAdd D S kk b).1 p6 q6) (d := some 43) rfl rfl (by kernel_rfl) (by kernel_rfl) (by kernel_rfl) (fun _ _ _ h => h) rfl (fun W => by first | rfl | go_simp) ?_
        simp only [Act.put, List.setIfInBounds_toArray, List.set_cons_zero, List.set_cons_succ]
        refine wpLate_take0 (i := 10) (oi := _) (v := .int .i64 (Pn.cntAdd D S kk b).2) (d := some 44) rfl rfl (by kernel_rfl) (by kernel_rfl) (by kernel_rfl) (fun _ _ _ h => h) rfl (fun W => by first | rfl | go_simp) ?_
        simp only [Act.put, List.setIfInBounds_toArray, List.set_cons_zero, List.set_cons_succ]
        refine wpLate_one (i := 12) (by kernel_rfl) rfl rfl (fun K' hK => ?_)
        refine oper_skip (w' := (U2.setCell ⟨gx, 0, none⟩ (.slice p6.a (Pn.cntAdd D S kk b).1.targets.length p6.c)).setCell ⟨gx, 1, none⟩ (.slice q6.a (Pn.cntAdd D S kk b).1.data.length q6.c)) (by have f1 := bx2.frozen; have z1 := blk2 bx2; have qq := bx2.set 0 (.slice p6.a (Pn.cntAdd D S kk b).1.targets.length p6.c); have uf2 := qq.frozen; have u1 := blk2 qq; go_simp) ?_
        show K' (Act.put _ none _) _
        have s8 := below_set2 s2 (g := gx) gx0 (.slice p6.a (Pn.cntAdd D S kk b).1.targets.length p6.c) (.slice q6.a (Pn.cntAdd D S kk b).1.data.length q6.c)
        have b8 := blk_set2 bx2 (.slice p6.a (Pn.cntAdd D S kk b).1.targets.length p6.c) (.slice q6.a (Pn.cntAdd D S kk b).1.data.length q6.c)
        have i8 := i6.off2 og6 (.slice p6.a (Pn.cntAdd D S kk b).1.targets.length p6.c) (.slice q6.a (Pn.cntAdd D S kk b).1.data.length q6.c)
        refine hK _ _ (fun _ _ => s8) ?_
        generalize (U2.setCell ⟨gx, 0, none⟩ (.slice p6.a (Pn.cntAdd D S kk b).1.targets.length p6.c)).setCell ⟨gx, 1, none⟩ (.slice q6.a (Pn.cntAdd D S kk b).1.data.length q6.c) = U8 at s8 b8 i8 ⊢
        try simp only [Act.put, List.setIfInBounds_toArray, List.set_cons_zero, List.set_cons_succ]
        refine wpLate_take0 (i := 13) (oi := _) (v := .int .i64 (Pn.cntAdd D S kk b).2) (d := some 15) rfl rfl (by kernel_rfl) (by kernel_rfl) (by kernel_rfl) (fun _ _ _ h => h) rfl (fun W => by rfl) ?_
        simp only [Act.put, List.setIfInBounds_toArray, List.set_cons_zero, List.set_cons_succ]
        refine wpLate_done (by kernel_rfl) ?_ _
        have or6 : PnOff (w.heap.size + 1 + 1) (Pn.cntAdd D S kk b).1 p6 q6 := o6q _ (by omega) (o5.out _ (by omega) (oP _ (by omega)))
        have oq6 : PnOff w1.heap.size (Pn.cntAdd D S kk b).1 p6 q6 := o6q _ (by omega) oq5
        have O6 := hid (fun (g : Nat) (h1 : g < U.heap.size) (h2 : PnOff g L ⟨B1, b1⟩ ⟨B2, b2⟩) => o6q g (by omega) (o5.out g h1 h2))
        have xw := xv.below s8 xv.lt
        have zw := zv.below s8 zv.lt
        have rw_ := rv.below s8 rv.lt
        have qw := qv.below s8 qv.lt
        have zwk := blk2 zw
        have rwk := blk2 rw_
        have rwf := rw_.frozen
        have qwk := blk2 qw
        have qwf := qw.frozen
        have b8k := blk2 b8
        have hB8 := hBv.trans (s8.mono hBv.size)
        have g8 := grown_then hg s8
        clear KX KQ KC hcall o6q
        generalize (Pn.cntAdd D S kk b) = R at *
        by_cases h9 : R.2 = 0
        · have HR := hid (show Pn.addAll D b (l.take (i + 1)) (L, 0) = (R.1, 0) by rw [Hn.out]; exact Prod.ext rfl h9)
          have n9 : (R.2 != 0) = false := by simp [h9]
          clear h9
          have q9 := blk_set2 qw (.slice p6.a R.1.targets.length p6.c) (.slice q6.a R.1.data.length q6.c)
          have q9k := (qw.set 0 (.slice p6.a R.1.targets.length p6.c)).frozen
          have g9 := grown_set (grown_set g8 0 (.slice p6.a R.1.targets.length p6.c)) 1 (.slice q6.a R.1.data.length q6.c)
          have i9 := i8.off2 oq6 (.slice p6.a R.1.targets.length p6.c) (.slice q6.a R.1.data.length q6.c)
          go_wp2_with fail
          go_roundw
          case rel => exact ⟨i + 1, by omega, by go_num, R.1, HR, p6, q6, g9, q9, i9, oq6, O6⟩
          case measure => simp [intOf]; omega
        · have HE := hid (show Pn.ptShare D L l1 b = (L, R.2) by rw [Hsh.out, Hst.out h9, if_pos h9])
          have n9 : (R.2 != 0) = true := by simpa using h9
          clear h9
          have yy := blk2 (blk_set2 rw_ (.slice B1 L.targets.length b1) (.slice B2 L.data.length b2))
          have qq := (rw_.set 0 (.slice B1 L.targets.length b1)).frozen
          have b9 := below_set2 hB8 (g := w.heap.size + 1 + 1) (by omega) (.slice B1 L.targets.length b1) (.slice B2 L.data.length b2)
          have i9 := (HL.out _ hB8).off2 (oP (w.heap.size + 1 + 1) (by omega)) (.slice B1 L.targets.length b1) (.slice B2 L.data.length b2)
          go_wp2_with fail
          refine bodyPost_ret (v := .tuple #[pval L ⟨B1, b1⟩ ⟨B2, b2⟩, .int .i64 R.2]) (by simp [results, Tryz.results28, go_sem, yy]) rfl ?_
          rw [HE.out]
          exact ⟨⟨⟨B1, b1⟩, ⟨B2, b2⟩, rfl, i9, fun b hb ho => ho⟩, b9⟩
    · obtain rfl : i = l.length := by omega
      rw [List.take_length] at hS
      have HE := hid (show Pn.ptShare D L l1 b = (S, 0) by rw [Hsh.out, hS.out, if_neg (by simp)])
      clear hS
      have rvk := blk2 rv
      have rvf := rv.frozen
      have qvk := blk2 qv
      have yy := blk2 (blk_set2 rv (.slice p5.a S.targets.length p5.c) (.slice q5.a S.data.length q5.c))
      have qq := (rv.set 0 (.slice p5.a S.targets.length p5.c)).frozen
      have or9 : PnOff (w.heap.size + 1 + 1) S p5 q5 := o5.out _ (by omega) (oP _ (by omega))
      have i9 := i5.off2 or9 (.slice p5.a S.targets.length p5.c) (.slice q5.a S.data.length q5.c)
      have b9 := below_set2 hBv (g := w.heap.size + 1 + 1) (by omega) (.slice p5.a S.targets.length p5.c) (.slice q5.a S.data.length q5.c)
      go_wp2_with fail
      refine bodyPost_ret (v := .tuple #[pval S p5 q5, .int .i64 0]) (by simp [results, Tryz.results28, go_sem, yy]) rfl ?_
      rw [HE.out]
      exact ⟨⟨p5, q5, rfl, i9, fun g h1 h2 => o5.out g (by omega) h2⟩, b9⟩
end Go.Proofs.YtplgmlcoeehnfaaGreat
