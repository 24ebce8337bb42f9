/- The document's ref12: Reach. The document's ref12: Share. -/
import Derived.Test.YtplgmlcoeehnfaaGreatPuPointPlain
import Derived.Test.YtplgmlcoeehnfaaGreatPuRoots
import Derived.Test.YtplgmlcoeehnfaaGreatPuTable11
import Derived.Test.YtplgmlcoeehnfaaGreatPuTable4
import Derived.Test.YtplgmlcoeehnfaaGreatPuAllocs
import Derived.Test.YtplgmlcoeehnfaaGreatPuPointsC
set_option linter.unusedVariables false
namespace Go.Proofs.YtplgmlcoeehnfaaGreat
open Go.RowKit Go.Shelf
attribute [local go_sem] bs_mk bs_append bs_extract bs_size bs_toList bs_get
set_option maxRecDepth 100000 in
set_option maxHeartbeats 2000000 in
theorem r12_reach (D : Dk) (L : Pn) (p q p' q' : Pl) (w : World) (hD : IsDk w D p q) (hL : IsPn w L p' q') (hf : D.fit = true) (hfl : L.Fit) (l1 : Int) :
    Calls Tryz.prog 26 #[dval D p q, pval L p' q', .int .i64 l1] w fun e w' => (∃ v, e = .returned (.tuple #[v, .int .i64 (Pn.ptReach D L l1).2]) ∧ w'.ownsRow w.heap.size 3 1 v (Pn.ptReach D L l1).1.length (intCells (Pn.ptReach D L l1).1)) ∧ Below w.heap.size w w' := by
  obtain ⟨i1, hi1, hy0, hy1, hy2⟩ := info_parts Tryz.infoIntP
  have hget := fun (W : World) (hb : Below w.heap.size w W) (t i : Int) => t11_get D L p q p' q' W (hD.below hb) (hL.below hb) hf hfl t i
  have HS := hid (fun (i : Nat) (xs : List Int) (h : Pn.reachN D L l1 i = (xs, 0)) => show xs.length ≤ 17 * i by have := (Pn.reachN_small (D := D) (L := L) l1 i).2; rw [h] at this; exact this)
  clear hD hL hf hfl
  obtain ⟨A1, a1⟩ := p
  obtain ⟨A2, a2⟩ := q
  obtain ⟨B1, b1⟩ := p'
  obtain ⟨B2, b2⟩ := q'
  have hB := Below.refl w.heap.size w
  have x := Blk.new w 25 #[.string (bs D.data), .slice A1 D.cache.length a1, .int .i64 D.fuse, .bool D.off, .slice A2 D.bad.length a2]
  have xk := blk5 x
  have hB_1 := hB.alloc hB.size (.cells #[.string (bs D.data), .slice A1 D.cache.length a1, .int .i64 D.fuse, .bool D.off, .slice A2 D.bad.length a2] 25)
  have z := Blk.new (w.alloc (.cells #[.string (bs D.data), .slice A1 D.cache.length a1, .int .i64 D.fuse, .bool D.off, .slice A2 D.bad.length a2] 25)) 28 #[.slice B1 L.targets.length b1, .slice B2 L.data.length b2]
  simp only [World.size_alloc] at z
  have zk := blk2 z
  have hB_2 := hB_1.alloc hB_1.size (.cells #[.slice B1 L.targets.length b1, .slice B2 L.data.length b2] 28)
  have x_3 := x.alloc (.cells #[.slice B1 L.targets.length b1, .slice B2 L.data.length b2] 28)
  have xk_3 := blk5 x_3
  have BV := hid hB
  go_enter Tryz.func26, Tryz.ntmps26
  go_wp2_with fail
  generalize ((w.alloc (.cells #[.string (bs D.data), .slice A1 D.cache.length a1, .int .i64 D.fuse, .bool D.off, .slice A2 D.bad.length a2] 25)).alloc (.cells #[.slice B1 L.targets.length b1, .slice B2 L.data.length b2] 28)) = V at hB_2 x_3 xk_3 z zk ⊢
  clear hB_1 hB x xk
  have hB := hB_2
  have x := x_3
  have xk := xk_3
  clear hB_2 x_3 xk_3
  have HBV := hid hB
  have hsV := hB.size
  go_loopw [8, 9] (fun lv iv W => ∃ i : Nat, i ≤ 4 ∧ iv = .int .i64 i ∧ ∃ pre, Hid (Pn.reachN D L l1 i = (pre, 0)) ∧ W.ownsRow V.heap.size 3 1 lv pre.length (intCells pre) ∧ Below V.heap.size V W) (fun _ iv _ => 4 - (intOf iv).toNat)
  case atStart => exact ⟨0, Nat.zero_le _, rfl, [], hid rfl, World.ownsRow_nil _ _ _ _, Below.refl _ _⟩
  case round =>
    obtain ⟨i, hi, rfl, pre, hpre, ho, hb⟩ := hrel
    have hbw := HBV.out.trans (hb.mono hsV)
    have xk2 := blk5 (x.below hb x.lt)
    have zk2 := blk2 (z.below hb z.lt)
    clear xk zk
    by_cases hlt : i < 4
    · have hlen := HS.out i pre hpre.out
      have hc := hget wr hbw l1 (i : Int)
      have hsm := Pn.tabGet_small D L l1 (i : Int)
      have Hat := hid (show Pn.reachAt D L l1 i = if (Pn.tabGet D L l1 i).2 ≠ 0 then ([], (Pn.tabGet D L l1 i).2) else if (Pn.tabGet D L l1 i).1.1 = 2 then ([], 14) else if (Pn.tabGet D L l1 i).1.1 = 0 then ([], 0)
        else ((Pn.tabGet D L l1 i).1.2 :: (Pn.reachIn D L (Pn.tabGet D L l1 i).1.2 16).1, (Pn.reachIn D L (Pn.tabGet D L l1 i).1.2 16).2) from rfl)
      generalize Pn.tabGet D L l1 (i : Int) = E at *
      obtain ⟨⟨K, B⟩, e2⟩ := E
      simp only at hc Hat hsm
      obtain ⟨s1, s2, s3, s4⟩ := hsm
      go_wp2_with fail
      go_at_call 69
      refine hc.mono ?_
      rintro e W2 ⟨rfl, hb2⟩
      have hb3 := (Below.refl W2.heap.size W2).alloc (Nat.le_refl _) (.cells #[.int .i64 K, .int .i64 B] 32)
      have bx := Blk.new W2 32 #[.int .i64 K, .int .i64 B]
      have o3 := (own_below ho hb2).alloc (.cells #[.int .i64 K, .int .i64 B] 32)
      have b3 := hb.trans ((bt hb2 hb3).mono hb.size)
      have zx := blk2 bx
      clear hc xk2 zk2
      by_cases he : e2 = 0
      case neg =>
        have n1 : (e2 != 0) = true := by simpa using he
        have HE := hid (show Pn.ptReach D L l1 = ([], e2) by
          have hr : Pn.reachAt D L l1 i = ([], e2) := by rw [Hat.out, if_pos he]
          have h9 := Pn.reachN_end hlt hpre.out (by rw [hr]; exact he)
          rw [hr] at h9
          rw [Pn.ptReach, h9, if_pos he])
        go_wp2_with fail
        refine bodyPost_ret (v := .tuple #[.slice none 0 0, .int .i64 e2]) (by simp [results, Tryz.results26, go_sem]) rfl ?_
        rw [HE.out]
        exact ⟨⟨_, rfl, World.ownsRow_nil _ _ _ _⟩, HBV.out.trans (b3.mono hsV)⟩
      subst he
      replace Hat := hid (Hat.out.trans (if_neg (by simp)))
      by_cases hK2 : K = 2
      · subst hK2
        have HE := hid (show Pn.ptReach D L l1 = ([], 14) by
          have hr : Pn.reachAt D L l1 i = ([], 14) := by rw [Hat.out, if_pos rfl]
          have h9 := Pn.reachN_end hlt hpre.out (by rw [hr]; exact (by decide : (14 : Int) ≠ 0))
          rw [hr] at h9
          rw [Pn.ptReach, h9, if_pos (by decide)])
        go_wp2_with fail
        refine bodyPost_ret (v := .tuple #[.slice none 0 0, .int .i64 14]) (by simp [results, Tryz.results26, go_sem]) rfl ?_
        rw [HE.out]
        exact ⟨⟨_, rfl, World.ownsRow_nil _ _ _ _⟩, HBV.out.trans (b3.mono hsV)⟩
      replace Hat := hid (Hat.out.trans (if_neg hK2))
      have nK2 : (K == 2) = false := by simpa using hK2
      by_cases hK0 : K = 0
      · subst hK0
        have Hn := hid (show Pn.reachN D L l1 (i + 1) = (pre, 0) by
          have hr : Pn.reachAt D L l1 i = ([], 0) := by rw [Hat.out, if_pos rfl]
          rw [Pn.reachN_next hpre.out, hr, List.append_nil])
        go_wp2_with fail
        go_roundw
        case rel => exact ⟨i + 1, by omega, by go_num, pre, Hn, o3, b3⟩
        case measure => simp [intOf]; omega
      have nK0 : (K == 0) = false := by simpa using hK0
      have hK1 : K = 1 := by omega
      have HatB := hid (show Pn.reachAt D L l1 i = (B :: (Pn.reachIn D L B 16).1, (Pn.reachIn D L B 16).2) by rw [Hat.out, if_neg hK0])
      clear Hat hK2 hK0
      subst hK1
      have l3 := b3.size
      simp only [World.size_alloc] at l3
      go_wp2_with (at_builtin; refine wpList_append_own _ rfl _ _ 23 rfl V.heap.size 3 i1 (.int .i64 0) 1 8 Tryz.underlying23 hi1 hy0 hy1 hy2 rfl (by decide) _ _ _ rfl (o3.alloc _) ⟨W2.heap.size + 1, 0, none⟩ 1 1 [.int .i64 B] rfl rfl (World.news_of_block (by have h9 := Blk.new (W2.alloc (.cells #[.int .i64 1, .int .i64 B] 32)) 3 #[.int .i64 B]; rw [World.size_alloc] at h9; exact h9)) (by simp [Value.oneCell']) (by unfold maxLen; omega) (by first | omega | (simp; omega)) (by first | omega | (simp; omega)) ?_; intro v5 w5 h5 gr5 _)
      have b5 := (b3.alloc b3.size (.cells #[.int .i64 B] 3)).trans (grown_below (o3.alloc (.cells #[.int .i64 B] 3)) gr5 (by simp; omega))
      have bx5 := (bx.alloc (.cells #[.int .i64 B] 3)).kept gr5 (own_box (o3.alloc (.cells #[.int .i64 B] 3)) (bx.alloc (.cells #[.int .i64 B] 3)) (by decide))
      rw [intCells_snoc] at h5
      clear o3 b3 bx zx gr5 hb3 hb2 ho
      generalize W2.heap.size = gx at *
      go_loopw [8, 12] (fun lv kv W => ∃ k : Nat, k ≤ 16 ∧ kv = .int .i64 k ∧ ∃ r, Hid (Pn.reachIn D L B k = (r, 0)) ∧ W.ownsRow V.heap.size 3 1 lv (pre.length + 1 + r.length) (intCells (pre ++ B :: r)) ∧ Below V.heap.size V W ∧ Blk W gx 32 #[.int .i64 1, .int .i64 B]) (fun _ kv _ => 16 - (intOf kv).toNat)
      case atStart => exact ⟨0, Nat.zero_le _, rfl, [], hid rfl, h5, b5, bx5⟩
      case round =>
        obtain ⟨k, hk, rfl, r, hr, ho, hb, bx⟩ := hrel
        have hbw := HBV.out.trans (hb.mono hsV)
        have xk3 := blk5 (x.below hb x.lt)
        have zk3 := blk2 (z.below hb z.lt)
        have zx := blk2 bx
        clear h5 b5 bx5
        by_cases hkt : k < 16
        · have hrl : r.length ≤ k := by have h9 := Pn.reachIn_len (D := D) (L := L) B k; rw [hr.out] at h9; exact h9
          have hc := hget _ hbw B (k : Int)
          have hsm := Pn.tabGet_small D L B (k : Int)
          have Hat := hid (Pn.reachIn_next hr.out)
          generalize Pn.tabGet D L B (k : Int) = E at *
          obtain ⟨⟨K2, A3⟩, e3⟩ := E
          simp only at hc Hat hsm
          obtain ⟨q1, q2, q3, q4⟩ := hsm
          go_wp2_with fail
          go_at_call 69
          refine hc.mono ?_
          rintro e W6 ⟨rfl, hb6⟩
          have hb7 := (Below.refl W6.heap.size W6).alloc (Nat.le_refl _) (.cells #[.int .i64 K2, .int .i64 A3] 32)
          have byy := Blk.new W6 32 #[.int .i64 K2, .int .i64 A3]
          have o7 := (own_below ho hb6).alloc (.cells #[.int .i64 K2, .int .i64 A3] 32)
          have b7 := hb.trans ((bt hb6 hb7).mono hb.size)
          have bx7 := (bx.below hb6 bx.lt).alloc (.cells #[.int .i64 K2, .int .i64 A3] 32)
          have zy := blk2 byy
          clear hc xk3 zk3 zx
          by_cases he : e3 = 0
          case neg =>
            have n1 : (e3 != 0) = true := by simpa using he
            have HE := hid (show Pn.ptReach D L l1 = ([], e3) by
              have h1 : Pn.reachIn D L B (k + 1) = (r, e3) := by rw [Hat.out, if_pos he]
              have h2 : Pn.reachIn D L B 16 = (r, e3) := by rw [Pn.reachIn_stop (n := k + 1) (by rw [h1]; exact he) 16 (by omega), h1]
              have hr : Pn.reachAt D L l1 i = (B :: r, e3) := by rw [HatB.out, h2]
              have h9 := Pn.reachN_end hlt hpre.out (by rw [hr]; exact he)
              rw [hr] at h9
              rw [Pn.ptReach, h9, if_pos he])
            go_wp2_with fail
            refine bodyPost_ret (v := .tuple #[.slice none 0 0, .int .i64 e3]) (by simp [results, Tryz.results26, go_sem]) rfl ?_
            rw [HE.out]
            exact ⟨⟨_, rfl, World.ownsRow_nil _ _ _ _⟩, HBV.out.trans (b7.mono hsV)⟩
          subst he
          replace Hat := hid (Hat.out.trans (if_neg (by simp)))
          by_cases hK1 : K2 = 1
          · subst hK1
            have Hn := hid (show Pn.reachIn D L B (k + 1) = (r ++ [A3], 0) by rw [Hat.out, if_pos rfl])
            have l7 := b7.size
            simp only [World.size_alloc] at l7
            clear Hat
            go_wp2_with (at_builtin; refine wpList_append_own _ rfl _ _ 23 rfl V.heap.size 3 i1 (.int .i64 0) 1 8 Tryz.underlying23 hi1 hy0 hy1 hy2 rfl (by decide) _ _ _ rfl (o7.alloc _) ⟨W6.heap.size + 1, 0, none⟩ 1 1 [.int .i64 A3] rfl rfl (World.news_of_block (by have h9 := Blk.new (W6.alloc (.cells #[.int .i64 1, .int .i64 A3] 32)) 3 #[.int .i64 A3]; rw [World.size_alloc] at h9; exact h9)) (by simp [Value.oneCell']) (by unfold maxLen; omega) (by first | omega | (simp; omega)) (by first | omega | (simp; omega)) ?_; intro v8 w8 h8 gr8 _)
            have b8 := (b7.alloc b7.size (.cells #[.int .i64 A3] 3)).trans (grown_below (o7.alloc (.cells #[.int .i64 A3] 3)) gr8 (by simp; omega))
            have bx8 := (bx7.alloc (.cells #[.int .i64 A3] 3)).kept gr8 (own_box (o7.alloc (.cells #[.int .i64 A3] 3)) (bx7.alloc (.cells #[.int .i64 A3] 3)) (by decide))
            rw [intCells_snoc, List.append_assoc, List.cons_append] at h8
            go_roundw
            case rel => exact ⟨k + 1, by omega, by go_num, r ++ [A3], Hn, by rw [List.length_append, List.length_singleton]; exact h8, b8, bx8⟩
            case measure => simp [intOf]; omega
          · have nK1 : (K2 == 1) = false := by simpa using hK1
            have Hn := hid (show Pn.reachIn D L B (k + 1) = (r, 0) by rw [Hat.out, if_neg hK1])
            clear Hat
            go_wp2_with fail
            go_roundw
            case rel => exact ⟨k + 1, by omega, by go_num, r, Hn, o7, b7, bx7⟩
            case measure => simp [intOf]; omega
        · obtain rfl : k = 16 := by omega
          have Hn := hid (show Pn.reachN D L l1 (i + 1) = (pre ++ B :: r, 0) by
            have hr2 : Pn.reachAt D L l1 i = (B :: r, 0) := by rw [HatB.out, hr.out]
            rw [Pn.reachN_next hpre.out, hr2])
          have e9 : pre.length + 1 + r.length = (pre ++ B :: r).length := by rw [List.length_append, List.length_cons]; omega
          rw [e9] at ho
          go_wp2_with fail
          go_roundw
          case rel => exact ⟨i + 1, by omega, by go_num, _, Hn, ho, hb⟩
          case measure => simp [intOf]; omega
    · obtain rfl : i = 4 := by omega
      obtain ⟨Al, cl, rfl, _⟩ := own_slice ho
      have HE := hid (show Pn.ptReach D L l1 = (pre, 0) by rw [Pn.ptReach, hpre.out, if_neg (by simp)])
      go_wp2_with fail
      refine bodyPost_ret (v := .tuple #[.slice Al pre.length cl, .int .i64 0]) (by simp [results, Tryz.results26, go_sem]) rfl ?_
      rw [HE.out]
      exact ⟨⟨_, rfl, own_base ho hsV⟩, hbw⟩
end Go.Proofs.YtplgmlcoeehnfaaGreat
set_option linter.unusedVariables false
namespace Go.Proofs.YtplgmlcoeehnfaaGreat
open Go.RowKit Go.Shelf
attribute [local go_sem] bs_mk bs_append bs_extract bs_size bs_toList bs_get
end Go.Proofs.YtplgmlcoeehnfaaGreat
