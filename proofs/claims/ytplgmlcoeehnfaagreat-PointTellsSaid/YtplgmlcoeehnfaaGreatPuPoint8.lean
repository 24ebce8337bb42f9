/- Package point: the clusters that a first table reaches, one by one. -/
import Derived.Test.YtplgmlcoeehnfaaGreatPuPointsB
import Derived.Test.YtplgmlcoeehnfaaGreatPuRangeG
set_option linter.unusedVariables false
namespace Go.Proofs.YtplgmlcoeehnfaaGreat
open Go.RowKit Go.Shelf
attribute [local go_sem] bs_mk bs_append bs_extract bs_size bs_toList bs_get Oper.semAt_some
namespace Pn
theorem reachN_stop {D : Dk} {L : Pn} {l1 : Int} {n : Nat} (h : (reachN D L l1 n).2 ≠ 0) : ∀ m, n ≤ m → reachN D L l1 m = reachN D L l1 n := by
  intro m hm
  induction m with
  | zero => obtain rfl : n = 0 := by omega
            rfl
  | succ m ih =>
    rcases Nat.lt_or_eq_of_le hm with hlt | rfl
    · have e := ih (by omega)
      have e2 : reachN D L l1 (m + 1) = if (reachN D L l1 m).2 ≠ 0 then reachN D L l1 m else ((reachN D L l1 m).1 ++ (reachAt D L l1 m).1, (reachAt D L l1 m).2) := rfl
      rw [e2, e, if_pos h]
    · rfl
theorem reachIn_stop {D : Dk} {L : Pn} {t : Int} {n : Nat} (h : (reachIn D L t n).2 ≠ 0) : ∀ m, n ≤ m → reachIn D L t m = reachIn D L t n := by
  intro m hm
  induction m with
  | zero => obtain rfl : n = 0 := by omega
            rfl
  | succ m ih =>
    rcases Nat.lt_or_eq_of_le hm with hlt | rfl
    · have e := ih (by omega)
      have e2 : reachIn D L t (m + 1) = if (reachIn D L t m).2 ≠ 0 then reachIn D L t m else if (tabGet D L t m).2 ≠ 0 then ((reachIn D L t m).1, (tabGet D L t m).2)
        else if (tabGet D L t m).1.1 = 1 then ((reachIn D L t m).1 ++ [(tabGet D L t m).1.2], 0) else ((reachIn D L t m).1, 0) := rfl
      rw [e2, e, if_pos h]
    · rfl
theorem reachN_next {D : Dk} {L : Pn} {l1 : Int} {n : Nat} {xs : List Int} (h : reachN D L l1 n = (xs, 0)) : reachN D L l1 (n + 1) = (xs ++ (reachAt D L l1 n).1, (reachAt D L l1 n).2) := by
  have e : reachN D L l1 (n + 1) = if (reachN D L l1 n).2 ≠ 0 then reachN D L l1 n else ((reachN D L l1 n).1 ++ (reachAt D L l1 n).1, (reachAt D L l1 n).2) := rfl
  rw [e, h, if_neg (by simp)]
theorem reachIn_next {D : Dk} {L : Pn} {t : Int} {n : Nat} {xs : List Int} (h : reachIn D L t n = (xs, 0)) : reachIn D L t (n + 1) = if (tabGet D L t n).2 ≠ 0 then (xs, (tabGet D L t n).2) else if (tabGet D L t n).1.1 = 1 then (xs ++ [(tabGet D L t n).1.2], 0) else (xs, 0) := by
  have e : reachIn D L t (n + 1) = if (reachIn D L t n).2 ≠ 0 then reachIn D L t n else if (tabGet D L t n).2 ≠ 0 then ((reachIn D L t n).1, (tabGet D L t n).2)
    else if (tabGet D L t n).1.1 = 1 then ((reachIn D L t n).1 ++ [(tabGet D L t n).1.2], 0) else ((reachIn D L t n).1, 0) := rfl
  rw [e, h, if_neg (by simp)]
theorem reachN_end {D : Dk} {L : Pn} {l1 : Int} {n : Nat} (hn : n < 4) {xs : List Int} (h : reachN D L l1 n = (xs, 0)) (he : (reachAt D L l1 n).2 ≠ 0) : (reachN D L l1 4).2 = (reachAt D L l1 n).2 := by
  have e := reachN_next h
  rw [reachN_stop (n := n + 1) (by rw [e]; exact he) 4 (by omega), e]
end Pn
theorem no_undef {b : Bool} (h : some undef = some (Value.bool b)) : False := by cases h
def kEnc (k : Int) : Array Value := #[.int .i64 k]
/-- What a caller's round keeps: the named blocks, what lies below, and all boxes of entries. -/
def KeepE (B0 : Nat) (bs : List Nat) (A B : World) : Prop := KeepB B0 bs A B ∧ ∀ b cs, Blk A b 32 cs → Blk B b 32 cs
theorem KeepE.trans {B0 : Nat} {bs : List Nat} {A B C : World} (h : KeepE B0 bs A B) (k : KeepE B0 bs B C) : KeepE B0 bs A C := ⟨h.1.trans k.1, fun b cs x => k.2 b cs (h.2 b cs x)⟩
/-- What the iterator tells at its end: the worker's error, and what was handed out. -/
def ReachEnd (D : Dk) (dp dq : Pl) (g h : Int) (X : Pn) (p q : Pl) (l1 : Int) (G : Nat) (xs : List Int) (W : World) : Prop :=
  ∃ e, Blk W G 120 #[.slice p.a X.targets.length p.c, .slice q.a X.data.length q.c, .int .i64 g, .int .i64 h, .string (bs D.data), .slice dp.a D.cache.length dp.c, .int .i64 D.fuse, .bool D.off, .slice dq.a D.bad.length dq.c, .int .i64 e] ∧ (Pn.reachN D X l1 4).2 = e ∧ (e = 0 → (Pn.reachN D X l1 4).1 = xs)
set_option maxRecDepth 100000 in
set_option maxHeartbeats 2000000 in
theorem reached_stops (n : Nat) (hn : 1 ≤ n) (D : Dk) (dp dq : Pl) (g h : Int) (X : Pn) (p q : Pl) (l1 : Int) (G B1 B2 : Nat) (t1 t2 : TypeId) (w0 w : World) (hD : IsDk w0 D dp dq) (hX : IsPn w0 X p q) (hf : D.fit = true) (hXf : X.Fit) (hb0 : Below w0.heap.size w0 w) (hG0 : w0.heap.size ≤ G)
    (bG : Blk w G 120 #[.slice p.a X.targets.length p.c, .slice q.a X.data.length q.c, .int .i64 g, .int .i64 h, .string (bs D.data), .slice dp.a D.cache.length dp.c, .int .i64 D.fuse, .bool D.off, .slice dq.a D.bad.length dq.c, .int .i64 0])
    (b1 : Blk w B1 t1 #[.pointer (some ⟨G, 0, none⟩)]) (b2 : Blk w B2 t2 #[.int .i64 l1]) (n1 : B1 ≠ G) (n2 : B2 ≠ G) :
    SeqG 0 G Fence.wide n Tryz.prog 129 #[.pointer (some ⟨B1, 0, none⟩), .pointer (some ⟨B2, 0, none⟩)] kEnc (KeepE w0.heap.size [B1, B2, G])
      (ReachEnd D dp dq g h X p q l1 G) (fun _ => True) 68 w := by
  intro lp J Jx W hW hJ hJx hGJ hGJx hY h0J
  have h1 : 1 ≤ n := hn
  have HY := hid hY
  have HK : ∀ V : World, Below w0.heap.size w0 V → ∀ e : Int, Blk V G 120 #[.slice p.a X.targets.length p.c, .slice q.a X.data.length q.c, .int .i64 g, .int .i64 h, .string (bs D.data), .slice dp.a D.cache.length dp.c, .int .i64 D.fuse, .bool D.off, .slice dq.a D.bad.length dq.c, .int .i64 e] → WkAt V G D dp dq g h X p q e :=
    fun V hb e hB => ⟨hB, hD.below hb, hX.below hb, hD.apart hG0, hX.apart hG0, hXf⟩
  have bGW := bG.below hW bG.lt
  have b1W := b1.below hW b1.lt
  have b2W := b2.below hW b2.lt
  have hbW := hb0.trans (hW.mono hb0.size)
  have HN := hid (fun (i : Nat) (xs : List Int) (h : Pn.reachN D X l1 i = (xs, 0)) => show xs.length ≤ 17 * i by have := (Pn.reachN_small (D := D) (L := X) l1 i).2; rw [h] at this; exact this)
  clear hY hD hX bG b1 b2 hb0 hXf
  refine callsIn_of_wp Tryz.func129 rfl trivial ?_ rfl
  simp only [Tryz.ntmps129, List.size_toArray, List.length_cons, List.length_nil, Nat.reduceAdd, Nat.reduceSub, Array.replicate_succ, Array.replicate_zero, List.push_toArray, List.append_toArray, List.nil_append, List.cons_append]
  gi_wp2
  gi_loopw [8] (fun x V => ∃ i : Nat, i ≤ 4 ∧ x = .int .i64 i ∧ (∃ pre, Hid (Pn.reachN D X l1 i = (pre, 0)) ∧ J pre V) ∧ Below w0.heap.size w0 V ∧ WkAt V G D dp dq g h X p q 0 ∧ Blk V B1 t1 #[.pointer (some ⟨G, 0, none⟩)] ∧ Blk V B2 t2 #[.int .i64 l1] ∧ Hid (W.heap.size ≤ V.heap.size)) (fun x _ => 4 - (intOf x).toNat)
  case atStart => exact ⟨0, Nat.zero_le _, rfl, ⟨[], hid rfl, h0J⟩, hbW, HK _ hbW 0 bGW, b1W, b2W, hid (Nat.le_refl _)⟩
  case round =>
    obtain ⟨i, hi, rfl, ⟨pre, hpre, hJm⟩, hbV, kV, b1V, b2V, hsz⟩ := hrel
    clear bGW b1W b2W h0J hbW
    have z1 := blk1 b1V
    have z2 := blk1 b2V
    by_cases hlt : i < 4
    · have c0 : True := trivial
      gi_wp2_with fail
      refine ⟨trivial, (callsIn_wide.2 (pt_get_okS D dp dq g h X p q G wr hf kV l1 (i : Int))).mono ?_⟩
      rintro e W2 ⟨rfl, hg2, k2⟩
      have hJ2 := hGJ _ _ _ hJm hg2
      have hsm := Pn.tabGet_small D X l1 (i : Int)
      have Hat := hid (show Pn.reachAt D X l1 i = if (Pn.tabGet D X l1 i).2 ≠ 0 then ([], (Pn.tabGet D X l1 i).2) else if (Pn.tabGet D X l1 i).1.1 = 2 then ([], 14) else if (Pn.tabGet D X l1 i).1.1 = 0 then ([], 0)
        else ((Pn.tabGet D X l1 i).1.2 :: (Pn.reachIn D X (Pn.tabGet D X l1 i).1.2 16).1, (Pn.reachIn D X (Pn.tabGet D X l1 i).1.2 16).2) from rfl)
      generalize Pn.tabGet D X l1 (i : Int) = E at *
      obtain ⟨⟨K, B⟩, e2⟩ := E
      simp only at k2 Hat hsm
      replace k2 : WkAt W2 G D dp dq g h X p q e2 := k2
      obtain ⟨s1, s2, s3, s4⟩ := hsm
      have hb3 := (Below.refl W2.heap.size W2).alloc (Nat.le_refl _) (.cells #[.int .i64 K, .int .i64 B] 32)
      have bx := Blk.new W2 32 #[.int .i64 K, .int .i64 B]
      have k3 := k2.below hb3
      have b1T := (b1V.grown hg2 n1).below hb3 (b1V.grown hg2 n1).lt
      have b2T := (b2V.grown hg2 n2).below hb3 (b2V.grown hg2 n2).lt
      have hJ3 := hid (OwnFrom.later hJ hJ2 hb3)
      have hbT := (hbV.trans (grown_belowG hg2 hG0 hbV.size)).trans (hb3.mono (Nat.le_trans hbV.size hg2.size))
      have hszT := hid (Nat.le_trans (Nat.le_trans hsz.out hg2.size) hb3.size)
      have nx : W2.heap.size ≠ G := Nat.ne_of_gt k2.box.lt
      have Hsx := hid (show W.heap.size ≤ W2.heap.size from Nat.le_trans hsz.out hg2.size)
      have zx := blk2 bx
      have z1' := blk1 b1T
      have z2' := blk1 b2T
      have zk := blk10 k3.box
      have zf := k3.box.frozen
      clear hJ2 hJm z1 z2 kV hg2 b1V b2V hbV k2 hsz
      by_cases he : e2 = 0
      case neg =>
        have n2' : (e2 != 0) = true := by simpa using he
        have n3' : (e2 == 0) = false := by simpa using he
        have He := hid (show (Pn.reachN D X l1 4).2 = e2 by
          have hr : Pn.reachAt D X l1 i = ([], e2) := by rw [Hat.out, if_pos he]
          have := Pn.reachN_end hlt hpre.out (by rw [hr]; exact he)
          rw [hr] at this; exact this)
        gi_wp2_with fail
        any_goals (exfalso; exact no_undef (by assumption))
        refine ⟨fun _ h => (nomatch h), ?_⟩
        gi_wp2_with fail
        refine bodyPost_ret (results_none rfl _ _ _) rfl ?_
        exact ⟨⟨_, rfl⟩, .inl ⟨pre, ⟨e2, k3.box, He.out, fun h => absurd h he⟩, hJ3.out⟩⟩
      subst he
      replace Hat := hid (Hat.out.trans (if_neg (by simp)))
      by_cases hK2 : K = 2
      · subst hK2
        have He := hid (show (Pn.reachN D X l1 4).2 = 14 by
          have hr : Pn.reachAt D X l1 i = ([], 14) := by rw [Hat.out, if_pos rfl]
          have := Pn.reachN_end hlt hpre.out (by rw [hr]; exact (by decide : (14 : Int) ≠ 0))
          rw [hr] at this; exact this)
        have kE := k3.err 14
        have zE := blk10 kE.box
        have hJ4 := hid (hGJ _ _ _ hJ3.out (grown_set (grown_refl _ G) 9 (.int .i64 14)))
        gi_wp2_with fail
        any_goals (exfalso; exact no_undef (by assumption))
        refine ⟨fun _ h => (nomatch h), ?_⟩
        gi_wp2_with fail
        refine bodyPost_ret (results_none rfl _ _ _) rfl ?_
        exact ⟨⟨_, rfl⟩, .inl ⟨pre, ⟨14, kE.box, He.out, fun h => absurd h (by decide)⟩, hJ4.out⟩⟩
      replace Hat := hid (Hat.out.trans (if_neg hK2))
      have nK2 : (K == 2) = false := by simpa using hK2
      by_cases hK0 : K = 0
      · subst hK0
        have Hn := hid (show Pn.reachN D X l1 (i + 1) = (pre, 0) by
          have hr : Pn.reachAt D X l1 i = ([], 0) := by rw [Hat.out, if_pos rfl]
          rw [Pn.reachN_next hpre.out, hr, List.append_nil])
        clear Hat hK2 hpre nK2
        gi_wp2_with fail
        refine ⟨fun _ h => (nomatch h), ?_⟩
        gi_wp2_with fail
        generalize W2.alloc (.cells #[.int .i64 0, .int .i64 B] 32) = W3 at *
        gi_loopw [6] (fun x V => x = .int .i64 0 ∧ V = W3) (fun _ _ => 0)
        case atStart => exact ⟨rfl, rfl⟩
        case round =>
          obtain ⟨rfl, rfl⟩ := hrel
          gi_wp2_with fail
          go_roundw
          case rel => exact ⟨i + 1, by omega, by go_num, ⟨pre, Hn, hJ3.out⟩, hbT, k3, b1T, b2T, hszT⟩
          case measure => simp [intOf]; omega
      have hK1 : K = 1 := by omega
      subst hK1
      have HatB := hid (show Pn.reachAt D X l1 i = (B :: (Pn.reachIn D X B 16).1, (Pn.reachIn D X B 16).2) by rw [Hat.out, if_neg hK0])
      clear Hat hK2 hK0 nK2
      obtain ⟨fn, tmps, assign, body, hyy, hR⟩ := HY.out pre B _ hJ3.out (by have := HN.out i pre hpre.out; omega) (by have := hszT.out; omega)
      simp only [kEnc] at hyy
      gi_wp2_with fail
      refine hR.mono ?_
      rintro e W4 (⟨rfl, hJ4, hkf, _, hk4⟩ | ⟨rfl, hJx4, _⟩)
      rotate_left
      · have HJx := hid hJx4
        clear hJx4 hR hyy
        gi_wp2_with fail
        refine bodyPost_ret (results_none rfl _ _ _) rfl ?_
        exact ⟨⟨_, rfl⟩, .inr ⟨_, trivial, HJx.out⟩⟩
      have HJ4 := hid hJ4
      have b1U := b1T.at_ (hk4.1.at_ B1 (by simp))
      have b2U := b2T.at_ (hk4.1.at_ B2 (by simp))
      have bxU := hk4.2 _ _ bx
      have hbU := hbT.trans hk4.1.below
      have kU := HK _ hbU 0 (k3.box.at_ (hk4.1.at_ G (by simp)))
      have hszU := hid (Nat.le_trans hszT.out hkf.size)
      clear hJ4 hR hyy hkf hk4 b1T b2T bx hbT k3 hszT hb3 zx z1' z2' zk zf
      generalize W2.heap.size = gx at *
      gi_wp2_with fail
      gi_loopw [6] (fun x V => ∃ k : Nat, k ≤ 16 ∧ x = .int .i64 k ∧ (∃ r, Hid (Pn.reachIn D X B k = (r, 0)) ∧ J (pre ++ B :: r) V) ∧ Below w0.heap.size w0 V ∧ WkAt V G D dp dq g h X p q 0 ∧ Blk V B1 t1 #[.pointer (some ⟨G, 0, none⟩)] ∧ Blk V B2 t2 #[.int .i64 l1] ∧ Blk V gx 32 #[.int .i64 1, .int .i64 B] ∧ Hid (W.heap.size ≤ V.heap.size)) (fun x _ => 16 - (intOf x).toNat)
      case atStart => exact ⟨0, Nat.zero_le _, rfl, ⟨[], hid rfl, HJ4.out⟩, hbU, kU, b1U, b2U, bxU, hszU⟩
      case round =>
        obtain ⟨k, hk, rfl, ⟨r, hr, hJm⟩, hbV, kV, b1V, b2V, bxV, hsz⟩ := hrel
        clear b1U b2U bxU hbU kU hszU HJ4
        have z1 := blk1 b1V
        have z2 := blk1 b2V
        have zx := blk2 bxV
        by_cases hkt : k < 16
        · have c0 : True := trivial
          gi_wp2_with fail
          refine ⟨trivial, (callsIn_wide.2 (pt_get_okS D dp dq g h X p q G _ hf kV B (k : Int))).mono ?_⟩
          rintro e W5 ⟨rfl, hg2, k2⟩
          have hJ2 := hGJ _ _ _ hJm hg2
          have hsm := Pn.tabGet_small D X B (k : Int)
          have Hat := hid (Pn.reachIn_next hr.out)
          generalize Pn.tabGet D X B (k : Int) = E at *
          obtain ⟨⟨K2, A2⟩, e3⟩ := E
          simp only at k2 Hat hsm
          replace k2 : WkAt W5 G D dp dq g h X p q e3 := k2
          obtain ⟨q1, q2, q3, q4⟩ := hsm
          have hb3 := (Below.refl W5.heap.size W5).alloc (Nat.le_refl _) (.cells #[.int .i64 K2, .int .i64 A2] 32)
          have by_ := Blk.new W5 32 #[.int .i64 K2, .int .i64 A2]
          have k3 := k2.below hb3
          have b1T := (b1V.grown hg2 n1).below hb3 (b1V.grown hg2 n1).lt
          have b2T := (b2V.grown hg2 n2).below hb3 (b2V.grown hg2 n2).lt
          have bxT := (bxV.grown hg2 nx).below hb3 (bxV.grown hg2 nx).lt
          have hJ3 := hid (OwnFrom.later hJ hJ2 hb3)
          have hbT := (hbV.trans (grown_belowG hg2 hG0 hbV.size)).trans (hb3.mono (Nat.le_trans hbV.size hg2.size))
          have hszT := hid (Nat.le_trans (Nat.le_trans hsz.out hg2.size) hb3.size)
          have zy := blk2 by_
          have z1' := blk1 b1T
          have z2' := blk1 b2T
          have zx' := blk2 bxT
          have zk := blk10 k3.box
          have zf := k3.box.frozen
          clear hJ2 hJm z1 z2 zx kV hg2 b1V b2V bxV hbV k2 hsz
          by_cases he : e3 = 0
          case neg =>
            have n2' : (e3 != 0) = true := by simpa using he
            have He := hid (show (Pn.reachN D X l1 4).2 = e3 by
              have h1 : Pn.reachIn D X B (k + 1) = (r, e3) := by rw [Hat.out, if_pos he]
              have h2 : Pn.reachIn D X B 16 = (r, e3) := by rw [Pn.reachIn_stop (n := k + 1) (by rw [h1]; exact he) 16 (by omega), h1]
              have hr : Pn.reachAt D X l1 i = (B :: r, e3) := by rw [HatB.out, h2]
              have := Pn.reachN_end hlt hpre.out (by rw [hr]; exact he)
              rw [hr] at this; exact this)
            gi_wp2_with fail
            any_goals (exfalso; exact no_undef (by assumption))
            refine ⟨fun _ h => (nomatch h), ?_⟩
            gi_wp2_with fail
            refine bodyPost_ret (results_none rfl _ _ _) rfl ?_
            exact ⟨⟨_, rfl⟩, .inl ⟨_, ⟨e3, k3.box, He.out, fun h => absurd h he⟩, hJ3.out⟩⟩
          subst he
          replace Hat := hid (Hat.out.trans (if_neg (by simp)))
          by_cases hK1 : K2 = 1
          · subst hK1
            have Hn := hid (show Pn.reachIn D X B (k + 1) = (r ++ [A2], 0) by rw [Hat.out, if_pos rfl])
            have hlen := hid (show (pre ++ B :: r).length < 68 by
              have h1 := HN.out i pre hpre.out
              have h2 := Pn.reachIn_len (D := D) (L := X) B k
              rw [hr.out] at h2
              have h2 : r.length ≤ k := h2
              rw [List.length_append, List.length_cons]; omega)
            obtain ⟨fn, tmps, assign, body, hyy, hR⟩ := HY.out (pre ++ B :: r) A2 _ hJ3.out hlen.out (by have := hszT.out; omega)
            simp only [kEnc] at hyy
            clear Hat hlen hr
            gi_wp2_with fail
            refine hR.mono ?_
            rintro e W6 (⟨rfl, hJ4, hkf, _, hk4⟩ | ⟨rfl, hJx4, _⟩)
            rotate_left
            · have HJx := hid hJx4
              clear hJx4 hR hyy
              gi_wp2_with fail
              refine bodyPost_ret (results_none rfl _ _ _) rfl ?_
              exact ⟨⟨_, rfl⟩, .inr ⟨_, trivial, HJx.out⟩⟩
            have HJ4 := hid (show J (pre ++ B :: (r ++ [A2])) W6 by rw [← List.cons_append, ← List.append_assoc]; exact hJ4)
            have b1U := b1T.at_ (hk4.1.at_ B1 (by simp))
            have b2U := b2T.at_ (hk4.1.at_ B2 (by simp))
            have bxU := hk4.2 _ _ bxT
            have hbU := hbT.trans hk4.1.below
            have kU := HK _ hbU 0 (k3.box.at_ (hk4.1.at_ G (by simp)))
            have hszU := hid (Nat.le_trans hszT.out hkf.size)
            clear hJ4 hR hyy hkf hk4 b1T b2T bxT hbT k3 hszT hb3 zx' z1' z2' zk zf zy by_
            gi_wp2_with fail
            go_roundw
            case rel => exact ⟨k + 1, by omega, by go_num, ⟨_, Hn, HJ4.out⟩, hbU, kU, b1U, b2U, bxU, hszU⟩
            case measure => simp [intOf]; omega
          · have nK1 : (K2 == 1) = false := by simpa using hK1
            have Hn := hid (show Pn.reachIn D X B (k + 1) = (r, 0) by rw [Hat.out, if_neg hK1])
            clear Hat hr
            gi_wp2_with fail
            refine ⟨fun _ h => (nomatch h), ?_⟩
            gi_wp2_with fail
            go_roundw
            case rel => exact ⟨k + 1, by omega, by go_num, ⟨_, Hn, hJ3.out⟩, hbT, k3, b1T, b2T, bxT, hszT⟩
            case measure => simp [intOf]; omega
        · obtain rfl : k = 16 := by omega
          have Hn := hid (show Pn.reachN D X l1 (i + 1) = (pre ++ B :: r, 0) by
            have hr2 : Pn.reachAt D X l1 i = (B :: r, 0) := by rw [HatB.out, hr.out]
            rw [Pn.reachN_next hpre.out, hr2])
          gi_wp2_with fail
          go_roundw
          case rel => exact ⟨i + 1, by omega, by go_num, ⟨_, Hn, hJm⟩, hbV, kV, b1V, b2V, hsz⟩
          case measure => simp [intOf]; omega
    · obtain rfl : i = 4 := by omega
      gi_wp2
      go_end0
      exact ⟨⟨_, rfl⟩, .inl ⟨pre, ⟨0, kV.box, by rw [hpre.out], fun _ => by rw [hpre.out]⟩, hJm⟩⟩
end Go.Proofs.YtplgmlcoeehnfaaGreat
