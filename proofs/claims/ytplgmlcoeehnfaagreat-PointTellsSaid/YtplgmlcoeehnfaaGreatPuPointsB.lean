/- Package point: the guest's own second table. Package point: Own and Point. -/
import Derived.Test.YtplgmlcoeehnfaaGreatPuPointsA
import Derived.Test.YtplgmlcoeehnfaaGreatPuPointPlain
set_option linter.unusedVariables false
namespace Go.Proofs.YtplgmlcoeehnfaaGreat
open Go.RowKit Go.Shelf
attribute [local go_sem] bs_mk bs_append bs_extract bs_size bs_toList bs_get
theorem WkAt.err {W : World} {G : Nat} {D : Dk} {dp dq : Pl} {g h : Int} {X : Pn} {p q : Pl} {e : Int} (k : WkAt W G D dp dq g h X p q e) (e' : Int) : WkAt (W.setCell ⟨G, 9, none⟩ (.int .i64 e')) G D dp dq g h X p q e' :=
  ⟨k.box.set 9 _, k.dk.off k.od _, k.pn.off k.op _, k.od, k.op, k.fit⟩
def RetOwn (w : World) (G : Nat) (D : Dk) (dp dq : Pl) (g h : Int) (X : Pn) (p q : Pl) (R : Pn × Int × Int) (x : Ending) (w' : World) : Prop :=
  ∃ k : Int, x = .returned (.int .i64 k) ∧ w.grownBy w' (some G) ∧ ∃ Y p' q' e', WkAt w' G D dp dq g h Y p' q' e' ∧ (∀ b, b < w.heap.size → PnOff b X p q → PnOff b Y p' q') ∧ e' = R.2.2 ∧ (e' = 0 → Y = R.1 ∧ k = R.2.1)
set_option maxRecDepth 100000 in
set_option maxHeartbeats 1000000 in
theorem pt_own_no (D : Dk) (dp dq : Pl) (g h : Int) (X : Pn) (p q : Pl) (G : Nat) (w : World) (hW : WkAt w G D dp dq g h X p q 0) (u : Int) (hu : u < 0 ∨ g ≤ u) :
    Calls Tryz.prog 64 #[.pointer (some ⟨G, 0, none⟩), .int .i64 u] w fun x w' => RetOwn w G D dp dq g h X p q (Pn.ptOwn D X g h u) x w' := by
  have Hw := hid (show Pn.ptOwn D X g h u = (X, 0, 10) by rw [Pn.ptOwn, if_pos hu])
  have hlt := hW.box.lt
  have hB := Below.refl w.heap.size w
  have b0 := Blk.new w 118 #[.pointer (some ⟨G, 0, none⟩)]
  have k0 := blk1 b0
  have hB_1 := hB.alloc hB.size (.cells #[.pointer (some ⟨G, 0, none⟩)] 118)
  have kE := (hW.err 10).below ((Below.refl _ _).alloc (Nat.le_refl _) (.cells #[.pointer (some ⟨G, 0, none⟩)] 118))
  have gE := grown_then (grown_set (grown_refl w G) 9 (.int .i64 10)) ((Below.refl _ _).alloc (Nat.le_refl _) (.cells #[.pointer (some ⟨G, 0, none⟩)] 118))
  have kz := blk10 hW.box
  have fz := hW.box.frozen
  by_cases h1 : u < 0
  · have d1 : decide (u < 0) = true := decide_eq_true h1
    clear h1 hu
    go_enter Tryz.func64, Tryz.ntmps64
    go_wp2_with fail
    go_ret
    exact ⟨0, rfl, gE, X, p, q, 10, kE, fun _ _ h => h, by rw [Hw.out], fun h => absurd h (by decide)⟩
  · have d1 : decide (u < 0) = false := decide_eq_false h1
    have d2 : decide (g ≤ u) = true := decide_eq_true (by omega)
    clear h1 hu
    go_enter Tryz.func64, Tryz.ntmps64
    go_wp2_with fail
    go_ret
    exact ⟨0, rfl, gE, X, p, q, 10, kE, fun _ _ h => h, by rw [Hw.out], fun h => absurd h (by decide)⟩
set_option maxRecDepth 100000 in
set_option maxHeartbeats 1000000 in
theorem pt_own_in (D : Dk) (dp dq : Pl) (g : Int) (h : Nat) (X : Pn) (p q : Pl) (G : Nat) (w : World) (hD : D.fit = true) (hh : h ≤ 256) (hW : WkAt w G D dp dq g h X p q 0) (hg64 : g ≤ 64) (u : Nat) (hu : (u : Int) < g) :
    Calls Tryz.prog 64 #[.pointer (some ⟨G, 0, none⟩), .int .i64 u] w fun x w' => RetOwn w G D dp dq g h X p q (Pn.ptOwn D X g h u) x w' := by
  have Hw := hid (show Pn.ptOwn D X g h u = _ by rw [Pn.ptOwn, if_neg (by omega)])
  have g0 : (0 : Int) ≤ (u : Int) := by omega
  have g1 : (u : Int) < 64 := by omega
  have d1 : decide ((u : Int) < 0) = false := decide_eq_false (by omega)
  have d2 : decide (g ≤ (u : Int)) = false := decide_eq_false (by omega)
  have hrl := Pn.rtGet_lt (D := D) (L := X)
  have HF := hid (fun l f : Int => Pn.ptFresh_err D X h l ((u : Int) / 16) f)
  have HN := hid (fun l : Int => Pn.freshSteps_new D X h l ((u : Int) / 16))
  have HO := hid (fun (l f : Int) (hf : 0 ≤ f) => Pn.freshSteps_old D X h l ((u : Int) / 16) f hf)
  have hlt := hW.box.lt
  have oD : ∀ B, w.heap.size ≤ B → DkOff B D dp dq := fun B hB => hW.dk.apart hB
  have oP : ∀ B, w.heap.size ≤ B → PnOff B X p q := fun B hB => hW.pn.apart hB
  have hB := Below.refl w.heap.size w
  have b0 := Blk.new w 118 #[.pointer (some ⟨G, 0, none⟩)]
  have k0 := blk1 b0
  have hB_1 := hB.alloc hB.size (.cells #[.pointer (some ⟨G, 0, none⟩)] 118)
  have kz0 := blk10 hW.box
  have b1 := Blk.new (w.alloc (.cells #[.pointer (some ⟨G, 0, none⟩)] 118)) 37 #[.int .i64 0, .int .u32 0]
  simp only [World.size_alloc] at b1
  have k1 := blk2 b1
  have k1f := b1.frozen
  have hB_2 := hB_1.alloc hB_1.size (.cells #[.int .i64 0, .int .u32 0] 37)
  have b0_3 := b0.alloc (.cells #[.int .i64 0, .int .u32 0] 37)
  have k0_3 := blk1 b0_3
  go_enter Tryz.func64, Tryz.ntmps64
  go_wp2_with fail
  generalize ((w.alloc (.cells #[.pointer (some ⟨G, 0, none⟩)] 118)).alloc (.cells #[.int .i64 0, .int .u32 0] 37)) = V at hB_2 b0_3 k0_3 b1 k1 k1f ⊢
  clear hB_1 hB b0 k0
  have hB := hB_2
  have b0 := b0_3
  have k0 := k0_3
  clear hB_2 b0_3 k0_3
  have kV := hW.below hB
  have n0 : w.heap.size ≠ G := by omega
  have n1 : w.heap.size + 1 ≠ G := by omega
  have n01 : w.heap.size ≠ w.heap.size + 1 := by omega
  have oD1 := oD (w.heap.size + 1) (by omega)
  have oP1 := oP (w.heap.size + 1) (by omega)
  have hcl := pt_own1 D dp dq g h X p q 0 G V kV hD _ _ b0 _ _ _ _ b1 n1.symm n01 oD1 oP1
  go_at_call 106
  refine (pt_try_ok 107 (.inr (.inr (.inr (.inr (.inr (.inr rfl)))))) #[.pointer (some ⟨w.heap.size, 0, none⟩), .pointer (some ⟨w.heap.size + 1, 0, none⟩)] G (.slice p.a X.targets.length p.c) (.slice q.a X.data.length q.c) (.int .i64 g) (.int .i64 h) (.string (bs D.data)) (.slice dp.a D.cache.length dp.c) (.int .i64 D.fuse) (.bool D.off) (.slice dq.a D.bad.length dq.c) V kV.box
    (Q := fun Y p' q' er W => X = Y ∧ p = p' ∧ q = q' ∧ er = (Pn.rtGet D X).2 ∧ V.grownBy W (some (w.heap.size + 1)) ∧ Blk W (w.heap.size + 1) 37 #[.int .i64 (Pn.rtGet D X).1.1, .int .u32 (Pn.rtGet D X).1.2]) (hcl.mono ?_)).mono ?_
  · rintro e W ⟨rfl, hg, hb⟩
    exact ⟨X, p, q, _, rfl, ⟨rfl, rfl, rfl, rfl, hg, hb⟩, kV.box.grown hg n1.symm⟩
  rintro e W2 ⟨rfl, Y, p', q', er, W, ⟨rfl, rfl, rfl, rfl, hg, hb⟩, rfl⟩
  have kW := kV.grown hg n1.symm oD1 oP1
  have kU := kW.set kW.pn kW.op kW.fit (e' := (Pn.rtGet D X).2)
  have b1U := wkSet_blk hb n1 X p q (Pn.rtGet D X).2
  have b0U := wkSet_blk (b0.grown hg n01) n0 X p q (Pn.rtGet D X).2
  have gU : w.grownBy (wkSet W G X p q (Pn.rtGet D X).2) (some G) := wkSet_grown (grown_through (grown_of hB G) hg (by omega)) _ _ _ _
  generalize wkSet W G X p q (Pn.rtGet D X).2 = U at kU b0U b1U gU ⊢
  clear hcl hb hg kW kV b0 k0 b1 k1 k1f hB W V kz0
  generalize Pn.rtGet D X = E at *
  obtain ⟨⟨l, n⟩, er⟩ := E
  simp only at kU b1U Hw hrl
  have z0 := blk1 b0U
  have z1 := blk2 b1U
  by_cases h1 : er = 0
  case neg =>
    have Hr := hid (show Pn.ptOwn D X g h u = (X, 0, er) by rw [Hw.out, if_pos h1])
    clear Hw HF HN HO
    go_wp2_with fail
    go_at_call 65
    refine (pt_get_no D dp dq g h X p q G U hD er h1 kU (l : Int) ((u : Int) / 16)).mono ?_
    rintro e U2 ⟨rfl, hg2, p2, q2, k2, o2⟩
    have n1' : (er != 0) = true := by simpa using h1
    have hb2 := (Below.refl U2.heap.size U2).alloc (Nat.le_refl _) (.cells #[.int .i64 0, .int .i64 0] 32)
    have b0V := (b0U.grown hg2 n0).below hb2 (b0U.grown hg2 n0).lt
    have kE := k2.below hb2
    have gE := grown_then (grown_trans gU hg2) hb2
    have zE := blk10 kE.box
    have z0' := blk1 b0V
    clear z0 z1
    go_wp2_with fail
    go_ret
    exact ⟨0, rfl, gE, X, p2, q2, er, kE, fun b hb ho => o2 b (Nat.lt_of_lt_of_le hb gU.size) ho, by rw [Hr.out], fun h => absurd h h1⟩
  subst h1
  replace Hw := hid (Hw.out.trans (if_neg (by simp)))
  have hsm := Pn.tabGet_small D X l ((u : Int) / 16)
  go_wp2_with fail
  go_at_call 65
  refine (pt_get_ok D dp dq g h X p q G U hD kU (l : Int) ((u : Int) / 16)).mono ?_
  rintro e U2 ⟨rfl, hg2, p2, q2, k2, o2⟩
  generalize Pn.tabGet D X l ((u : Int) / 16) = E at *
  obtain ⟨⟨K, B⟩, e2⟩ := E
  simp only at k2 Hw hsm
  replace k2 : WkAt U2 G D dp dq g h X p2 q2 e2 := k2
  have b0V := b0U.grown hg2 n0
  have b1V := b1U.grown hg2 n1
  have gV := grown_trans gU hg2
  have bx := Blk.new U2 32 #[.int .i64 K, .int .i64 B]
  have hb2 := (Below.refl U2.heap.size U2).alloc (Nat.le_refl _) (.cells #[.int .i64 K, .int .i64 B] 32)
  have kT := k2.below hb2
  have gT := grown_then gV hb2
  have b0T := b0V.below hb2 b0V.lt
  have b1T := b1V.below hb2 b1V.lt
  have O2 : ∀ b, b < w.heap.size → PnOff b X p q → PnOff b X p2 q2 := fun b hb ho => o2 b (Nat.lt_of_lt_of_le hb gU.size) ho
  have nx : U2.heap.size ≠ G := Nat.ne_of_gt k2.box.lt
  have zT := blk10 kT.box
  have zf := kT.box.frozen
  have z0' := blk1 b0T
  have z1' := blk2 b1T
  have zx := blk2 bx
  clear z0 z1 kU b0U b1U gU hg2 o2 b0V b1V gV
  by_cases h2 : e2 = 0
  case neg =>
    have Hr := hid (show Pn.ptOwn D X g h u = (X, 0, e2) by rw [Hw.out, if_pos h2])
    have n2 : (e2 != 0) = true := by simpa using h2
    go_wp2_with fail
    go_ret
    exact ⟨0, rfl, gT, X, p2, q2, e2, kT, O2, by rw [Hr.out], fun h => absurd h h2⟩
  subst h2
  replace Hw := hid (Hw.out.trans (if_neg (by simp)))
  by_cases hK2 : K = 2
  · subst hK2
    have Hr := hid (show Pn.ptOwn D X g h u = (X, 0, 14) by rw [Hw.out, if_pos rfl])
    have kE2 := kT.err 14
    have gE := grown_set gT 9 (.int .i64 14)
    go_wp2_with fail
    go_ret
    exact ⟨0, rfl, gE, X, p2, q2, 14, kE2, O2, by rw [Hr.out], fun h => absurd h (by decide)⟩
  replace Hw := hid (Hw.out.trans (if_neg hK2))
  have nK2 : (K == 2) = false := by simpa using hK2
  by_cases hK0 : K = 0
  · subst hK0
    have Hr := hid (show Pn.ptOwn D X g h u = Pn.ptFresh D X h l ((u : Int) / 16) (-1) by rw [Hw.out, if_pos rfl])
    have HN1 := hid (HN.out l)
    have HF1 := hid (HF.out l (-1))
    clear hK2 Hw HF HN HO nK2
    go_wp2_with fail
    generalize U2.alloc (.cells #[.int .i64 0, .int .i64 B] 32) = U3 at *
    go_at_call 109
    refine (pt_take_ok D dp dq g h X p2 q2 G U3 hD kT hh 110 (.inl rfl) #[.pointer (some ⟨w.heap.size, 0, none⟩)] (Pn.tabBlank (Pn.alTake D X h).1 (Pn.alTake D X h).2.1) (Pn.tabBlank_fit (Pn.alTake_fit hD kT.fit h) _) (fun W p' q' hg' kW => pt_own2 D dp dq g h _ p' q' 0 G W kW hD _ _ _ (b0T.grown hg' n0))).mono ?_
    rintro e U4 ⟨rfl, hg4, p4, q4, k4, o4⟩
    rw [show (fun _ : Pn => Pn.tabBlank (Pn.alTake D X h).1 (Pn.alTake D X h).2.1) = (fun _ => Pn.tabBlank (Pn.alTake D X h).1 (Pn.alTake D X h).2.1) from rfl] at k4
    have O4 : ∀ b, b < w.heap.size → PnOff b X p q → PnOff b _ p4 q4 := fun b hb ho => o4 b (Nat.lt_of_lt_of_le hb gT.size) (O2 b hb ho)
    have g4 := grown_trans gT hg4
    have b0F := b0T.grown hg4 n0
    have b1F := b1T.grown hg4 n1
    clear o4 hg4 kT gT O2 b0T b1T zT zf z0' z1' zx bx
    generalize hS : (Pn.step ((Pn.alTake D X h).1, (Pn.alTake D X h).2.2) fun _ => Pn.tabBlank (Pn.alTake D X h).1 (Pn.alTake D X h).2.1) = S at *
    have HS := hid hS
    clear hS
    have k1v := b1F
    by_cases e0 : S.2 = 0
    · rw [e0] at k4
      have z0F := blk1 b0F
      have z1F := blk2 b1F
      have HS2 := hid (show Pn.freshSteps D X h l ((u : Int) / 16) (-1) = Pn.tabSet D S.1 l ((u : Int) / 16) 1 (Pn.alTake D X h).2.1 by rw [HN1.out, Pn.step_zero e0])
      clear e0
      go_wp2_with fail
      go_at_call 67
      refine (pt_set_ok D dp dq g h S.1 p4 q4 G U4 hD k4 (l : Int) ((u : Int) / 16) 1 (Pn.alTake D X h).2.1).mono ?_
      rintro e U5 ⟨rfl, hg5, p5, q5, k5, o5⟩
      go_wp2_with fail
      go_ret
      refine ⟨_, rfl, grown_trans g4 hg5, _, p5, q5, _, k5, fun b hb ho => o5 b (Nat.lt_of_lt_of_le hb g4.size) (O4 b hb ho), ?_, fun e1 => ?_⟩
      · rw [Hr.out, ← HF1.out.1, HS2.out]
      · have h6 := HF1.out.2 (by rw [HS2.out]; exact e1)
        rw [HS2.out] at h6
        rw [Hr.out]
        exact h6
    · have z0F := blk1 b0F
      have z1F := blk2 b1F
      have HS2 := hid (show Pn.freshSteps D X h l ((u : Int) / 16) (-1) = S by rw [HN1.out, Pn.step_err e0])
      go_wp2_with fail
      go_at_call 67
      refine (pt_set_no D dp dq g h S.1 p4 q4 G U4 hD S.2 e0 k4 (l : Int) ((u : Int) / 16) 1 (Pn.alTake D X h).2.1).mono ?_
      rintro e U5 ⟨rfl, hg5, p5, q5, k5, o5⟩
      go_wp2_with fail
      go_ret
      refine ⟨_, rfl, grown_trans g4 hg5, _, p5, q5, _, k5, fun b hb ho => o5 b (Nat.lt_of_lt_of_le hb g4.size) (O4 b hb ho), ?_, fun e1 => absurd e1 e0⟩
      rw [Hr.out, ← HF1.out.1, HS2.out]
  replace Hw := hid (Hw.out.trans (if_neg hK0))
  have nK0 : (K == 0) = false := by simpa using hK0
  have hcs := Pn.cntGet_le D X B
  have HC := hid (@Pn.cntGet_bad D X B)
  go_wp2_with fail
  generalize U2.alloc (.cells #[.int .i64 K, .int .i64 B] 32) = U3 at *
  go_at_call 112
  refine (pt_counted_ok D dp dq g h X p2 q2 G U3 hD kT B).mono ?_
  rintro e U4 ⟨rfl, hg4, p4, q4, k4, o4⟩
  generalize Pn.cntGet D X B = E at *
  obtain ⟨c, e4⟩ := E
  simp only at k4 Hw hcs
  have O4 : ∀ b, b < w.heap.size → PnOff b X p q → PnOff b X p4 q4 := fun b hb ho => o4 b (Nat.lt_of_lt_of_le hb gT.size) (O2 b hb ho)
  have g4 := grown_trans gT hg4
  have b0F := b0T.grown hg4 n0
  have b1F := b1T.grown hg4 n1
  have bxF := bx.grown hg4 nx
  have z0F := blk1 b0F
  have z1F := blk2 b1F
  have zxF := blk2 bxF
  clear o4 hg4 kT gT O2 b0T b1T zT zf z0' z1' zx bx
  by_cases hc : c ≤ 1
  · have dc : decide (c ≤ 1) = true := decide_eq_true hc
    have Hr := hid (show (e4 = 0 → Pn.ptOwn D X g h u = (X, B, 0)) ∧ (e4 ≠ 0 → Pn.ptOwn D X g h u = (X, 0, e4)) from ⟨fun e0 => by rw [Hw.out, if_neg (by rw [e0]; simp), if_pos hc], fun e0 => by rw [Hw.out, if_pos e0]⟩)
    clear hc
    go_wp2_with fail
    go_ret
    refine ⟨B, rfl, g4, X, p4, q4, e4, k4, O4, ?_, fun e0 => by rw [Hr.out.1 e0]; exact ⟨rfl, rfl⟩⟩
    by_cases e0 : e4 = 0
    · rw [Hr.out.1 e0]; exact e0
    · rw [Hr.out.2 e0]
  have dc : decide (c ≤ 1) = false := decide_eq_false hc
  have he4 : e4 = 0 := Classical.byContradiction fun hne => hc (by have h5 : c = 0 := HC.out hne; omega)
  subst he4
  have Hr := hid (show Pn.ptOwn D X g h u = Pn.ptFresh D X h l ((u : Int) / 16) B by rw [Hw.out, if_neg (by simp), if_neg hc])
  have HO1 := hid (HO.out l B hsm.2.2.1)
  have HF1 := hid (HF.out l B)
  clear hc Hw HF HN HO HC
  go_wp2_with fail
  go_at_call 109
  refine (pt_take_ok D dp dq g h X p4 q4 G U4 hD k4 hh 113 (.inr rfl) #[.pointer (some ⟨w.heap.size, 0, none⟩), .pointer (some ⟨U2.heap.size, 0, none⟩)] (Pn.tabCopy D (Pn.alTake D X h).1 B (Pn.alTake D X h).2.1) (Pn.tabCopy_fit (Pn.alTake_fit hD k4.fit h) _ _) (fun W p' q' hg' kW => pt_own3 D dp dq g h _ p' q' 0 G W kW hD _ K B _ _ (b0F.grown hg' n0) _ _ (bxF.grown hg' nx))).mono ?_
  rintro e U5 ⟨rfl, hg5, p5, q5, k5, o5⟩
  have O5 : ∀ b, b < w.heap.size → PnOff b X p q → PnOff b _ p5 q5 := fun b hb ho => o5 b (Nat.lt_of_lt_of_le hb g4.size) (O4 b hb ho)
  have g5 := grown_trans g4 hg5
  have b0G := b0F.grown hg5 n0
  have b1G := b1F.grown hg5 n1
  have bxG := bxF.grown hg5 nx
  have z0G := blk1 b0G
  have z1G := blk2 b1G
  have zxG := blk2 bxG
  clear o5 hg5 k4 g4 O4 b0F b1F bxF z0F z1F zxF
  generalize hS : (Pn.step ((Pn.alTake D X h).1, (Pn.alTake D X h).2.2) fun _ => Pn.tabCopy D (Pn.alTake D X h).1 B (Pn.alTake D X h).2.1) = S at *
  clear hS
  have m1 : -9223372036854775808 ≤ (-1 : Int) ∧ (-1 : Int) ≤ 9223372036854775807 := by decide
  by_cases e0 : S.2 = 0
  · rw [e0] at k5
    rw [Pn.step_zero e0] at HO1
    clear e0
    go_wp2_with fail
    go_at_call 66
    refine (pt_count_ok D dp dq g h S.1 p5 q5 G U5 hD k5 B (-1) m1).mono ?_
    rintro e U6 ⟨rfl, hg6, p6, q6, k6, o6⟩
    have O6 : ∀ b, b < w.heap.size → PnOff b X p q → PnOff b _ p6 q6 := fun b hb ho => o6 b (Nat.lt_of_lt_of_le hb g5.size) (O5 b hb ho)
    have g6 := grown_trans g5 hg6
    have b0H := b0G.grown hg6 n0
    have b1H := b1G.grown hg6 n1
    have z0H := blk1 b0H
    have z1H := blk2 b1H
    clear o6 hg6 k5 g5 O5 b0G b1G bxG z0G z1G zxG
    generalize Pn.cntAdd D S.1 B (-1) = R at *
    by_cases e1 : R.2 = 0
    · rw [e1] at k6
      rw [Pn.step_zero e1] at HO1
      clear e1
      go_wp2_with fail
      go_at_call 67
      refine (pt_set_ok D dp dq g h R.1 p6 q6 G U6 hD k6 (l : Int) ((u : Int) / 16) 1 (Pn.alTake D X h).2.1).mono ?_
      rintro e U7 ⟨rfl, hg7, p7, q7, k7, o7⟩
      go_wp2_with fail
      go_ret
      refine ⟨_, rfl, grown_trans g6 hg7, _, p7, q7, _, k7, fun b hb ho => o7 b (Nat.lt_of_lt_of_le hb g6.size) (O6 b hb ho), ?_, fun e1 => ?_⟩
      · rw [Hr.out, ← HF1.out.1, HO1.out]
      · have h6 := HF1.out.2 (by rw [HO1.out]; exact e1)
        rw [HO1.out] at h6
        rw [Hr.out]
        exact h6
    · rw [Pn.step_err e1] at HO1
      go_wp2_with fail
      go_at_call 67
      refine (pt_set_no D dp dq g h R.1 p6 q6 G U6 hD R.2 e1 k6 (l : Int) ((u : Int) / 16) 1 (Pn.alTake D X h).2.1).mono ?_
      rintro e U7 ⟨rfl, hg7, p7, q7, k7, o7⟩
      go_wp2_with fail
      go_ret
      refine ⟨_, rfl, grown_trans g6 hg7, _, p7, q7, _, k7, fun b hb ho => o7 b (Nat.lt_of_lt_of_le hb g6.size) (O6 b hb ho), ?_, fun e2 => absurd e2 e1⟩
      rw [Hr.out, ← HF1.out.1, HO1.out]
  · rw [Pn.step_err e0, Pn.step_err e0] at HO1
    go_wp2_with fail
    go_at_call 66
    refine (pt_count_no D dp dq g h S.1 p5 q5 G U5 hD S.2 e0 k5 B (-1) m1).mono ?_
    rintro e U6 ⟨rfl, hg6, p6, q6, k6, o6⟩
    have O6 : ∀ b, b < w.heap.size → PnOff b X p q → PnOff b _ p6 q6 := fun b hb ho => o6 b (Nat.lt_of_lt_of_le hb g5.size) (O5 b hb ho)
    have g6 := grown_trans g5 hg6
    have b0H := b0G.grown hg6 n0
    have b1H := b1G.grown hg6 n1
    have z0H := blk1 b0H
    have z1H := blk2 b1H
    clear o6 hg6 k5 g5 O5 b0G b1G bxG z0G z1G zxG
    go_wp2_with fail
    go_at_call 67
    refine (pt_set_no D dp dq g h S.1 p6 q6 G U6 hD S.2 e0 k6 (l : Int) ((u : Int) / 16) 1 (Pn.alTake D X h).2.1).mono ?_
    rintro e U7 ⟨rfl, hg7, p7, q7, k7, o7⟩
    go_wp2_with fail
    go_ret
    refine ⟨_, rfl, grown_trans g6 hg7, _, p7, q7, _, k7, fun b hb ho => o7 b (Nat.lt_of_lt_of_le hb g6.size) (O6 b hb ho), ?_, fun e2 => absurd e2 e0⟩
    rw [Hr.out, ← HF1.out.1, HO1.out]
theorem pt_own (D : Dk) (dp dq : Pl) (g : Int) (h : Nat) (X : Pn) (p q : Pl) (G : Nat) (w : World) (hD : D.fit = true) (hh : h ≤ 256) (hW : WkAt w G D dp dq g h X p q 0) (hg64 : g ≤ 64) (u : Int) :
    Calls Tryz.prog 64 #[.pointer (some ⟨G, 0, none⟩), .int .i64 u] w fun x w' => RetOwn w G D dp dq g h X p q (Pn.ptOwn D X g h u) x w' := by
  by_cases hu : u < 0 ∨ g ≤ u
  · exact pt_own_no D dp dq g h X p q G w hW u hu
  · obtain ⟨n, rfl⟩ := Int.eq_ofNat_of_zero_le (show 0 ≤ u by omega)
    exact pt_own_in D dp dq g h X p q G w hD hh hW hg64 n (by omega)
end Go.Proofs.YtplgmlcoeehnfaaGreat
set_option linter.unusedVariables false
namespace Go.Proofs.YtplgmlcoeehnfaaGreat
open Go.RowKit Go.Shelf
attribute [local go_sem] bs_mk bs_append bs_extract bs_size bs_toList bs_get
theorem WkAt.new (w : World) {D : Dk} {p q p' q' : Pl} {L : Pn} {g h : Int} (hD : IsDk w D p q) (hL : IsPn w L p' q') (hf : L.Fit) (e : Int) :
    WkAt (w.alloc (.cells #[.slice p'.a L.targets.length p'.c, .slice q'.a L.data.length q'.c, .int .i64 g, .int .i64 h, .string (bs D.data), .slice p.a D.cache.length p.c, .int .i64 D.fuse, .bool D.off, .slice q.a D.bad.length q.c, .int .i64 e] 120)) w.heap.size D p q g h L p' q' e :=
  ⟨Blk.new w _ _, hD.below ((Below.refl _ _).alloc (Nat.le_refl _) _), hL.below ((Below.refl _ _).alloc (Nat.le_refl _) _), hD.apart (Nat.le_refl _), hL.apart (Nat.le_refl _), hf⟩
set_option maxRecDepth 100000 in
set_option maxHeartbeats 2000000 in
theorem p_point (D : Dk) (L : Pn) (p q p' q' : Pl) (w : World) (hD : IsDk w D p q) (hL : IsPn w L p' q') (hf : D.fit = true) (hfl : L.Fit) (g : Int) (h : Nat) (hh : h ≤ 256) (hg64 : g ≤ 64) (u K B : Int) (hu64 : -9223372036854775808 ≤ u ∧ u ≤ 9223372036854775807) :
    Calls Tryz.prog 17 #[dval D p q, pval L p' q', gval g h, .int .i64 u, eval2 K B] w fun e w' => RetPn w.heap.size L p' q' (Pn.ptPoint D L g h u K B) e w' ∧ Below w.heap.size w w' := by
  have Hw := hid (show Pn.ptPoint D L g h u K B = _ from rfl)
  have Hno := hid (@Pn.ptOwn_not D L g h u)
  have Hout := hid (fun hu : u < 0 => @Pn.ptOwn_out D L g h u (.inl hu))
  have HD := hid (fun (W : World) (hb : Below w.heap.size w W) => hD.below hb)
  have HL := hid (fun (W : World) (hb : Below w.heap.size w W) => hL.below hb)
  have oP : ∀ B, w.heap.size ≤ B → PnOff B L p' q' := fun B hB => hL.apart hB
  have Hown := hid (Pn.ptOwn_fit (D := D) (L := L) hf hfl g h u)
  clear hD hL
  obtain ⟨A1, a1⟩ := p
  obtain ⟨A2, a2⟩ := q
  obtain ⟨B1, b1⟩ := p'
  obtain ⟨B2, b2⟩ := q'
  have hB := Below.refl w.heap.size w
  have x := Blk.new w 25 #[.string (bs D.data), .slice A1 D.cache.length a1, .int .i64 D.fuse, .bool D.off, .slice A2 D.bad.length a2]
  have xk := blk5 x
  have hB_1 := hB.alloc hB.size (.cells #[.string (bs D.data), .slice A1 D.cache.length a1, .int .i64 D.fuse, .bool D.off, .slice A2 D.bad.length a2] 25)
  have z := Blk.new (w.alloc (.cells #[.string (bs D.data), .slice A1 D.cache.length a1, .int .i64 D.fuse, .bool D.off, .slice A2 D.bad.length a2] 25)) 28 #[.slice B1 L.targets.length b1, .slice B2 L.data.length b2]
  simp only [World.size_alloc] at z
  have zk := blk2 z
  have hB_2 := hB_1.alloc hB_1.size (.cells #[.slice B1 L.targets.length b1, .slice B2 L.data.length b2] 28)
  have x_3 := x.alloc (.cells #[.slice B1 L.targets.length b1, .slice B2 L.data.length b2] 28)
  have xk_3 := blk5 x_3
  have y := Blk.new ((w.alloc (.cells #[.string (bs D.data), .slice A1 D.cache.length a1, .int .i64 D.fuse, .bool D.off, .slice A2 D.bad.length a2] 25)).alloc (.cells #[.slice B1 L.targets.length b1, .slice B2 L.data.length b2] 28)) 30 #[.int .i64 g, .int .i64 h]
  simp only [World.size_alloc] at y
  have yk := blk2 y
  have hB_4 := hB_2.alloc hB_2.size (.cells #[.int .i64 g, .int .i64 h] 30)
  have x_5 := x_3.alloc (.cells #[.int .i64 g, .int .i64 h] 30)
  have xk_5 := blk5 x_5
  have z_6 := z.alloc (.cells #[.int .i64 g, .int .i64 h] 30)
  have zk_6 := blk2 z_6
  have xe := Blk.new (((w.alloc (.cells #[.string (bs D.data), .slice A1 D.cache.length a1, .int .i64 D.fuse, .bool D.off, .slice A2 D.bad.length a2] 25)).alloc (.cells #[.slice B1 L.targets.length b1, .slice B2 L.data.length b2] 28)).alloc (.cells #[.int .i64 g, .int .i64 h] 30)) 32 #[.int .i64 K, .int .i64 B]
  simp only [World.size_alloc] at xe
  have xek := blk2 xe
  have hB_7 := hB_4.alloc hB_4.size (.cells #[.int .i64 K, .int .i64 B] 32)
  have x_8 := x_5.alloc (.cells #[.int .i64 K, .int .i64 B] 32)
  have xk_8 := blk5 x_8
  have z_9 := z_6.alloc (.cells #[.int .i64 K, .int .i64 B] 32)
  have zk_9 := blk2 z_9
  have y_10 := y.alloc (.cells #[.int .i64 K, .int .i64 B] 32)
  have yk_10 := blk2 y_10
  have r := Blk.new ((((w.alloc (.cells #[.string (bs D.data), .slice A1 D.cache.length a1, .int .i64 D.fuse, .bool D.off, .slice A2 D.bad.length a2] 25)).alloc (.cells #[.slice B1 L.targets.length b1, .slice B2 L.data.length b2] 28)).alloc (.cells #[.int .i64 g, .int .i64 h] 30)).alloc (.cells #[.int .i64 K, .int .i64 B] 32)) 28 #[.slice none 0 0, .slice none 0 0]
  simp only [World.size_alloc] at r
  have rk := blk2 r
  have rkf := r.frozen
  have hB_11 := hB_7.alloc hB_7.size (.cells #[.slice none 0 0, .slice none 0 0] 28)
  have x_12 := x_8.alloc (.cells #[.slice none 0 0, .slice none 0 0] 28)
  have xk_12 := blk5 x_12
  have z_13 := z_9.alloc (.cells #[.slice none 0 0, .slice none 0 0] 28)
  have zk_13 := blk2 z_13
  have y_14 := y_10.alloc (.cells #[.slice none 0 0, .slice none 0 0] 28)
  have yk_14 := blk2 y_14
  have xe_15 := xe.alloc (.cells #[.slice none 0 0, .slice none 0 0] 28)
  have xek_15 := blk2 xe_15
  go_enter Tryz.func17, Tryz.ntmps17
  have kV := WkAt.new _ (g := g) (h := h) (HD.out _ hB_11) (HL.out _ hB_11) hfl 0
  simp only [World.size_alloc] at kV
  have k := Blk.new (((((w.alloc (.cells #[.string (bs D.data), .slice A1 D.cache.length a1, .int .i64 D.fuse, .bool D.off, .slice A2 D.bad.length a2] 25)).alloc (.cells #[.slice B1 L.targets.length b1, .slice B2 L.data.length b2] 28)).alloc (.cells #[.int .i64 g, .int .i64 h] 30)).alloc (.cells #[.int .i64 K, .int .i64 B] 32)).alloc (.cells #[.slice none 0 0, .slice none 0 0] 28)) 120 #[.slice B1 L.targets.length b1, .slice B2 L.data.length b2, .int .i64 g, .int .i64 h, .string (bs D.data), .slice A1 D.cache.length a1, .int .i64 D.fuse, .bool D.off, .slice A2 D.bad.length a2, .int .i64 0]
  simp only [World.size_alloc] at k
  have kk := blk10 k
  have hB_16 := hB_11.alloc hB_11.size (.cells #[.slice B1 L.targets.length b1, .slice B2 L.data.length b2, .int .i64 g, .int .i64 h, .string (bs D.data), .slice A1 D.cache.length a1, .int .i64 D.fuse, .bool D.off, .slice A2 D.bad.length a2, .int .i64 0] 120)
  have x_17 := x_12.alloc (.cells #[.slice B1 L.targets.length b1, .slice B2 L.data.length b2, .int .i64 g, .int .i64 h, .string (bs D.data), .slice A1 D.cache.length a1, .int .i64 D.fuse, .bool D.off, .slice A2 D.bad.length a2, .int .i64 0] 120)
  have xk_17 := blk5 x_17
  have z_18 := z_13.alloc (.cells #[.slice B1 L.targets.length b1, .slice B2 L.data.length b2, .int .i64 g, .int .i64 h, .string (bs D.data), .slice A1 D.cache.length a1, .int .i64 D.fuse, .bool D.off, .slice A2 D.bad.length a2, .int .i64 0] 120)
  have zk_18 := blk2 z_18
  have y_19 := y_14.alloc (.cells #[.slice B1 L.targets.length b1, .slice B2 L.data.length b2, .int .i64 g, .int .i64 h, .string (bs D.data), .slice A1 D.cache.length a1, .int .i64 D.fuse, .bool D.off, .slice A2 D.bad.length a2, .int .i64 0] 120)
  have yk_19 := blk2 y_19
  have xe_20 := xe_15.alloc (.cells #[.slice B1 L.targets.length b1, .slice B2 L.data.length b2, .int .i64 g, .int .i64 h, .string (bs D.data), .slice A1 D.cache.length a1, .int .i64 D.fuse, .bool D.off, .slice A2 D.bad.length a2, .int .i64 0] 120)
  have xek_20 := blk2 xe_20
  have r_21 := r.alloc (.cells #[.slice B1 L.targets.length b1, .slice B2 L.data.length b2, .int .i64 g, .int .i64 h, .string (bs D.data), .slice A1 D.cache.length a1, .int .i64 D.fuse, .bool D.off, .slice A2 D.bad.length a2, .int .i64 0] 120)
  have rk_21 := blk2 r_21
  have rkf_21 := r_21.frozen
  go_wp2_with fail
  generalize ((((((w.alloc (.cells #[.string (bs D.data), .slice A1 D.cache.length a1, .int .i64 D.fuse, .bool D.off, .slice A2 D.bad.length a2] 25)).alloc (.cells #[.slice B1 L.targets.length b1, .slice B2 L.data.length b2] 28)).alloc (.cells #[.int .i64 g, .int .i64 h] 30)).alloc (.cells #[.int .i64 K, .int .i64 B] 32)).alloc (.cells #[.slice none 0 0, .slice none 0 0] 28)).alloc (.cells #[.slice B1 L.targets.length b1, .slice B2 L.data.length b2, .int .i64 g, .int .i64 h, .string (bs D.data), .slice A1 D.cache.length a1, .int .i64 D.fuse, .bool D.off, .slice A2 D.bad.length a2, .int .i64 0] 120)) = V at hB_16 x_17 xk_17 z_18 zk_18 y_19 yk_19 xe_20 xek_20 r_21 rk_21 rkf_21 k kk kV ⊢
  clear hB_1 hB_2 xk_3 x_3 hB_4 xk_5 x_5 zk_6 z_6 hB_7 xk_8 x_8 zk_9 z_9 yk_10 y_10 hB_11 xk_12 x_12 zk_13 z_13 yk_14 y_14 xek_15 xe_15 hB x z y xe r xk zk yk xek rk rkf
  have hB := hB_16
  have x := x_17
  have xk := xk_17
  have z := z_18
  have zk := zk_18
  have y := y_19
  have yk := yk_19
  have xe := xe_20
  have xek := xek_20
  have r := r_21
  have rk := rk_21
  have rkf := rkf_21
  clear hB_16 x_17 xk_17 z_18 zk_18 y_19 yk_19 xe_20 xek_20 r_21 rk_21 rkf_21
  have sV := hB.size
  have lk := k.lt
  clear k kk
  have nz : w.heap.size + 1 ≠ w.heap.size + 1 + 1 + 1 + 1 + 1 := by omega
  have nr : w.heap.size + 1 + 1 + 1 + 1 ≠ w.heap.size + 1 + 1 + 1 + 1 + 1 := by omega
  have ne : w.heap.size + 1 + 1 + 1 ≠ w.heap.size + 1 + 1 + 1 + 1 + 1 := by omega
  go_at_call 64
  refine (pt_own D ⟨A1, a1⟩ ⟨A2, a2⟩ g h L ⟨B1, b1⟩ ⟨B2, b2⟩ (w.heap.size + 1 + 1 + 1 + 1 + 1) V hf hh kV hg64 u).mono ?_
  rintro e W5 ⟨t, rfl, g5, Y, p5, q5, er, k5, o5, he, hok⟩
  have rl := r.lt
  have z5 := z.grown g5 nz
  have r5 := r.grown g5 nr
  have xe5 := xe.grown g5 ne
  have z5k := blk2 z5
  have r5k := blk2 r5
  have r5f := r5.frozen
  have xe5k := blk2 xe5
  have hB5 : Below w.heap.size w W5 := hB.trans (grown_belowG g5 (by omega) sV)
  have or5 : PnOff (w.heap.size + 1 + 1 + 1 + 1) Y p5 q5 := o5 _ rl (oP _ (by omega))
  have O5 : ∀ b, b < w.heap.size → PnOff b L ⟨B1, b1⟩ ⟨B2, b2⟩ → PnOff b Y p5 q5 := fun b hb ho => o5 b (Nat.lt_of_lt_of_le hb sV) ho
  have kz5 := blk10 k5.box
  clear x xk z zk y yk r rk rkf kV xe xek o5
  by_cases h1 : er = 0
  case neg =>
    have n1 : (er != 0) = true := by simpa using h1
    have hn := Hno.out (by rw [← he]; exact h1)
    have HE := hid (show Pn.ptPoint D L g h u K B = (L, er) by rw [Pn.ptPoint, if_pos (by rw [← he]; exact h1), ← he])
    clear hn he hok Hno h1 Hw
    have r9 := r5
    have hB9 := hB5
    have yy := blk2 (blk_set2 r9 (.slice B1 L.targets.length b1) (.slice B2 L.data.length b2))
    have b9 := below_set2 hB9 (g := w.heap.size + 1 + 1 + 1 + 1) (by omega) (.slice B1 L.targets.length b1) (.slice B2 L.data.length b2)
    have i9 := (HL.out _ hB9).off2 (oP (w.heap.size + 1 + 1 + 1 + 1) (by omega)) (.slice B1 L.targets.length b1) (.slice B2 L.data.length b2)
    go_wp2_with fail
    go_region
    go_wp2_with fail
    refine bodyPost_ret (v := .tuple #[pval L ⟨B1, b1⟩ ⟨B2, b2⟩, .int .i64 er]) (by simp [results, Tryz.results17, go_sem, yy]) rfl ?_
    rw [HE.out]
    exact ⟨⟨⟨B1, b1⟩, ⟨B2, b2⟩, rfl, i9.below (Below.refl _ _).drew, fun b hb ho => ho⟩, b9.drew⟩
  obtain ⟨e1, e2⟩ := hok h1
  subst h1
  have u0 : 0 ≤ u := by
    rcases Int.lt_or_le u 0 with hlt | hle
    · have := Hout.out hlt
      rw [this] at he
      exact absurd he (show ¬ (0 : Int) = 10 by decide)
    · exact hle
  obtain ⟨u, rfl⟩ := Int.eq_ofNat_of_zero_le u0
  replace Hw := hid (show Pn.ptPoint D L g h u K B = if (Pn.tabGet D Y t ((u : Int) % 16)).2 ≠ 0 then (L, (Pn.tabGet D Y t ((u : Int) % 16)).2) else if (Pn.putSteps D Y t u K B).2 ≠ 0 then (L, (Pn.putSteps D Y t u K B).2) else ((Pn.putSteps D Y t u K B).1, 0) by
    rw [Pn.ptPoint, if_neg (by rw [← he]; simp), ← e1, ← e2])
  have Hput := hid (show Pn.putSteps D Y t u K B = Pn.step (if (Pn.tabGet D Y t ((u : Int) % 16)).1.1 = 1 then Pn.cntAdd D Y (Pn.tabGet D Y t ((u : Int) % 16)).1.2 (-1) else (Y, 0)) fun Z => Pn.tabSet D Z t ((u : Int) % 16) K B from rfl)
  have Herr := hid (@Pn.tabGet_err D Y t ((u : Int) % 16))
  clear e1 e2 he hok Hno Hout Hown
  go_wp2_with fail
  go_at_call 65
  refine (pt_get_ok D ⟨A1, a1⟩ ⟨A2, a2⟩ g h Y p5 q5 (w.heap.size + 1 + 1 + 1 + 1 + 1) W5 hf k5 t ((u : Int) % 16)).mono ?_
  rintro e W6 ⟨rfl, hg6, p6, q6, k6, o6⟩
  have z6 := z5.grown hg6 nz
  have r6 := r5.grown hg6 nr
  have xe6 := xe5.grown hg6 ne
  have z6k := blk2 z6
  have r6k := blk2 r6
  have r6f := r6.frozen
  have xe6k := blk2 xe6
  have g6 := grown_trans g5 hg6
  have hB6 : Below w.heap.size w _ := hB.trans (grown_belowG g6 (by omega) sV)
  clear z5k r5k r5f xe5k
  have or6 : PnOff (w.heap.size + 1 + 1 + 1 + 1) Y p6 q6 := o6 _ r5.lt or5
  have O6 : ∀ b, b < w.heap.size → PnOff b L ⟨B1, b1⟩ ⟨B2, b2⟩ → PnOff b Y p6 q6 := fun b hb ho => o6 b (Nat.lt_of_lt_of_le hb (Nat.le_trans sV g5.size)) (O5 b hb ho)
  clear o6 kz5 k5 or5 O5
  generalize Pn.tabGet D Y t ((u : Int) % 16) = E at *
  obtain ⟨⟨K2, A3⟩, e2⟩ := E
  simp only at k6 Hw Hput Herr
  replace k6 : WkAt W6 (w.heap.size + 1 + 1 + 1 + 1 + 1) D ⟨A1, a1⟩ ⟨A2, a2⟩ g h Y p6 q6 e2 := k6
  have oo := Blk.new W6 32 #[.int .i64 K2, .int .i64 A3]
  have hb7 := (Below.refl W6.heap.size W6).alloc (Nat.le_refl _) (.cells #[.int .i64 K2, .int .i64 A3] 32)
  have k7 := k6.below hb7
  have z7 := z6.below hb7 z6.lt
  have r7 := r6.below hb7 r6.lt
  have xe7 := xe6.below hb7 xe6.lt
  have g7 := grown_then g6 hb7
  have z7k := blk2 z7
  have r7k := blk2 r7
  have r7f := r7.frozen
  have xe7k := blk2 xe7
  have ook := blk2 oo
  have kz7 := blk10 k7.box
  have hs6 := hB6.size
  clear z6k r6k r6f xe6k
  by_cases h2 : e2 = 0
  case neg =>
    have hK2 : K2 = 0 := (Prod.mk.inj (Herr.out h2)).1
    subst hK2
    have HE := hid (show Pn.ptPoint D L g h u K B = (L, e2) by rw [Hw.out, if_pos h2])
    have n2 : (e2 != 0) = true := by simpa using h2
    clear Hw Hput Herr
    go_wp2_with fail
    generalize W6.alloc (.cells #[.int .i64 0, .int .i64 A3] 32) = W7 at *
    go_at_call 67
    refine (pt_set_no D ⟨A1, a1⟩ ⟨A2, a2⟩ g h Y p6 q6 (w.heap.size + 1 + 1 + 1 + 1 + 1) W7 hf e2 h2 k7 t ((u : Int) % 16) K B).mono ?_
    rintro e W8 ⟨rfl, hg8, p8, q8, k8, o8⟩
    have z8 := z7.grown hg8 nz
    have r8 := r7.grown hg8 nr
    have xe8 := xe7.grown hg8 ne
    have z8k := blk2 z8
    have r8k := blk2 r8
    have r8f := r8.frozen
    have xe8k := blk2 xe8
    have g8 := grown_trans g7 hg8
    have hB8 : Below w.heap.size w _ := hB.trans (grown_belowG g8 (by omega) sV)
    clear z7k r7k r7f xe7k
    have r9 := r8
    have hB9 := hB8
    have kz8 := blk10 k8.box
    clear kz7
    have yy := blk2 (blk_set2 r9 (.slice B1 L.targets.length b1) (.slice B2 L.data.length b2))
    have b9 := below_set2 hB9 (g := w.heap.size + 1 + 1 + 1 + 1) (by omega) (.slice B1 L.targets.length b1) (.slice B2 L.data.length b2)
    have i9 := (HL.out _ hB9).off2 (oP (w.heap.size + 1 + 1 + 1 + 1) (by omega)) (.slice B1 L.targets.length b1) (.slice B2 L.data.length b2)
    go_wp2_with fail
    go_region
    go_wp2_with fail
    refine bodyPost_ret (v := .tuple #[pval L ⟨B1, b1⟩ ⟨B2, b2⟩, .int .i64 e2]) (by simp [results, Tryz.results17, go_sem, yy]) rfl ?_
    rw [HE.out]
    exact ⟨⟨⟨B1, b1⟩, ⟨B2, b2⟩, rfl, i9.below (Below.refl _ _).drew, fun b hb ho => ho⟩, b9.drew⟩
  subst h2
  replace Hw := hid (Hw.out.trans (if_neg (by simp)))
  by_cases hK : K2 = 1
  · subst hK
    replace Hput := hid (Hput.out.trans (by rw [if_pos rfl]))
    have m1 : -9223372036854775808 ≤ (-1 : Int) ∧ (-1 : Int) ≤ 9223372036854775807 := by decide
    go_wp2_with fail
    generalize W6.alloc (.cells #[.int .i64 1, .int .i64 A3] 32) = W7 at *
    go_at_call 66
    refine (pt_count_ok D ⟨A1, a1⟩ ⟨A2, a2⟩ g h Y p6 q6 (w.heap.size + 1 + 1 + 1 + 1 + 1) W7 hf k7 A3 (-1) m1).mono ?_
    rintro e W8 ⟨rfl, hg8, p8, q8, k8, o8⟩
    have z8 := z7.grown hg8 nz
    have r8 := r7.grown hg8 nr
    have xe8 := xe7.grown hg8 ne
    have z8k := blk2 z8
    have r8k := blk2 r8
    have r8f := r8.frozen
    have xe8k := blk2 xe8
    have g8 := grown_trans g7 hg8
    have hB8 : Below w.heap.size w _ := hB.trans (grown_belowG g8 (by omega) sV)
    clear z7k r7k r7f xe7k
    have or8 : PnOff (w.heap.size + 1 + 1 + 1 + 1) _ p8 q8 := o8 _ r7.lt or6
    have O8 : ∀ b, b < w.heap.size → PnOff b L ⟨B1, b1⟩ ⟨B2, b2⟩ → PnOff b _ p8 q8 := fun b hb ho => o8 b (Nat.lt_of_lt_of_le hb (Nat.le_trans sV g7.size)) (O6 b hb ho)
    generalize Pn.cntAdd D Y A3 (-1) = R at *
    clear o8 kz7
    have kz8 := blk10 k8.box
    by_cases h3 : R.2 = 0
    · rw [Pn.step_zero h3] at Hput
      rw [h3] at k8 kz8
      clear h3
      go_wp2_with fail
      go_at_call 67
      refine (pt_set_ok D ⟨A1, a1⟩ ⟨A2, a2⟩ g h R.1 p8 q8 (w.heap.size + 1 + 1 + 1 + 1 + 1) W8 hf k8 t ((u : Int) % 16) K B).mono ?_
      rintro e W9 ⟨rfl, hg9, p9, q9, k9, o9⟩
      have z9 := z8.grown hg9 nz
      have r9 := r8.grown hg9 nr
      have xe9 := xe8.grown hg9 ne
      have z9k := blk2 z9
      have r9k := blk2 r9
      have r9f := r9.frozen
      have xe9k := blk2 xe9
      have g9 := grown_trans g8 hg9
      have hB9 : Below w.heap.size w _ := hB.trans (grown_belowG g9 (by omega) sV)
      clear z8k r8k r8f xe8k
      have o9r : PnOff (w.heap.size + 1 + 1 + 1 + 1) _ p9 q9 := o9 _ r8.lt or8
      have O9 : ∀ b, b < w.heap.size → PnOff b L ⟨B1, b1⟩ ⟨B2, b2⟩ → PnOff b _ p9 q9 := fun b hb ho => o9 b (Nat.lt_of_lt_of_le hb (Nat.le_trans sV g8.size)) (O8 b hb ho)
      rw [Hput.out] at Hw
      generalize Pn.tabSet D R.1 t ((u : Int) % 16) K B = S at *
      clear o9 kz8
      have kz9 := blk10 k9.box
      by_cases h4 : S.2 = 0
      · have HE := hid (show Pn.ptPoint D L g h u K B = (S.1, 0) by rw [Hw.out, if_neg (by rw [h4]; simp)])
        rw [h4] at k9 kz9
        clear h4 Hw
        have yy := blk2 (blk_set2 r9 (.slice p9.a S.1.targets.length p9.c) (.slice q9.a S.1.data.length q9.c))
        have qq := (r9.set 0 (.slice p9.a S.1.targets.length p9.c)).frozen
        have i9 := k9.pn.off2 o9r (.slice p9.a S.1.targets.length p9.c) (.slice q9.a S.1.data.length q9.c)
        have b9 := below_set2 hB9 (g := w.heap.size + 1 + 1 + 1 + 1) (by omega) (.slice p9.a S.1.targets.length p9.c) (.slice q9.a S.1.data.length q9.c)
        go_wp2_with fail
        refine bodyPost_ret (v := .tuple #[pval S.1 p9 q9, .int .i64 0]) (by simp [results, Tryz.results17, go_sem, yy]) rfl ?_
        rw [HE.out]
        exact ⟨⟨p9, q9, rfl, i9, O9⟩, b9⟩
      · have HE := hid (show Pn.ptPoint D L g h u K B = (L, S.2) by rw [Hw.out, if_pos h4])
        have n4 : (S.2 != 0) = true := by simpa using h4
        clear h4 Hw
        have yy := blk2 (blk_set2 r9 (.slice B1 L.targets.length b1) (.slice B2 L.data.length b2))
        have b9 := below_set2 hB9 (g := w.heap.size + 1 + 1 + 1 + 1) (by omega) (.slice B1 L.targets.length b1) (.slice B2 L.data.length b2)
        have i9 := (HL.out _ hB9).off2 (oP (w.heap.size + 1 + 1 + 1 + 1) (by omega)) (.slice B1 L.targets.length b1) (.slice B2 L.data.length b2)
        go_wp2_with fail
        go_region
        go_wp2_with fail
        refine bodyPost_ret (v := .tuple #[pval L ⟨B1, b1⟩ ⟨B2, b2⟩, .int .i64 S.2]) (by simp [results, Tryz.results17, go_sem, yy]) rfl ?_
        rw [HE.out]
        exact ⟨⟨⟨B1, b1⟩, ⟨B2, b2⟩, rfl, i9.below (Below.refl _ _).drew, fun b hb ho => ho⟩, b9.drew⟩
    · rw [Pn.step_err h3] at Hput
      rw [Hput.out] at Hw
      have HE := hid (show Pn.ptPoint D L g h u K B = (L, R.2) by rw [Hw.out, if_pos h3])
      have n3 : (R.2 != 0) = true := by simpa using h3
      go_wp2_with fail
      go_at_call 67
      refine (pt_set_no D ⟨A1, a1⟩ ⟨A2, a2⟩ g h R.1 p8 q8 (w.heap.size + 1 + 1 + 1 + 1 + 1) W8 hf R.2 h3 k8 t ((u : Int) % 16) K B).mono ?_
      rintro e W9 ⟨rfl, hg9, p9, q9, k9, o9⟩
      have z9 := z8.grown hg9 nz
      have r9 := r8.grown hg9 nr
      have xe9 := xe8.grown hg9 ne
      have z9k := blk2 z9
      have r9k := blk2 r9
      have r9f := r9.frozen
      have xe9k := blk2 xe9
      have g9 := grown_trans g8 hg9
      have hB9 : Below w.heap.size w _ := hB.trans (grown_belowG g9 (by omega) sV)
      clear z8k r8k r8f xe8k
      clear h3 Hw kz8
      have kz9 := blk10 k9.box
      have yy := blk2 (blk_set2 r9 (.slice B1 L.targets.length b1) (.slice B2 L.data.length b2))
      have b9 := below_set2 hB9 (g := w.heap.size + 1 + 1 + 1 + 1) (by omega) (.slice B1 L.targets.length b1) (.slice B2 L.data.length b2)
      have i9 := (HL.out _ hB9).off2 (oP (w.heap.size + 1 + 1 + 1 + 1) (by omega)) (.slice B1 L.targets.length b1) (.slice B2 L.data.length b2)
      go_wp2_with fail
      go_region
      go_wp2_with fail
      refine bodyPost_ret (v := .tuple #[pval L ⟨B1, b1⟩ ⟨B2, b2⟩, .int .i64 R.2]) (by simp [results, Tryz.results17, go_sem, yy]) rfl ?_
      rw [HE.out]
      exact ⟨⟨⟨B1, b1⟩, ⟨B2, b2⟩, rfl, i9.below (Below.refl _ _).drew, fun b hb ho => ho⟩, b9.drew⟩
  · have nK : (K2 == 1) = false := by simpa using hK
    replace Hput := hid (Hput.out.trans (by rw [if_neg hK, Pn.step_zero rfl]))
    go_wp2_with fail
    generalize W6.alloc (.cells #[.int .i64 K2, .int .i64 A3] 32) = W7 at *
    go_at_call 67
    refine (pt_set_ok D ⟨A1, a1⟩ ⟨A2, a2⟩ g h Y p6 q6 (w.heap.size + 1 + 1 + 1 + 1 + 1) W7 hf k7 t ((u : Int) % 16) K B).mono ?_
    rintro e W9 ⟨rfl, hg9, p9, q9, k9, o9⟩
    have z9 := z7.grown hg9 nz
    have r9 := r7.grown hg9 nr
    have xe9 := xe7.grown hg9 ne
    have z9k := blk2 z9
    have r9k := blk2 r9
    have r9f := r9.frozen
    have xe9k := blk2 xe9
    have g9 := grown_trans g7 hg9
    have hB9 : Below w.heap.size w _ := hB.trans (grown_belowG g9 (by omega) sV)
    clear z7k r7k r7f xe7k
    have o9r : PnOff (w.heap.size + 1 + 1 + 1 + 1) _ p9 q9 := o9 _ r7.lt or6
    have O9 : ∀ b, b < w.heap.size → PnOff b L ⟨B1, b1⟩ ⟨B2, b2⟩ → PnOff b _ p9 q9 := fun b hb ho => o9 b (Nat.lt_of_lt_of_le hb (Nat.le_trans sV g7.size)) (O6 b hb ho)
    rw [Hput.out] at Hw
    generalize Pn.tabSet D Y t ((u : Int) % 16) K B = S at *
    clear o9 kz7
    have kz9 := blk10 k9.box
    by_cases h4 : S.2 = 0
    · have HE := hid (show Pn.ptPoint D L g h u K B = (S.1, 0) by rw [Hw.out, if_neg (by rw [h4]; simp)])
      rw [h4] at k9 kz9
      clear h4 Hw
      have yy := blk2 (blk_set2 r9 (.slice p9.a S.1.targets.length p9.c) (.slice q9.a S.1.data.length q9.c))
      have qq := (r9.set 0 (.slice p9.a S.1.targets.length p9.c)).frozen
      have i9 := k9.pn.off2 o9r (.slice p9.a S.1.targets.length p9.c) (.slice q9.a S.1.data.length q9.c)
      have b9 := below_set2 hB9 (g := w.heap.size + 1 + 1 + 1 + 1) (by omega) (.slice p9.a S.1.targets.length p9.c) (.slice q9.a S.1.data.length q9.c)
      go_wp2_with fail
      refine bodyPost_ret (v := .tuple #[pval S.1 p9 q9, .int .i64 0]) (by simp [results, Tryz.results17, go_sem, yy]) rfl ?_
      rw [HE.out]
      exact ⟨⟨p9, q9, rfl, i9, O9⟩, b9⟩
    · have HE := hid (show Pn.ptPoint D L g h u K B = (L, S.2) by rw [Hw.out, if_pos h4])
      have n4 : (S.2 != 0) = true := by simpa using h4
      clear h4 Hw
      have yy := blk2 (blk_set2 r9 (.slice B1 L.targets.length b1) (.slice B2 L.data.length b2))
      have b9 := below_set2 hB9 (g := w.heap.size + 1 + 1 + 1 + 1) (by omega) (.slice B1 L.targets.length b1) (.slice B2 L.data.length b2)
      have i9 := (HL.out _ hB9).off2 (oP (w.heap.size + 1 + 1 + 1 + 1) (by omega)) (.slice B1 L.targets.length b1) (.slice B2 L.data.length b2)
      go_wp2_with fail
      go_region
      go_wp2_with fail
      refine bodyPost_ret (v := .tuple #[pval L ⟨B1, b1⟩ ⟨B2, b2⟩, .int .i64 S.2]) (by simp [results, Tryz.results17, go_sem, yy]) rfl ?_
      rw [HE.out]
      exact ⟨⟨⟨B1, b1⟩, ⟨B2, b2⟩, rfl, i9.below (Below.refl _ _).drew, fun b hb ho => ho⟩, b9.drew⟩
end Go.Proofs.YtplgmlcoeehnfaaGreat
