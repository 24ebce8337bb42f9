/- Package plan: a plan laid on a device. -/
import Derived.Test.YtplgmlcoeehnfaaGreatJcLay1
import Derived.Test.YtplgmlcoeehnfaaGreatJcDev4
import Derived.BigQuiet
set_option linter.unusedVariables false
namespace Go.Proofs.YtplgmlcoeehnfaaGreat
open Go.RowKit Go.Shelf
attribute [local go_sem] bs_mk bs_append bs_extract bs_size bs_toList bs_get Oper.semAt_some
namespace Dk
theorem layIn_snoc : ∀ (l : List (Int × List UInt8)) (D : Dk) (x : Int × List UInt8), (layIn l D).2 = 0 → layIn (l ++ [x]) D = (layIn l D).1.write x.1 x.2 := by
  intro l
  induction l with
  | nil =>
    intro D x _
    show layIn [x] D = D.write x.1 x.2
    rw [layIn]
    split
    · rfl
    · rename_i h
      have h : (D.write x.1 x.2).2 = 0 := by simpa using h
      exact Prod.ext rfl h.symm
  | cons a l ih =>
    intro D x h
    rw [List.cons_append, layIn]
    rw [layIn] at h
    split
    · rename_i h1
      rw [if_pos h1] at h
      exact absurd h h1
    · rename_i h1
      rw [if_neg h1] at h
      rw [layIn, if_neg h1]
      exact ih _ _ h
theorem layIn_stop : ∀ (l r : List (Int × List UInt8)) (D : Dk), (layIn l D).2 ≠ 0 → layIn (l ++ r) D = layIn l D := by
  intro l
  induction l with
  | nil => intro r D h; exact absurd rfl h
  | cons a l ih =>
    intro r D h
    rw [List.cons_append, layIn, layIn]
    rw [layIn] at h
    split
    · rfl
    · rename_i h1
      rw [if_neg h1] at h
      exact ih _ _ h
end Dk
/-- A device's box and an error's box. -/
structure LayBox (V : World) (B0 : Nat) (t t' : TypeId) (D0 : Dk) (p0 q0 : Pl) (X : Dk × Int) : Prop where
  ex : ∃ p q : Pl, Blk V B0 t #[.string (bs X.1.data), .slice p.a X.1.cache.length p.c, .int .i64 X.1.fuse, .bool X.1.off, .slice q.a X.1.bad.length q.c] ∧ IsDk V X.1 p q ∧ (∀ g, g ≤ B0 + 1 + 1 + 1 + 1 → (g < B0 → DkOff g D0 p0 q0) → DkOff g X.1 p q)
  zero : Blk V (B0 + 1 + 1) t #[.string (bs []), .slice none 0 0, .int .i64 0, .bool false, .slice none 0 0]
  err : Blk V (B0 + 1 + 1 + 1) t' #[.int .i64 X.2]
theorem layBox_own (B B0 : Nat) (t t' : TypeId) (D0 : Dk) (p0 q0 : Pl) (X : Dk × Int) : OwnFrom B (fun (_ : Unit) V => LayBox V B0 t t' D0 p0 q0 X) := by
  rintro s Y Z row ⟨⟨p, q, h1, h2, h3⟩, h4, h5⟩ hy hr
  exact ⟨⟨p, q, (Own.from (blk_own _ _ (fun _ : Unit => _)) _) () Y Z row h1 hy hr, h2.kept hy (fun r e => (hr r e).2), h3⟩, (Own.from (blk_own _ _ (fun _ : Unit => _)) _) () Y Z row h4 hy hr, (Own.from (blk_own _ _ (fun _ : Unit => _)) _) () Y Z row h5 hy hr⟩
theorem lay_step {w W W2 : World} {B0 BV : Nat} {t t' : TypeId} {X E : Dk} {p1 q1 p2 q2 : Pl} {xe er : Int} (hsz : BV ≤ W.heap.size) (h0 : B0 + 1 + 1 + 1 + 1 < BV) (hb : Below B0 w W) (hb2 : Below W.heap.size W W2)
    (y1 : Blk W2 B0 t #[.string (bs X.data), .slice p1.a X.cache.length p1.c, .int .i64 X.fuse, .bool X.off, .slice q1.a X.bad.length q1.c]) (y5 : Blk W2 (B0 + 1 + 1 + 1) t' #[.int .i64 xe])
    (hI : Blk W (B0 + 1 + 1) t #[.string (bs []), .slice none 0 0, .int .i64 0, .bool false, .slice none 0 0]) {D0 : Dk} {p0 q0 : Pl} (h3 : ∀ g, g ≤ B0 + 1 + 1 + 1 + 1 → (g < B0 → DkOff g D0 p0 q0) → DkOff g X p1 q1)
    (i2 : IsDk W2 E p2 q2) (o2 : ∀ g, g < W.heap.size → DkOff g X p1 q1 → DkOff g E p2 q2) {W3 : World}
    (e : W3 = (((((W2.setCell ⟨B0, 0, none⟩ (.string (bs E.data))).setCell ⟨B0, 1, none⟩ (.slice p2.a E.cache.length p2.c)).setCell ⟨B0, 2, none⟩ (.int .i64 E.fuse)).setCell ⟨B0, 3, none⟩ (.bool E.off)).setCell ⟨B0, 4, none⟩ (.slice q2.a E.bad.length q2.c)).setCell ⟨B0 + 1 + 1 + 1, 0, none⟩ (.int .i64 er)) :
    LayBox W3 B0 t t' D0 p0 q0 (E, er) ∧ Below B0 w W3 ∧ BV ≤ W3.heap.size ∧ KeepsFrom BV W W3 ∧ Stays (BV + 2) W W3 ∧ KeepB B0 [B0 + 1 + 1 + 1 + 1] W W3 := by
  have s0 := blk_set5 y1 (.string (bs E.data)) (.slice p2.a E.cache.length p2.c) (.int .i64 E.fuse) (.bool E.off) (.slice q2.a E.bad.length q2.c)
  have s5 := blk_off5 y5 (g := B0) (by omega) (.string (bs E.data)) (.slice p2.a E.cache.length p2.c) (.int .i64 E.fuse) (.bool E.off) (.slice q2.a E.bad.length q2.c)
  have sI := blk_off5 (hI.below hb2 hI.lt) (g := B0) (by omega) (.string (bs E.data)) (.slice p2.a E.cache.length p2.c) (.int .i64 E.fuse) (.bool E.off) (.slice q2.a E.bad.length q2.c)
  have sD := i2.off5 (g := B0) (o2 B0 (by omega) (h3 _ (by omega) (fun h => absurd h (by omega)))) (.string (bs E.data)) (.slice p2.a E.cache.length p2.c) (.int .i64 E.fuse) (.bool E.off) (.slice q2.a E.bad.length q2.c)
  have sb := below_set5 (Below.refl (B0) W2) (g := B0) (Nat.le_refl _) (.string (bs E.data)) (.slice p2.a E.cache.length p2.c) (.int .i64 E.fuse) (.bool E.off) (.slice q2.a E.bad.length q2.c)
  have sk : ∀ g, g ≠ B0 → (((((W2.setCell ⟨B0, 0, none⟩ (.string (bs E.data))).setCell ⟨B0, 1, none⟩ (.slice p2.a E.cache.length p2.c)).setCell ⟨B0, 2, none⟩ (.int .i64 E.fuse)).setCell ⟨B0, 3, none⟩ (.bool E.off)).setCell ⟨B0, 4, none⟩ (.slice q2.a E.bad.length q2.c)).heap[g]? = W2.heap[g]? := fun g hg => by
    rw [Below.heap_setCell _ _ _ _ hg, Below.heap_setCell _ _ _ _ hg, Below.heap_setCell _ _ _ _ hg, Below.heap_setCell _ _ _ _ hg, Below.heap_setCell _ _ _ _ hg]
  have so : KeepsOthers W2 (((((W2.setCell ⟨B0, 0, none⟩ (.string (bs E.data))).setCell ⟨B0, 1, none⟩ (.slice p2.a E.cache.length p2.c)).setCell ⟨B0, 2, none⟩ (.int .i64 E.fuse)).setCell ⟨B0, 3, none⟩ (.bool E.off)).setCell ⟨B0, 4, none⟩ (.slice q2.a E.bad.length q2.c)) :=
    ((((KeepsOthers.setCell _ _ _).trans (KeepsOthers.setCell _ _ _)).trans (KeepsOthers.setCell _ _ _)).trans (KeepsOthers.setCell _ _ _)).trans (KeepsOthers.setCell _ _ _)
  generalize (((((W2.setCell ⟨B0, 0, none⟩ (.string (bs E.data))).setCell ⟨B0, 1, none⟩ (.slice p2.a E.cache.length p2.c)).setCell ⟨B0, 2, none⟩ (.int .i64 E.fuse)).setCell ⟨B0, 3, none⟩ (.bool E.off)).setCell ⟨B0, 4, none⟩ (.slice q2.a E.bad.length q2.c)) = U at *
  subst e
  have hU := sb.size
  have hW2 := hb2.size
  have hne : ∀ g, g ≠ B0 → g ≠ B0 + 1 + 1 + 1 → (U.setCell ⟨B0 + 1 + 1 + 1, 0, none⟩ (.int .i64 er)).heap[g]? = W2.heap[g]? := fun g h1 h2 => (Below.heap_setCell _ _ _ _ h2).trans (sk g h1)
  have hsb : Below B0 W2 (U.setCell ⟨B0 + 1 + 1 + 1, 0, none⟩ (.int .i64 er)) := sb.setCell (p := ⟨B0 + 1 + 1 + 1, 0, none⟩) (by simp; omega) _
  have h2 : Below B0 W (U.setCell ⟨B0 + 1 + 1 + 1, 0, none⟩ (.int .i64 er)) := (hb2.mono (by omega)).trans hsb
  refine ⟨⟨⟨p2, q2, s0.other (a := ⟨B0 + 1 + 1 + 1, 0, none⟩) (by simp; omega) _, sD.off (a := ⟨B0 + 1 + 1 + 1, 0, none⟩) (o2 (B0 + 1 + 1 + 1) (by omega) (h3 (B0 + 1 + 1 + 1) (by omega) (fun h => absurd h (by omega)))) _, fun g g1 g2 => o2 g (by omega) (h3 g g1 g2)⟩, sI.other (a := ⟨B0 + 1 + 1 + 1, 0, none⟩) (by simp) _, ?_⟩, hb.trans h2, by simp; omega,
    (keepsFrom_below hb2).trans ((so.trans (KeepsOthers.setCell _ _ _)).from _), (Stays.below hb2 (Nat.le_refl _)).trans ⟨hsb.size, fun k hk _ => hne k (by omega) (by omega)⟩, ⟨h2, fun g hg => ?_⟩⟩
  · have := s5.set 0 (.int .i64 er)
    simpa using this
  · obtain rfl : g = B0 + 1 + 1 + 1 + 1 := by simpa using hg
    exact (hne _ (by omega) (by omega)).trans (hb2.block _ (by omega))
theorem lay_end {w U : World} {B0 : Nat} {t : TypeId} {X : Dk} {p1 q1 : Pl} (hb : Below B0 w U)
    (h4 : Blk U (B0 + 1 + 1) t #[.string (bs []), .slice none 0 0, .int .i64 0, .bool false, .slice none 0 0]) {D0 : Dk} {p0 q0 : Pl} (h3 : ∀ g, g ≤ B0 + 1 + 1 + 1 + 1 → (g < B0 → DkOff g D0 p0 q0) → DkOff g X p1 q1)
    (h2 : IsDk U X p1 q1) {Dd : Nat} (hDd : B0 + 1 + 1 < Dd) (hK : U.heap[Dd]? = some (.deferred (some []))) {U2 : World}
    (e : U2 = (((((U.setCell ⟨B0 + 1 + 1, 0, none⟩ (.string (bs X.data))).setCell ⟨B0 + 1 + 1, 1, none⟩ (.slice p1.a X.cache.length p1.c)).setCell ⟨B0 + 1 + 1, 2, none⟩ (.int .i64 X.fuse)).setCell ⟨B0 + 1 + 1, 3, none⟩ (.bool X.off)).setCell ⟨B0 + 1 + 1, 4, none⟩ (.slice q1.a X.bad.length q1.c)).drew) :
    U2.heap[Dd]? = some (.deferred (some [])) ∧ Blk (U2.putObj Dd (.deferred none)) (B0 + 1 + 1) t #[.string (bs X.data), .slice p1.a X.cache.length p1.c, .int .i64 X.fuse, .bool X.off, .slice q1.a X.bad.length q1.c] ∧
      IsDk (U2.putObj Dd (.deferred none)) X p1 q1 ∧ Below B0 w (U2.putObj Dd (.deferred none)) := by
  have s0 := blk_set5 h4 (.string (bs X.data)) (.slice p1.a X.cache.length p1.c) (.int .i64 X.fuse) (.bool X.off) (.slice q1.a X.bad.length q1.c)
  have sD := h2.off5 (g := B0 + 1 + 1) (h3 _ (by omega) (fun h => absurd h (by omega))) (.string (bs X.data)) (.slice p1.a X.cache.length p1.c) (.int .i64 X.fuse) (.bool X.off) (.slice q1.a X.bad.length q1.c)
  have sb := below_set5 hb (g := B0 + 1 + 1) (by omega) (.string (bs X.data)) (.slice p1.a X.cache.length p1.c) (.int .i64 X.fuse) (.bool X.off) (.slice q1.a X.bad.length q1.c)
  have sk : (((((U.setCell ⟨B0 + 1 + 1, 0, none⟩ (.string (bs X.data))).setCell ⟨B0 + 1 + 1, 1, none⟩ (.slice p1.a X.cache.length p1.c)).setCell ⟨B0 + 1 + 1, 2, none⟩ (.int .i64 X.fuse)).setCell ⟨B0 + 1 + 1, 3, none⟩ (.bool X.off)).setCell ⟨B0 + 1 + 1, 4, none⟩ (.slice q1.a X.bad.length q1.c)).heap[Dd]? = U.heap[Dd]? := by
    have hg : Dd ≠ B0 + 1 + 1 := by omega
    rw [Below.heap_setCell _ _ _ _ hg, Below.heap_setCell _ _ _ _ hg, Below.heap_setCell _ _ _ _ hg, Below.heap_setCell _ _ _ _ hg, Below.heap_setCell _ _ _ _ hg]
  subst e
  generalize (((((U.setCell ⟨B0 + 1 + 1, 0, none⟩ (.string (bs X.data))).setCell ⟨B0 + 1 + 1, 1, none⟩ (.slice p1.a X.cache.length p1.c)).setCell ⟨B0 + 1 + 1, 2, none⟩ (.int .i64 X.fuse)).setCell ⟨B0 + 1 + 1, 3, none⟩ (.bool X.off)).setCell ⟨B0 + 1 + 1, 4, none⟩ (.slice q1.a X.bad.length q1.c)) = T at *
  have hK2 : T.drew.heap[Dd]? = some (.deferred (some [])) := sk.trans hK
  refine ⟨hK2, s0.drew.at_ (World.putObj_heap_other (by omega)), (sD.below (Below.refl _ T).drew).kept (grownBy_putObj' _ _ _) (fun r e => by cases e; exact ⟨_, hK2, rfl⟩), ?_⟩
  exact sb.drew.trans (KeepB.putObj (bs := []) _ (by omega) (fun g hg => by cases hg)).below
set_option maxRecDepth 100000 in
set_option maxHeartbeats 1000000 in
theorem pl_lay (D : Dk) (L : Pn) (p q p' q' : Pl) (w : World) (hD : IsDk w D p q) (hL : IsPn w L p' q') (hlen : L.targets.length = L.data.length) (hmany : L.targets.length ≤ 1000000) :
    Calls Tryz.prog 145 #[dval D p q, pval L p' q'] w fun e w' => RetDkN w.heap.size D p q (Pn.lay D L) e w' ∧ Below w.heap.size w w' := by
  have n1 : 1 ≤ 6 := by omega
  have hLW := fun (W : World) (hb : Below w.heap.size w W) => (hL.below hb : IsPn W L p' q')
  have hDW := fun (W : World) (hb : Below w.heap.size w W) => (hD.below hb : IsDk W D p q)
  have HDo := hid (fun g (hg : w.heap.size ≤ g) => hD.apart hg)
  have Hlen := hid hlen
  clear hD hL hlen
  obtain ⟨A1, a1⟩ := p
  obtain ⟨A2, a2⟩ := q
  obtain ⟨B1, b1⟩ := p'
  obtain ⟨B2, b2⟩ := q'
  refine (callsIn_wide (n := 6)).1 (callsIn_of_wp_marks Tryz.func145 rfl trivial (wpIn_wide.2 ?_) rfl)
  simp only [Tryz.ntmps145, List.size_toArray, List.length_cons, List.length_nil, Nat.reduceAdd, Nat.reduceSub, Array.replicate_succ, Array.replicate_zero, List.push_toArray, List.append_toArray, List.nil_append, List.cons_append]
  go_wp2_with fail
  go_step3
  go_wp2_with fail
  go_step3
  go_wp2_with (go_at_call 188; refine (callsIn_wide.1 (sectors_in 5 L ⟨B1, b1⟩ ⟨B2, b2⟩ _)).mono ?_; rintro e w3 ⟨rfl, rfl⟩)
  have hB := Below.refl w.heap.size w
  have x := Blk.new w 25 #[.string (bs D.data), .slice A1 D.cache.length a1, .int .i64 D.fuse, .bool D.off, .slice A2 D.bad.length a2]
  have xk := blk5 x
  have hB_1 := hB.alloc hB.size (.cells #[.string (bs D.data), .slice A1 D.cache.length a1, .int .i64 D.fuse, .bool D.off, .slice A2 D.bad.length a2] 25)
  have hB_2 := hB_1.alloc hB_1.size (.cells #[.slice B1 L.targets.length b1, .slice B2 L.data.length b2] 28)
  have x_3 := x.alloc (.cells #[.slice B1 L.targets.length b1, .slice B2 L.data.length b2] 28)
  have xk_3 := blk5 x_3
  have r0 := Blk.new ((w.alloc (.cells #[.string (bs D.data), .slice A1 D.cache.length a1, .int .i64 D.fuse, .bool D.off, .slice A2 D.bad.length a2] 25)).alloc (.cells #[.slice B1 L.targets.length b1, .slice B2 L.data.length b2] 28)) 25 #[.string (bs []), .slice none 0 0, .int .i64 0, .bool false, .slice none 0 0]
  simp only [World.size_alloc] at r0
  have r0k := blk5 r0
  have hB_4 := hB_2.alloc hB_2.size (.cells #[.string (bs []), .slice none 0 0, .int .i64 0, .bool false, .slice none 0 0] 25)
  have x_5 := x_3.alloc (.cells #[.string (bs []), .slice none 0 0, .int .i64 0, .bool false, .slice none 0 0] 25)
  have xk_5 := blk5 x_5
  have r1 := Blk.new (((w.alloc (.cells #[.string (bs D.data), .slice A1 D.cache.length a1, .int .i64 D.fuse, .bool D.off, .slice A2 D.bad.length a2] 25)).alloc (.cells #[.slice B1 L.targets.length b1, .slice B2 L.data.length b2] 28)).alloc (.cells #[.string (bs []), .slice none 0 0, .int .i64 0, .bool false, .slice none 0 0] 25)) 43 #[.int .i64 0]
  simp only [World.size_alloc] at r1
  have r1k := blk1 r1
  have hB_6 := hB_4.alloc hB_4.size (.cells #[.int .i64 0] 43)
  have x_7 := x_5.alloc (.cells #[.int .i64 0] 43)
  have xk_7 := blk5 x_7
  have r0_8 := r0.alloc (.cells #[.int .i64 0] 43)
  have r0k_8 := blk5 r0_8
  have bp := Blk.new ((((w.alloc (.cells #[.string (bs D.data), .slice A1 D.cache.length a1, .int .i64 D.fuse, .bool D.off, .slice A2 D.bad.length a2] 25)).alloc (.cells #[.slice B1 L.targets.length b1, .slice B2 L.data.length b2] 28)).alloc (.cells #[.string (bs []), .slice none 0 0, .int .i64 0, .bool false, .slice none 0 0] 25)).alloc (.cells #[.int .i64 0] 43)) 28 #[.slice B1 L.targets.length b1, .slice B2 L.data.length b2]
  simp only [World.size_alloc] at bp
  have bpk := blk2 bp
  have hB_9 := hB_6.alloc hB_6.size (.cells #[.slice B1 L.targets.length b1, .slice B2 L.data.length b2] 28)
  have x_10 := x_7.alloc (.cells #[.slice B1 L.targets.length b1, .slice B2 L.data.length b2] 28)
  have xk_10 := blk5 x_10
  have r0_11 := r0_8.alloc (.cells #[.slice B1 L.targets.length b1, .slice B2 L.data.length b2] 28)
  have r0k_11 := blk5 r0_11
  have r1_12 := r1.alloc (.cells #[.slice B1 L.targets.length b1, .slice B2 L.data.length b2] 28)
  have r1k_12 := blk1 r1_12
  generalize (((((w.alloc (.cells #[.string (bs D.data), .slice A1 D.cache.length a1, .int .i64 D.fuse, .bool D.off, .slice A2 D.bad.length a2] 25)).alloc (.cells #[.slice B1 L.targets.length b1, .slice B2 L.data.length b2] 28)).alloc (.cells #[.string (bs []), .slice none 0 0, .int .i64 0, .bool false, .slice none 0 0] 25)).alloc (.cells #[.int .i64 0] 43)).alloc (.cells #[.slice B1 L.targets.length b1, .slice B2 L.data.length b2] 28)) = V at hB_9 x_10 xk_10 r0_11 r0k_11 r1_12 r1k_12 bp bpk ⊢
  clear hB_1 hB_2 xk_3 x_3 hB_4 xk_5 x_5 hB_6 xk_7 x_7 r0k_8 r0_8 hB x r0 r1 xk r0k r1k
  have hB := hB_9
  have x := x_10
  have xk := xk_10
  have r0 := r0_11
  have r0k := r0k_11
  have r1 := r1_12
  have r1k := r1k_12
  clear hB_9 x_10 xk_10 r0_11 r0k_11 r1_12 r1k_12
  have vl : w.heap.size + 1 + 1 + 1 + 1 < V.heap.size := bp.lt
  have hbs : ∀ g ∈ [w.heap.size + 1 + 1 + 1 + 1], g < V.heap.size ∧ w.heap.size + 1 + 1 + 1 < g := fun g hg => by
    simp only [List.mem_cons, List.not_mem_nil, or_false] at hg
    omega
  have Hsec := hid (fun (y : Fin L.secs.length) => show (-9223372036854775808 ≤ L.secs[y.val].1 ∧ L.secs[y.val].1 ≤ 9223372036854775807) ∧ L.secs[y.val].2.length ≤ 9223372036854775807 by
    obtain ⟨m1, m2, e⟩ := secs_at L y.val y.isLt
    have hP := hLW V hB
    rw [e]
    exact ⟨hP.ats _ (List.getElem_mem m1), hP.strs _ (List.getElem_mem m2)⟩)
  refine (wpIn_wide (n := 6)).1 ?_
  refine range_own rfl n1 (gf := 213) (lb := #[.pointer (some ⟨w.heap.size + 1 + 1 + 1 + 1, 0, none⟩)]) rfl trivial (enters_of Tryz.func213 (by kernel_rfl) rfl)
    (sectors_stops 5 (by omega) L ⟨B1, b1⟩ ⟨B2, b2⟩ Hlen.out hmany w.heap.size _ V hB.size (fun W hb => hLW W (hB.trans hb)) bp)
    KeepB.trans (fun W l o o' q1 q2 q3 q4 => KeepB.putObj o' (by omega) (fun g hg => by have := hbs g hg; omega)) (Below.refl _ _) (fun _ => rfl)
    (fun pre W => LayBox W w.heap.size 25 43 D ⟨A1, a1⟩ ⟨A2, a2⟩ (Dk.layIn (picked L.secs pre) D) ∧ Hid ((Dk.layIn (picked L.secs pre) D).2 = 0) ∧ Below w.heap.size w W ∧ V.heap.size ≤ W.heap.size)
    (fun c pre W => c = .exit 0 ∧ LayBox W w.heap.size 25 43 D ⟨A1, a1⟩ ⟨A2, a2⟩ (Dk.layIn (picked L.secs pre) D) ∧ Hid ((Dk.layIn (picked L.secs pre) D).2 ≠ 0) ∧ Below w.heap.size w W)
    ?hI ?hIx ?h0
    (fun y a' W => a' = { tmps := #[dval D ⟨A1, a1⟩ ⟨A2, a2⟩, pval L ⟨B1, b1⟩ ⟨B2, b2⟩, .pointer (some ⟨w.heap.size, 0, none⟩), .pointer (some ⟨w.heap.size + 1, 0, none⟩), .pointer (some ⟨w.heap.size + 1 + 1, 0, none⟩), .int .i64 0, .pointer (some ⟨w.heap.size + 1 + 1 + 1, 0, none⟩), .int .i64 L.secs[y.val].1, .string (bs L.secs[y.val].2),
      .agg #[.slice B1 L.targets.length b1, .slice B2 L.data.length b2], .func (.func 213) #[] #[.pointer (some ⟨w.heap.size + 1 + 1 + 1 + 1, 0, none⟩)], .int .i64 L.secs[y.val].1, .string (bs L.secs[y.val].2), undef, undef, undef, undef, undef, undef, undef, undef, undef, undef, undef], defers := [] })
    (fun _ _ _ _ _ _ hs _ _ => hs) ?assign ?body ?done ?stop
  case hI =>
    rintro pre X Y row ⟨h1, h2, h3, h4⟩ hy hr
    exact ⟨layBox_own _ _ _ _ _ _ _ _ () X Y row h1 hy hr, h2, ownFrom_below (β := Unit) (Nat.le_refl _) hB.size () X Y row h3 hy hr, Nat.le_trans h4 hy.size⟩
  case hIx =>
    rintro c pre X Y row ⟨h0, h1, h2, h3⟩ hy hr
    exact ⟨h0, layBox_own _ _ _ _ _ _ _ _ () X Y row h1 hy hr, h2, ownFrom_below (β := Unit) (Nat.le_refl _) hB.size () X Y row h3 hy hr⟩
  case h0 => exact ⟨⟨⟨⟨A1, a1⟩, ⟨A2, a2⟩, x, hDW _ hB, fun g _ h2 => by rcases Nat.lt_or_ge g w.heap.size with h | h; (exact h2 h); (exact HDo.out g h)⟩, r0, r1⟩, hid rfl, hB, Nat.le_refl _⟩
  case assign =>
    rintro l pre y W K hI hK
    dsimp only [secEnc]
    gi_wp2
    exact hK _ _ (KeepsFrom.refl _ _) (Stays.refl _ _) (KeepB.refl _ _ _) hI rfl
  case body =>
    rintro l pre y a' W ⟨⟨⟨p1, q1, h1, h2, h3⟩, h4, h5⟩, he0, hb, hs⟩ rfl hpl
    obtain ⟨⟨X, xe⟩, hX⟩ : ∃ X, Dk.layIn (picked L.secs pre) D = X := ⟨_, rfl⟩
    obtain ⟨⟨E, er⟩, hE⟩ : ∃ X', X.write L.secs[y.val].1 L.secs[y.val].2 = X' := ⟨_, rfl⟩
    have Hn := hid (show Dk.layIn (picked L.secs (pre ++ [y])) D = (E, er) by rw [picked_snoc, Dk.layIn_snoc _ _ _ he0.out, hX]; exact hE)
    rw [hX] at h1 h2 h3 h5
    have hw := d_write_n X p1 q1 W h2 L.secs[y.val].1 (Hsec.out y).1 L.secs[y.val].2 (Hsec.out y).2
    rw [hE] at hw
    simp only at h1 h3 h5 hw
    clear hX hE he0 h2
    have Hsz := hid hs
    have Hb := hid hb
    have HI := hid h4
    generalize L.secs[y.val].1 = k at *
    generalize L.secs[y.val].2 = s at *
    have z1 := blk5 h1
    have H3 := hid h3
    clear h3 h4 hs hb
    by_cases he : er = 0
    · subst he
      gi_wp2_with fail
      refine ⟨trivial, (CallsIn.inRound l (callsIn_wide.2 hw)).mono ?_⟩
      rintro e W2 ⟨⟨p2, q2, rfl, i2, o2⟩, hb2⟩
      have y1 := h1.below hb2 h1.lt
      have y5 := h5.below hb2 h5.lt
      have u1 := blk5 y1
      have u5 := blk1 y5
      have v1 := y1.frozen
      have v5 := y5.frozen
      gi_wp2
      obtain ⟨l1, l2, l3, l4, l5, l6⟩ := lay_step Hsz.out vl Hb.out hb2 y1 y5 HI.out H3.out i2 o2 rfl
      exact ⟨l4, ⟨l5, l6⟩, by rw [Hn.out]; exact l1, hid (by rw [Hn.out]), l2, l3⟩
    · have n2 : (er != 0) = true := by simpa using he
      have He := hid he
      clear he
      gi_wp2_with fail
      refine ⟨trivial, (CallsIn.inRound l (callsIn_wide.2 hw)).mono ?_⟩
      rintro e W2 ⟨⟨p2, q2, rfl, i2, o2⟩, hb2⟩
      have y1 := h1.below hb2 h1.lt
      have y5 := h5.below hb2 h5.lt
      have u1 := blk5 y1
      have u5 := blk1 y5
      have v1 := y1.frozen
      have v5 := y5.frozen
      gi_wp2
      obtain ⟨l1, l2, l3, l4, l5, l6⟩ := lay_step Hsz.out vl Hb.out hb2 y1 y5 HI.out H3.out i2 o2 rfl
      exact ⟨l4, rfl, by rw [Hn.out]; exact l1, hid (by rw [Hn.out]; exact He.out), l2⟩
  case done =>
    rintro Dd ys U hDd hS ⟨⟨⟨p1, q1, h1, h2, h3⟩, h4, h5⟩, he0, hb, hs⟩ hK
    rw [hS] at h1 h2 h3 h5 he0
    obtain ⟨X, hX⟩ : ∃ X, Dk.layIn L.secs D = X := ⟨_, rfl⟩
    rw [hX] at h1 h2 h3 h5 he0
    obtain ⟨X, xe⟩ := X
    have Hl := hid (show Pn.lay D L = (X, xe) from hX)
    clear hX hS
    simp only at h1 h2 h3 h5
    have z1 := blk5 h1
    have z4 := blk5 h4
    have z5 := blk1 h5
    have v4 := h4.frozen
    go_wp2_with fail
    go_region
    go_wp2_with fail
    obtain ⟨m1, m2, m3, m4⟩ := lay_end hb h4 h3 h2 (Dd := Dd) (by omega) hK rfl
    have d0 := blk5 m2
    refine ⟨by simp, .inl ⟨_, _, rfl, run_takeDeferred m1, ?_⟩⟩
    refine ⟨.tuple #[dval X p1 q1, .int .i64 xe], by simp [results, Tryz.results145, go_sem, d0], ⟨p1, q1, by rw [Hl.out], by rw [Hl.out]; exact m3, ?_⟩, m4⟩
    rw [Hl.out]
    exact fun g g1 g2 => h3 g (by omega) (fun _ => g2)
  case stop =>
    rintro Dd c pre U hDd ⟨m, hm, hpre⟩ ⟨rfl, ⟨⟨p1, q1, h1, h2, h3⟩, h4, h5⟩, he0, hb⟩ hK
    obtain ⟨X, hX⟩ : ∃ X, Dk.layIn (picked L.secs pre) D = X := ⟨_, rfl⟩
    rw [hX] at h1 h2 h3 h5 he0
    obtain ⟨X, xe⟩ := X
    have Hl := hid (show Pn.lay D L = (X, xe) by
      have e : L.secs = picked L.secs pre ++ L.secs.drop (m + 1) := by rw [hpre, List.take_append_drop]
      show Dk.layIn L.secs D = _
      rw [e, Dk.layIn_stop _ _ _ (by rw [hX]; exact he0.out), hX])
    clear hX hpre
    simp only at h1 h2 h3 h5
    have z1 := blk5 h1
    have z4 := blk5 h4
    have z5 := blk1 h5
    have v4 := h4.frozen
    refine wpIn_wide.2 ?_
    go_wp2_with fail
    go_region
    go_wp2_with fail
    obtain ⟨m1, m2, m3, m4⟩ := lay_end hb h4 h3 h2 (Dd := Dd) (by omega) hK rfl
    have d0 := blk5 m2
    refine ⟨by simp, .inl ⟨_, _, rfl, run_takeDeferred m1, ?_⟩⟩
    refine ⟨.tuple #[dval X p1 q1, .int .i64 xe], by simp [results, Tryz.results145, go_sem, d0], ⟨p1, q1, by rw [Hl.out], by rw [Hl.out]; exact m3, ?_⟩, m4⟩
    rw [Hl.out]
    exact fun g g1 g2 => h3 g (by omega) (fun _ => g2)
end Go.Proofs.YtplgmlcoeehnfaaGreat
