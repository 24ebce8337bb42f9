/- DevSpoils: a sector that is refused is neither read nor written, costs no fuse, and is as it was when it is refused no more: any device, any place, any text. No condition. -/
import Derived.Test.YtjpjpiejcpeepaaLaw01c
import Derived.Test.YtjpjpiejcpeepaaSpoil2
import Derived.Test.YtjpjpiejcpeepaaDevLaw
import Derived.Test.YtjpjpiejcpeepaaOpen
import Derived.Test.YtjpjpiejcpeepaaShut
set_option linter.unusedVariables false
namespace Go.Proofs.Ytjpjpiejcpeepaa.devSpoils
open Go.RowKit Go.Shelf Go.WideShapes Go.ChangeShapes Go.ChangeAt
open Go.ChangeMaps (open_string shut_string)
attribute [local go_sem] bs_mk bs_append bs_extract bs_size bs_toList bs_get

theorem pairwise_incr : ∀ (l : List Int), l.Pairwise (· < ·) → incr l = true
  | [], _ => rfl
  | [a], _ => rfl
  | a :: b :: l, h => by
    obtain ⟨h1, h2⟩ := List.pairwise_cons.1 h
    simp only [incr, Bool.and_eq_true, decide_eq_true_eq]
    exact ⟨h1 b (by simp), pairwise_incr (b :: l) h2⟩
theorem spoilt_incr {l : List Int} (h : incr l = true) (k : Int) (is : Bool) : incr (Dk.spoilt l k is) = true := by
  have hp := incr_pairwise l h
  refine pairwise_incr _ ?_
  rw [Dk.spoilt]
  split
  · split
    · exact hp
    · rw [List.pairwise_append]
      refine ⟨hp.filter _, List.pairwise_cons.2 ⟨fun y hy => ?_, hp.filter _⟩, fun x hx y hy => ?_⟩
      · simpa using (List.mem_filter.1 hy).2
      · have h1 : x < k := by simpa using (List.mem_filter.1 hx).2
        rcases List.mem_cons.1 hy with rfl | hy
        · exact h1
        · have h2 : k < y := by simpa using (List.mem_filter.1 hy).2
          omega
  · exact hp.filter _

set_option maxRecDepth 100000 in
theorem walk_heavy (D : Dk) (p q : Pl) (k : Int) (s : List UInt8) (w : World) (h0 : IsDk0 w D p q) (hl : light D = false) :
    Calls Try.prog 11 #[dval D p q, .int .i64 k, .string (bs s)] w fun e w' => e = .returned (.bool true) ∧ Below w.heap.size w w' := by
  have m1 := h0.data
  have m2 := Nat.le_trans h0.pc h0.pm
  have m3 := Nat.le_trans h0.qc h0.qm
  have hL := fun (W : World) => light0 D p q W m1 m2 m3
  rw [hl] at hL
  clear h0 hl
  obtain ⟨A1, a1⟩ := p
  obtain ⟨A2, a2⟩ := q
  have hB := Below.refl w.heap.size w
  have x := Blk.new w 25 #[.string (bs D.data), .slice A1 D.cache.length a1, .int .i64 D.fuse, .bool D.off, .slice A2 D.bad.length a2]
  have xk := blk5 x
  have hB_1 := hB.alloc hB.size (.cells #[.string (bs D.data), .slice A1 D.cache.length a1, .int .i64 D.fuse, .bool D.off, .slice A2 D.bad.length a2] 25)
  go_enter Try.func11, Try.ntmps11
  go_wp2_with fail
  go_at_call 19
  refine ((hL _)).mono ?_
  rintro e w1 ⟨rfl, hb1⟩
  replace hB := bt hB_1 hb1
  replace x := x.below hb1 x.lt
  replace xk := blk5 x
  clear hB_1
  go_wp2_with fail
  go_at_call 21
  refine ((awake01 _)).mono ?_
  rintro e wa ⟨rfl, hba⟩
  replace hB := bt hB hba
  replace x := x.below hba x.lt
  replace xk := blk5 x
  go_wp2_with fail
  go_ret
  exact ⟨rfl, hB⟩

set_option maxRecDepth 100000 in
theorem walk_unfit (D : Dk) (p q : Pl) (k : Int) (s : List UInt8) (w : World) (h0 : IsDk w D p q) (hl : light D = true) (hf : D.fit = false) :
    Calls Try.prog 11 #[dval D p q, .int .i64 k, .string (bs s)] w fun e w' => e = .returned (.bool true) ∧ Below w.heap.size w w' := by
  have m1 := h0.data
  have m2 := Nat.le_trans h0.pc h0.pm
  have m3 := Nat.le_trans h0.qc h0.qm
  have hL := fun (W : World) => light0 D p q W (by omega) m2 m3
  rw [hl] at hL
  have l2 := (light_of hl).2.1
  have hFt := fun (W : World) (hb : Below w.heap.size w W) => r1_fit D p q W (h0.below hb) (by omega)
  rw [hf] at hFt
  clear h0 hl hf
  obtain ⟨A1, a1⟩ := p
  obtain ⟨A2, a2⟩ := q
  have hB := Below.refl w.heap.size w
  have x := Blk.new w 25 #[.string (bs D.data), .slice A1 D.cache.length a1, .int .i64 D.fuse, .bool D.off, .slice A2 D.bad.length a2]
  have xk := blk5 x
  have hB_1 := hB.alloc hB.size (.cells #[.string (bs D.data), .slice A1 D.cache.length a1, .int .i64 D.fuse, .bool D.off, .slice A2 D.bad.length a2] 25)
  go_enter Try.func11, Try.ntmps11
  go_wp2_with fail
  go_at_call 19
  refine ((hL _)).mono ?_
  rintro e w1 ⟨rfl, hb1⟩
  replace hB := bt hB_1 hb1
  replace x := x.below hb1 x.lt
  replace xk := blk5 x
  clear hB_1
  go_wp2_with fail
  go_at_call 20
  refine ((hFt _ hB)).mono ?_
  rintro e w2 ⟨rfl, hb2⟩
  replace hB := bt hB hb2
  replace x := x.below hb2 x.lt
  replace xk := blk5 x
  go_wp2_with fail
  go_at_call 21
  refine ((awake01 _)).mono ?_
  rintro e wa ⟨rfl, hba⟩
  replace hB := bt hB hba
  replace x := x.below hba x.lt
  replace xk := blk5 x
  go_wp2_with fail
  go_ret
  exact ⟨rfl, hB⟩

set_option maxRecDepth 100000 in
theorem walk_off (D : Dk) (p q : Pl) (k : Int) (s : List UInt8) (w : World) (h0 : IsDk w D p q) (hl : light D = true) (hf : D.fit = true) (ho : D.off = true) :
    Calls Try.prog 11 #[dval D p q, .int .i64 k, .string (bs s)] w fun e w' => e = .returned (.bool true) ∧ Below w.heap.size w w' := by
  have m1 := h0.data
  have m2 := Nat.le_trans h0.pc h0.pm
  have m3 := Nat.le_trans h0.qc h0.qm
  have hL := fun (W : World) => light0 D p q W (by omega) m2 m3
  rw [hl] at hL
  have l2 := (light_of hl).2.1
  have hFt := fun (W : World) (hb : Below w.heap.size w W) => r1_fit D p q W (h0.below hb) (by omega)
  rw [hf] at hFt
  clear h0 hl hf l2 m1 m2 m3
  obtain ⟨data, cache, fuse, off, bad⟩ := D
  simp only at ho
  subst ho
  obtain ⟨A1, a1⟩ := p
  obtain ⟨A2, a2⟩ := q
  have hB := Below.refl w.heap.size w
  have x := Blk.new w 25 #[.string (bs data), .slice A1 cache.length a1, .int .i64 fuse, .bool true, .slice A2 bad.length a2]
  have xk := blk5 x
  have hB_1 := hB.alloc hB.size (.cells #[.string (bs data), .slice A1 cache.length a1, .int .i64 fuse, .bool true, .slice A2 bad.length a2] 25)
  go_enter Try.func11, Try.ntmps11
  go_wp2_with fail
  go_at_call 19
  refine ((hL _)).mono ?_
  rintro e w1 ⟨rfl, hb1⟩
  replace hB := bt hB_1 hb1
  replace x := x.below hb1 x.lt
  replace xk := blk5 x
  clear hB_1
  go_wp2_with fail
  go_at_call 20
  refine ((hFt _ hB)).mono ?_
  rintro e w2 ⟨rfl, hb2⟩
  replace hB := bt hB hb2
  replace x := x.below hb2 x.lt
  replace xk := blk5 x
  go_wp2_with fail
  go_at_call 21
  refine ((awake01 _)).mono ?_
  rintro e wa ⟨rfl, hba⟩
  replace hB := bt hB hba
  replace x := x.below hba x.lt
  replace xk := blk5 x
  go_wp2_with fail
  go_ret
  exact ⟨rfl, hB⟩

set_option maxRecDepth 100000 in
theorem walk_size (D : Dk) (p q : Pl) (k : Int) (s : List UInt8) (w : World) (h0 : IsDk w D p q) (hl : light D = true) (hf : D.fit = true) (ho : D.off = false) (h64 : s.length ≠ 64) (hs : s.length ≤ 9223372036854775807) :
    Calls Try.prog 11 #[dval D p q, .int .i64 k, .string (bs s)] w fun e w' => e = .returned (.bool true) ∧ Below w.heap.size w w' := by
  have m1 := h0.data
  have m2 := Nat.le_trans h0.pc h0.pm
  have m3 := Nat.le_trans h0.qc h0.qm
  have hL := fun (W : World) => light0 D p q W (by omega) m2 m3
  rw [hl] at hL
  have l2 := (light_of hl).2.1
  have hFt := fun (W : World) (hb : Below w.heap.size w W) => r1_fit D p q W (h0.below hb) (by omega)
  rw [hf] at hFt
  have n1 : ((s.length : Int) != 64) = true := by simp; omega
  clear h0 hl hf l2 m1 m2 m3 h64
  obtain ⟨data, cache, fuse, off, bad⟩ := D
  simp only at ho
  subst ho
  obtain ⟨A1, a1⟩ := p
  obtain ⟨A2, a2⟩ := q
  have hB := Below.refl w.heap.size w
  have x := Blk.new w 25 #[.string (bs data), .slice A1 cache.length a1, .int .i64 fuse, .bool false, .slice A2 bad.length a2]
  have xk := blk5 x
  have hB_1 := hB.alloc hB.size (.cells #[.string (bs data), .slice A1 cache.length a1, .int .i64 fuse, .bool false, .slice A2 bad.length a2] 25)
  go_enter Try.func11, Try.ntmps11
  go_wp2_with fail
  go_at_call 19
  refine ((hL _)).mono ?_
  rintro e w1 ⟨rfl, hb1⟩
  replace hB := bt hB_1 hb1
  replace x := x.below hb1 x.lt
  replace xk := blk5 x
  clear hB_1
  go_wp2_with fail
  go_at_call 20
  refine ((hFt _ hB)).mono ?_
  rintro e w2 ⟨rfl, hb2⟩
  replace hB := bt hB hb2
  replace x := x.below hb2 x.lt
  replace xk := blk5 x
  go_wp2_with fail
  go_at_call 21
  refine ((awake01 _)).mono ?_
  rintro e wa ⟨rfl, hba⟩
  replace hB := bt hB hba
  replace x := x.below hba x.lt
  replace xk := blk5 x
  go_wp2_with fail
  go_ret
  exact ⟨rfl, hB⟩

set_option maxRecDepth 100000 in
set_option maxHeartbeats 1000000 in
theorem walk_not (D : Dk) (p q : Pl) (k : Int) (s : List UInt8) (w : World) (h0 : IsDk w D p q) (hl : light D = true) (hf : D.fit = true) (ho : D.off = false) (h64 : s.length = 64) (hk : okInt k) (er : Int) (hX : D.spoil k true = (D, er)) (her : er ≠ 0) (hr : (D.read k).2 = 10) :
    Calls Try.prog 11 #[dval D p q, .int .i64 k, .string (bs s)] w fun e w' => e = .returned (.bool true) ∧ Below w.heap.size w w' := by
  have m1 := h0.data
  have m2 := Nat.le_trans h0.pc h0.pm
  have m3 := Nat.le_trans h0.qc h0.qm
  have hL := fun (W : World) => light0 D p q W (by omega) m2 m3
  rw [hl] at hL
  have l2 := (light_of hl).2.1
  have hFt := fun (W : World) (hb : Below w.heap.size w W) => r1_fit D p q W (h0.below hb) (by omega)
  rw [hf] at hFt
  have n1 : ((s.length : Int) != 64) = false := by simp; omega
  have hdl := (Dk.fit_parts hf).2.2.1
  have hin := (Dk.fit_parts hf).2.2.2.2.2.2
  have hbl := (light_of hl).2.2
  have c1 := fun (W : World) (hb : Below w.heap.size w W) => d_read D p q W (h0.below hb) k hdl
  have c2 := fun (W : World) (hb : Below w.heap.size w W) => d_spoil D p q W (h0.below hb) hin (by omega) k hk true
  rw [hX] at c2
  rw [hr] at c1
  have c3 := fun (W : World) (p1 q1 p2 q2 : Pl) (h1 : IsDk W D p1 q1) (h2 : IsDk W D p2 q2) => r1_same D D p1 q1 p2 q2 W h1 h2
  rw [Dk.same_self] at c3
  have Hi := hid (fun (W : World) (hb : Below w.heap.size w W) => h0.below hb)
  have n2 : (er != 0) = true := by simpa using her
  generalize (D.read k).1 = rd at c1
  clear h0 hl hf l2 m1 m2 m3 h64 hdl hin hbl hX her hr
  obtain ⟨data, cache, fuse, off, bad⟩ := D
  simp only at ho
  subst ho
  obtain ⟨A1, a1⟩ := p
  obtain ⟨A2, a2⟩ := q
  have hB := Below.refl w.heap.size w
  have x := Blk.new w 25 #[.string (bs data), .slice A1 cache.length a1, .int .i64 fuse, .bool false, .slice A2 bad.length a2]
  have xk := blk5 x
  have hB_1 := hB.alloc hB.size (.cells #[.string (bs data), .slice A1 cache.length a1, .int .i64 fuse, .bool false, .slice A2 bad.length a2] 25)
  go_enter Try.func11, Try.ntmps11
  go_wp2_with fail
  go_at_call 19
  refine ((hL _)).mono ?_
  rintro e w1 ⟨rfl, hb1⟩
  replace hB := bt hB_1 hb1
  replace x := x.below hb1 x.lt
  replace xk := blk5 x
  clear hB_1
  go_wp2_with fail
  go_at_call 20
  refine ((hFt _ hB)).mono ?_
  rintro e w2 ⟨rfl, hb2⟩
  replace hB := bt hB hb2
  replace x := x.below hb2 x.lt
  replace xk := blk5 x
  go_wp2_with fail
  go_at_call 27
  refine ((c1 _ hB)).mono ?_
  rintro e w3 ⟨rfl, hb3⟩
  replace hB := bt hB hb3
  replace x := x.below hb3 x.lt
  replace xk := blk5 x
  go_wp2_with fail
  go_at_call 41
  refine ((c2 _ hB)).mono ?_
  rintro e w4 ⟨⟨p1, q1, rfl, i1, o1⟩, hb4⟩
  replace hB := bt hB hb4
  replace x := x.below hb4 x.lt
  replace xk := blk5 x
  have y := Blk.new w4 25 #[.string (bs data), .slice p1.a cache.length p1.c, .int .i64 fuse, .bool false, .slice q1.a bad.length q1.c]
  have yk := blk5 y
  have hB_2 := hB.alloc hB.size (.cells #[.string (bs data), .slice p1.a cache.length p1.c, .int .i64 fuse, .bool false, .slice q1.a bad.length q1.c] 25)
  have x_3 := x.alloc (.cells #[.string (bs data), .slice p1.a cache.length p1.c, .int .i64 fuse, .bool false, .slice q1.a bad.length q1.c] 25)
  have xk_3 := blk5 x_3
  have i1_4 := i1.below ((Below.refl _ _).alloc (Nat.le_refl _) (.cells #[.string (bs data), .slice p1.a cache.length p1.c, .int .i64 fuse, .bool false, .slice q1.a bad.length q1.c] 25))
  have iD := Hi.out _ hB_2
  go_wp2_with fail
  go_at_call 26
  refine ((c3 _ p1 q1 ⟨A1, a1⟩ ⟨A2, a2⟩ i1_4 iD)).mono ?_
  rintro e w5 ⟨rfl, hb5⟩
  replace hB := bt hB_2 hb5
  replace x := x_3.below hb5 x_3.lt
  replace xk := blk5 x
  replace i1 := i1_4.below hb5
  replace y := y.below hb5 y.lt
  replace yk := blk5 y
  replace iD := iD.below hb5
  clear hB_2 xk_3 x_3 i1_4
  go_wp2_with fail
  go_at_call 21
  refine ((awake01 _)).mono ?_
  rintro e wa ⟨rfl, hba⟩
  replace hB := bt hB hba
  replace x := x.below hba x.lt
  replace xk := blk5 x
  replace i1 := i1.below hba
  replace y := y.below hba y.lt
  replace yk := blk5 y
  replace iD := iD.below hba
  go_wp2_with fail
  go_ret
  exact ⟨rfl, hB⟩

set_option maxRecDepth 100000 in
set_option maxHeartbeats 1000000 in
theorem walk_fuse0 (D : Dk) (p q : Pl) (k : Int) (s : List UInt8) (w : World) (h0 : IsDk w D p q) (hl : light D = true) (hf : D.fit = true) (ho : D.off = false) (h64 : s.length = 64) (hk : okInt k) (X : Dk) (hX : D.spoil k true = (X, 0)) (hXd : X.data = D.data) (hr : (X.read k).2 = 13) (hw : (X.write k s).2 = 12) (hz : D.fuse = 0) :
    Calls Try.prog 11 #[dval D p q, .int .i64 k, .string (bs s)] w fun e w' => e = .returned (.bool true) ∧ Below w.heap.size w w' := by
  have m1 := h0.data
  have m2 := Nat.le_trans h0.pc h0.pm
  have m3 := Nat.le_trans h0.qc h0.qm
  have hL := fun (W : World) => light0 D p q W (by omega) m2 m3
  rw [hl] at hL
  have l2 := (light_of hl).2.1
  have hFt := fun (W : World) (hb : Below w.heap.size w W) => r1_fit D p q W (h0.below hb) (by omega)
  rw [hf] at hFt
  have n1 : ((s.length : Int) != 64) = false := by simp; omega
  have hdl := (Dk.fit_parts hf).2.2.1
  have hin := (Dk.fit_parts hf).2.2.2.2.2.2
  have hbl := (light_of hl).2.2
  have c1 := fun (W : World) (hb : Below w.heap.size w W) => d_read D p q W (h0.below hb) k hdl
  have c2 := fun (W : World) (hb : Below w.heap.size w W) => d_spoil D p q W (h0.below hb) hin (by omega) k hk true
  rw [hX] at c2
  have c3 := fun (W : World) (p1 q1 : Pl) (h1 : IsDk W X p1 q1) => d_read X p1 q1 W h1 k (by unfold Dk.sz; rw [hXd]; exact hdl)
  rw [hr] at c3
  have c4 := fun (W : World) (p1 q1 : Pl) (h1 : IsDk W X p1 q1) => d_write X p1 q1 W h1 k hk s (by omega)
  obtain ⟨⟨Y, ye⟩, hY⟩ : ∃ Y, X.write k s = Y := ⟨_, rfl⟩
  rw [hY] at c4 hw
  simp only at hw
  subst hw
  generalize (D.read k).1 = rd at c1
  generalize (D.read k).2 = re at c1
  generalize (X.read k).1 = rx at c3
  clear h0 hl hf l2 m1 m2 m3 h64 hdl hin hbl hX hr hXd hY
  obtain ⟨data, cache, fuse, off, bad⟩ := D
  simp only at ho hz
  subst ho hz
  obtain ⟨A1, a1⟩ := p
  obtain ⟨A2, a2⟩ := q
  have hB := Below.refl w.heap.size w
  have x := Blk.new w 25 #[.string (bs data), .slice A1 cache.length a1, .int .i64 0, .bool false, .slice A2 bad.length a2]
  have xk := blk5 x
  have hB_1 := hB.alloc hB.size (.cells #[.string (bs data), .slice A1 cache.length a1, .int .i64 0, .bool false, .slice A2 bad.length a2] 25)
  go_enter Try.func11, Try.ntmps11
  go_wp2_with fail
  go_at_call 19
  refine ((hL _)).mono ?_
  rintro e w1 ⟨rfl, hb1⟩
  replace hB := bt hB_1 hb1
  replace x := x.below hb1 x.lt
  replace xk := blk5 x
  clear hB_1
  go_wp2_with fail
  go_at_call 20
  refine ((hFt _ hB)).mono ?_
  rintro e w2 ⟨rfl, hb2⟩
  replace hB := bt hB hb2
  replace x := x.below hb2 x.lt
  replace xk := blk5 x
  go_wp2_with fail
  go_at_call 27
  refine ((c1 _ hB)).mono ?_
  rintro e w3 ⟨rfl, hb3⟩
  replace hB := bt hB hb3
  replace x := x.below hb3 x.lt
  replace xk := blk5 x
  go_wp2_with fail
  go_at_call 41
  refine ((c2 _ hB)).mono ?_
  rintro e w4 ⟨⟨p1, q1, rfl, i1, o1⟩, hb4⟩
  replace hB := bt hB hb4
  replace x := x.below hb4 x.lt
  replace xk := blk5 x
  have y := Blk.new w4 25 #[.string (bs X.data), .slice p1.a X.cache.length p1.c, .int .i64 X.fuse, .bool X.off, .slice q1.a X.bad.length q1.c]
  have yk := blk5 y
  have hB_2 := hB.alloc hB.size (.cells #[.string (bs X.data), .slice p1.a X.cache.length p1.c, .int .i64 X.fuse, .bool X.off, .slice q1.a X.bad.length q1.c] 25)
  have x_3 := x.alloc (.cells #[.string (bs X.data), .slice p1.a X.cache.length p1.c, .int .i64 X.fuse, .bool X.off, .slice q1.a X.bad.length q1.c] 25)
  have xk_3 := blk5 x_3
  have i1_4 := i1.below ((Below.refl _ _).alloc (Nat.le_refl _) (.cells #[.string (bs X.data), .slice p1.a X.cache.length p1.c, .int .i64 X.fuse, .bool X.off, .slice q1.a X.bad.length q1.c] 25))
  go_wp2_with fail
  go_at_call 27
  refine ((c3 _ p1 q1 i1_4)).mono ?_
  rintro e w5 ⟨rfl, hb5⟩
  replace hB := bt hB_2 hb5
  replace x := x_3.below hb5 x_3.lt
  replace xk := blk5 x
  replace i1 := i1_4.below hb5
  replace y := y.below hb5 y.lt
  replace yk := blk5 y
  clear hB_2 xk_3 x_3 i1_4
  go_wp2_with fail
  go_at_call 25
  refine ((c4 _ p1 q1 i1)).mono ?_
  rintro e w6 ⟨⟨p2, q2, rfl, i2⟩, hb6⟩
  replace hB := bt hB hb6
  replace x := x.below hb6 x.lt
  replace xk := blk5 x
  replace i1 := i1.below hb6
  replace y := y.below hb6 y.lt
  replace yk := blk5 y
  have z := Blk.new w6 25 #[.string (bs Y.data), .slice p2.a Y.cache.length p2.c, .int .i64 Y.fuse, .bool Y.off, .slice q2.a Y.bad.length q2.c]
  have zk := blk5 z
  have hB_5 := hB.alloc hB.size (.cells #[.string (bs Y.data), .slice p2.a Y.cache.length p2.c, .int .i64 Y.fuse, .bool Y.off, .slice q2.a Y.bad.length q2.c] 25)
  have x_6 := x.alloc (.cells #[.string (bs Y.data), .slice p2.a Y.cache.length p2.c, .int .i64 Y.fuse, .bool Y.off, .slice q2.a Y.bad.length q2.c] 25)
  have xk_6 := blk5 x_6
  have i1_7 := i1.below ((Below.refl _ _).alloc (Nat.le_refl _) (.cells #[.string (bs Y.data), .slice p2.a Y.cache.length p2.c, .int .i64 Y.fuse, .bool Y.off, .slice q2.a Y.bad.length q2.c] 25))
  have y_8 := y.alloc (.cells #[.string (bs Y.data), .slice p2.a Y.cache.length p2.c, .int .i64 Y.fuse, .bool Y.off, .slice q2.a Y.bad.length q2.c] 25)
  have yk_8 := blk5 y_8
  have i2_9 := i2.below ((Below.refl _ _).alloc (Nat.le_refl _) (.cells #[.string (bs Y.data), .slice p2.a Y.cache.length p2.c, .int .i64 Y.fuse, .bool Y.off, .slice q2.a Y.bad.length q2.c] 25))
  go_wp2_with fail
  go_at_call 21
  refine ((awake01 _)).mono ?_
  rintro e wa ⟨rfl, hba⟩
  replace hB := bt hB_5 hba
  replace x := x_6.below hba x_6.lt
  replace xk := blk5 x
  replace i1 := i1_7.below hba
  replace y := y_8.below hba y_8.lt
  replace yk := blk5 y
  replace i2 := i2_9.below hba
  replace z := z.below hba z.lt
  replace zk := blk5 z
  clear hB_5 xk_6 x_6 i1_7 yk_8 y_8 i2_9
  go_wp2_with fail
  go_ret
  exact ⟨rfl, hB⟩

set_option maxRecDepth 100000 in
set_option maxHeartbeats 1000000 in
theorem walk_fuse (D : Dk) (p q : Pl) (k : Int) (s : List UInt8) (w : World) (h0 : IsDk w D p q) (hl : light D = true) (hf : D.fit = true) (ho : D.off = false) (h64 : s.length = 64) (hk : okInt k) (X Z : Dk) (hX : D.spoil k true = (X, 0)) (hXd : X.data = D.data) (hXi : incr X.bad = true) (hXb : X.bad.length ≤ 100000) (hr : (X.read k).2 = 13) (hw : X.write k s = (X, 13)) (hz : D.fuse ≠ 0)
    (hZ : X.spoil k false = (Z, 0)) (hZd : Z.data = D.data) (sd rd : List UInt8) (re : Int) (hZr : Z.read k = (sd, 0)) (hDr : D.read k = (rd, re)) (hcase : (re ≠ 0) ∨ (re = 0 ∧ sd = rd)) :
    Calls Try.prog 11 #[dval D p q, .int .i64 k, .string (bs s)] w fun e w' => e = .returned (.bool true) ∧ Below w.heap.size w w' := by
  have m1 := h0.data
  have m2 := Nat.le_trans h0.pc h0.pm
  have m3 := Nat.le_trans h0.qc h0.qm
  have hL := fun (W : World) => light0 D p q W (by omega) m2 m3
  rw [hl] at hL
  have l2 := (light_of hl).2.1
  have hFt := fun (W : World) (hb : Below w.heap.size w W) => r1_fit D p q W (h0.below hb) (by omega)
  rw [hf] at hFt
  have n1 : ((s.length : Int) != 64) = false := by simp; omega
  have hdl := (Dk.fit_parts hf).2.2.1
  have hin := (Dk.fit_parts hf).2.2.2.2.2.2
  have hbl := (light_of hl).2.2
  have c1 := fun (W : World) (hb : Below w.heap.size w W) => d_read D p q W (h0.below hb) k hdl
  have c2 := fun (W : World) (hb : Below w.heap.size w W) => d_spoil D p q W (h0.below hb) hin (by omega) k hk true
  rw [hX] at c2
  rw [hDr] at c1
  have c3 := fun (W : World) (p1 q1 : Pl) (h1 : IsDk W X p1 q1) => d_read X p1 q1 W h1 k (by unfold Dk.sz; rw [hXd]; exact hdl)
  rw [hr] at c3
  have c4 := fun (W : World) (p1 q1 : Pl) (h1 : IsDk W X p1 q1) => d_write X p1 q1 W h1 k hk s (by omega)
  rw [hw] at c4
  have c5 := fun (W : World) (p1 q1 : Pl) (h1 : IsDk W X p1 q1) => d_spoil X p1 q1 W h1 hXi hXb k hk false
  rw [hZ] at c5
  have c6 := fun (W : World) (p1 q1 : Pl) (h1 : IsDk W Z p1 q1) => d_read Z p1 q1 W h1 k (by unfold Dk.sz; rw [hZd]; exact hdl)
  rw [hZr] at c6
  have c7 := fun (W : World) (p1 q1 p2 q2 : Pl) (h1 : IsDk W X p1 q1) (h2 : IsDk W X p2 q2) => r1_same X X p1 q1 p2 q2 W h1 h2
  rw [Dk.same_self] at c7
  generalize (X.read k).1 = rx at c3
  have n2 : (D.fuse == 0) = false := by simpa using hz
  clear h0 hl hf l2 m1 m2 m3 h64 hdl hin hbl hX hr hXd hw hZ hZd hZr hDr hXi hXb hz
  obtain ⟨data, cache, fuse, off, bad⟩ := D
  simp only at ho n2
  subst ho
  obtain ⟨A1, a1⟩ := p
  obtain ⟨A2, a2⟩ := q
  have hB := Below.refl w.heap.size w
  have x := Blk.new w 25 #[.string (bs data), .slice A1 cache.length a1, .int .i64 fuse, .bool false, .slice A2 bad.length a2]
  have xk := blk5 x
  have hB_1 := hB.alloc hB.size (.cells #[.string (bs data), .slice A1 cache.length a1, .int .i64 fuse, .bool false, .slice A2 bad.length a2] 25)
  go_enter Try.func11, Try.ntmps11
  go_wp2_with fail
  go_at_call 19
  refine ((hL _)).mono ?_
  rintro e w1 ⟨rfl, hb1⟩
  replace hB := bt hB_1 hb1
  replace x := x.below hb1 x.lt
  replace xk := blk5 x
  clear hB_1
  go_wp2_with fail
  go_at_call 20
  refine ((hFt _ hB)).mono ?_
  rintro e w2 ⟨rfl, hb2⟩
  replace hB := bt hB hb2
  replace x := x.below hb2 x.lt
  replace xk := blk5 x
  go_wp2_with fail
  go_at_call 27
  refine ((c1 _ hB)).mono ?_
  rintro e w3 ⟨rfl, hb3⟩
  replace hB := bt hB hb3
  replace x := x.below hb3 x.lt
  replace xk := blk5 x
  go_wp2_with fail
  go_at_call 41
  refine ((c2 _ hB)).mono ?_
  rintro e w4 ⟨⟨p1, q1, rfl, i1, o1⟩, hb4⟩
  replace hB := bt hB hb4
  replace x := x.below hb4 x.lt
  replace xk := blk5 x
  have y := Blk.new w4 25 #[.string (bs X.data), .slice p1.a X.cache.length p1.c, .int .i64 X.fuse, .bool X.off, .slice q1.a X.bad.length q1.c]
  have yk := blk5 y
  have hB_2 := hB.alloc hB.size (.cells #[.string (bs X.data), .slice p1.a X.cache.length p1.c, .int .i64 X.fuse, .bool X.off, .slice q1.a X.bad.length q1.c] 25)
  have x_3 := x.alloc (.cells #[.string (bs X.data), .slice p1.a X.cache.length p1.c, .int .i64 X.fuse, .bool X.off, .slice q1.a X.bad.length q1.c] 25)
  have xk_3 := blk5 x_3
  have i1_4 := i1.below ((Below.refl _ _).alloc (Nat.le_refl _) (.cells #[.string (bs X.data), .slice p1.a X.cache.length p1.c, .int .i64 X.fuse, .bool X.off, .slice q1.a X.bad.length q1.c] 25))
  go_wp2_with fail
  go_at_call 27
  refine ((c3 _ p1 q1 i1_4)).mono ?_
  rintro e w5 ⟨rfl, hb5⟩
  replace hB := bt hB_2 hb5
  replace x := x_3.below hb5 x_3.lt
  replace xk := blk5 x
  replace i1 := i1_4.below hb5
  replace y := y.below hb5 y.lt
  replace yk := blk5 y
  clear hB_2 xk_3 x_3 i1_4
  go_wp2_with fail
  go_at_call 25
  refine ((c4 _ p1 q1 i1)).mono ?_
  rintro e w6 ⟨⟨p2, q2, rfl, i2⟩, hb6⟩
  replace hB := bt hB hb6
  replace x := x.below hb6 x.lt
  replace xk := blk5 x
  replace i1 := i1.below hb6
  replace y := y.below hb6 y.lt
  replace yk := blk5 y
  have z := Blk.new w6 25 #[.string (bs X.data), .slice p2.a X.cache.length p2.c, .int .i64 X.fuse, .bool X.off, .slice q2.a X.bad.length q2.c]
  have zk := blk5 z
  have hB_5 := hB.alloc hB.size (.cells #[.string (bs X.data), .slice p2.a X.cache.length p2.c, .int .i64 X.fuse, .bool X.off, .slice q2.a X.bad.length q2.c] 25)
  have x_6 := x.alloc (.cells #[.string (bs X.data), .slice p2.a X.cache.length p2.c, .int .i64 X.fuse, .bool X.off, .slice q2.a X.bad.length q2.c] 25)
  have xk_6 := blk5 x_6
  have i1_7 := i1.below ((Below.refl _ _).alloc (Nat.le_refl _) (.cells #[.string (bs X.data), .slice p2.a X.cache.length p2.c, .int .i64 X.fuse, .bool X.off, .slice q2.a X.bad.length q2.c] 25))
  have y_8 := y.alloc (.cells #[.string (bs X.data), .slice p2.a X.cache.length p2.c, .int .i64 X.fuse, .bool X.off, .slice q2.a X.bad.length q2.c] 25)
  have yk_8 := blk5 y_8
  have i2_9 := i2.below ((Below.refl _ _).alloc (Nat.le_refl _) (.cells #[.string (bs X.data), .slice p2.a X.cache.length p2.c, .int .i64 X.fuse, .bool X.off, .slice q2.a X.bad.length q2.c] 25))
  go_wp2_with fail
  go_at_call 41
  refine ((c5 _ p2 q2 i2_9)).mono ?_
  rintro e w7 ⟨⟨p3, q3, rfl, i3, o3⟩, hb7⟩
  replace hB := bt hB_5 hb7
  replace x := x_6.below hb7 x_6.lt
  replace xk := blk5 x
  replace i1 := i1_7.below hb7
  replace y := y_8.below hb7 y_8.lt
  replace yk := blk5 y
  replace i2 := i2_9.below hb7
  replace z := z.below hb7 z.lt
  replace zk := blk5 z
  clear hB_5 xk_6 x_6 i1_7 yk_8 y_8 i2_9
  have u := Blk.new w7 25 #[.string (bs Z.data), .slice p3.a Z.cache.length p3.c, .int .i64 Z.fuse, .bool Z.off, .slice q3.a Z.bad.length q3.c]
  have uk := blk5 u
  have hB_10 := hB.alloc hB.size (.cells #[.string (bs Z.data), .slice p3.a Z.cache.length p3.c, .int .i64 Z.fuse, .bool Z.off, .slice q3.a Z.bad.length q3.c] 25)
  have x_11 := x.alloc (.cells #[.string (bs Z.data), .slice p3.a Z.cache.length p3.c, .int .i64 Z.fuse, .bool Z.off, .slice q3.a Z.bad.length q3.c] 25)
  have xk_11 := blk5 x_11
  have i1_12 := i1.below ((Below.refl _ _).alloc (Nat.le_refl _) (.cells #[.string (bs Z.data), .slice p3.a Z.cache.length p3.c, .int .i64 Z.fuse, .bool Z.off, .slice q3.a Z.bad.length q3.c] 25))
  have y_13 := y.alloc (.cells #[.string (bs Z.data), .slice p3.a Z.cache.length p3.c, .int .i64 Z.fuse, .bool Z.off, .slice q3.a Z.bad.length q3.c] 25)
  have yk_13 := blk5 y_13
  have i2_14 := i2.below ((Below.refl _ _).alloc (Nat.le_refl _) (.cells #[.string (bs Z.data), .slice p3.a Z.cache.length p3.c, .int .i64 Z.fuse, .bool Z.off, .slice q3.a Z.bad.length q3.c] 25))
  have z_15 := z.alloc (.cells #[.string (bs Z.data), .slice p3.a Z.cache.length p3.c, .int .i64 Z.fuse, .bool Z.off, .slice q3.a Z.bad.length q3.c] 25)
  have zk_15 := blk5 z_15
  have i3_16 := i3.below ((Below.refl _ _).alloc (Nat.le_refl _) (.cells #[.string (bs Z.data), .slice p3.a Z.cache.length p3.c, .int .i64 Z.fuse, .bool Z.off, .slice q3.a Z.bad.length q3.c] 25))
  go_wp2_with fail
  go_at_call 27
  refine ((c6 _ p3 q3 i3_16)).mono ?_
  rintro e w8 ⟨rfl, hb8⟩
  replace hB := bt hB_10 hb8
  replace x := x_11.below hb8 x_11.lt
  replace xk := blk5 x
  replace i1 := i1_12.below hb8
  replace y := y_13.below hb8 y_13.lt
  replace yk := blk5 y
  replace i2 := i2_14.below hb8
  replace z := z_15.below hb8 z_15.lt
  replace zk := blk5 z
  replace i3 := i3_16.below hb8
  replace u := u.below hb8 u.lt
  replace uk := blk5 u
  clear hB_10 xk_11 x_11 i1_12 yk_13 y_13 i2_14 zk_15 z_15 i3_16
  go_wp2_with fail
  go_at_call 26
  refine ((c7 _ p1 q1 p2 q2 i1 i2)).mono ?_
  rintro e w9 ⟨rfl, hb9⟩
  replace hB := bt hB hb9
  replace x := x.below hb9 x.lt
  replace xk := blk5 x
  replace i1 := i1.below hb9
  replace y := y.below hb9 y.lt
  replace yk := blk5 y
  replace i2 := i2.below hb9
  replace z := z.below hb9 z.lt
  replace zk := blk5 z
  replace i3 := i3.below hb9
  replace u := u.below hb9 u.lt
  replace uk := blk5 u
  rcases hcase with hc | ⟨rfl, rfl⟩
  · have n3 : (re != 0) = true := by simpa using hc
    clear hc
    go_wp2_with fail
    go_at_call 21
    refine ((awake01 _)).mono ?_
    rintro e wa ⟨rfl, hba⟩
    replace hB := bt hB hba
    replace x := x.below hba x.lt
    replace xk := blk5 x
    replace i1 := i1.below hba
    replace y := y.below hba y.lt
    replace yk := blk5 y
    replace i2 := i2.below hba
    replace z := z.below hba z.lt
    replace zk := blk5 z
    replace i3 := i3.below hba
    replace u := u.below hba u.lt
    replace uk := blk5 u
    go_wp2_with fail
    go_ret
    exact ⟨rfl, hB⟩
  · go_wp2_with fail
    go_at_call 21
    refine ((awake01 _)).mono ?_
    rintro e wa ⟨rfl, hba⟩
    replace hB := bt hB hba
    replace x := x.below hba x.lt
    replace xk := blk5 x
    replace i1 := i1.below hba
    replace y := y.below hba y.lt
    replace yk := blk5 y
    replace i2 := i2.below hba
    replace z := z.below hba z.lt
    replace zk := blk5 z
    replace i3 := i3.below hba
    replace u := u.below hba u.lt
    replace uk := blk5 u
    go_wp2_with fail
    go_ret
    exact ⟨rfl, hB⟩
theorem walk (w : World) (D : Dk) (p q : Pl) (h0 : IsDk0 w D p q) (k : Int) (wk : (Lit.int .i64 k).wf = true) (s0 : ByteArray) (ws : s0.size ≤ maxLen) :
    Calls Try.prog 11 #[dval D p q, .int .i64 k, .string s0] w fun e w' => e = .returned (.bool true) ∧ Below w.heap.size w w' := by
  obtain ⟨s, rfl⟩ := bs_of s0
  rw [bs_size] at ws
  have hk := okInt_of wk
  by_cases hl : light D = true
  · obtain ⟨l1, l2, l3⟩ := light_of hl
    have hD := h0.full (by omega) (by omega) (by omega)
    by_cases hf : D.fit = true
    · cases ho : D.off with
      | true => exact walk_off D p q k s w hD hl hf ho
      | false =>
        by_cases h64 : s.length = 64
        · have hin := (Dk.fit_parts hf).2.2.2.2.2.2
          by_cases he : (D.spoil k true).2 = 0
          · obtain ⟨_, e⟩ := Dk.spoil_there he
            have hX : D.spoil k true = ((D.spoil k true).1, 0) := Prod.ext rfl he
            obtain ⟨r1, r2, r3, r4⟩ := Dk.spoil_ok he ho h64
            have hXd : (D.spoil k true).1.data = D.data := by rw [e]
            by_cases hz : D.fuse = 0
            · exact walk_fuse0 D p q k s w hD hl hf ho h64 hk _ hX hXd r1 (r2 hz) hz
            · obtain ⟨q1, q2, q3⟩ := r3 hz
              obtain ⟨_, e2⟩ := Dk.spoil_there q2
              refine walk_fuse D p q k s w hD hl hf ho h64 hk (D.spoil k true).1 ((D.spoil k true).1.spoil k false).1 hX hXd (by rw [e]; exact spoilt_incr hin k true) (by rw [e]; have := spoilt_len D.bad k true; show (Dk.spoilt D.bad k true).length ≤ _; omega) r1 q1 hz (Prod.ext rfl q2) (by rw [e2]; exact hXd) (D.sees k) (D.read k).1 (D.read k).2 q3 rfl ?_
              by_cases hre : (D.read k).2 = 0
              · exact .inr ⟨hre, (r4 hre).symm⟩
              · exact .inl hre
          · obtain ⟨e1, e2⟩ := Dk.spoil_not he
            exact walk_not D p q k s w hD hl hf ho h64 hk _ (Prod.ext e1 rfl) he (e2 ho)
        · exact walk_size D p q k s w hD hl hf ho h64 ws
    · exact walk_unfit D p q k s w hD hl (by simpa using hf)
  · exact walk_heavy D p q k s w h0 (by simpa using hl)
/-! ### The row -/
theorem own : ownKnob Try.prog.godebug = none := by kernel_rfl
set_option maxRecDepth 100000 in
theorem lifted (os : Os) (started : os.Started) (H : Type) (enc : TypeId × Value → H) :
    ReturnsInHanded {} Try.checked os 11 .any (Rows.devSpoilsSpec.pre6 enc Try.prog Try.f11 Rows.devSpoilsRow.domain false) (Rows.devSpoilsSpec.post enc Try.prog Try.f11 false true false false) := by
  refine returnsInHanded_of_change (C := Try.checked) own started (by kernel_rfl) Try.func11
    (ChangeSpec.witness6 (enc := enc) (C := Try.checked) false ⟨#[], #[.agg #[.string ByteArray.empty, .slice none 0 0, .int .i64 0, .bool false, .slice none 0 0], .int .i64 0, .string ByteArray.empty], []⟩ 8 (by kernel_rfl) (by kernel_rfl) (by kernel_rfl) (by kernel_rfl)) ?_
  intro W base args ds gs before hval0 hW hcnd _
  have hval : ∀ (j : Nat) t v, Try.f11.params[j]? = some t → args[j]? = some v → Value.okWide Try.prog W .any base t v := hval0
  have hW' := hW
  obtain ⟨p, q, hA0, hV, rfl, hfz, hnd⟩ := hW
  have hA : DataW.TrodAll enc Try.prog W 0 (fun _ => true) true Try.f11.params.toList args.toList ds p := hA0
  have hAk := hA
  rw [Try.params11] at hA hval
  obtain ⟨v0, vs0, d0, ds0, p0, q0, hargs, rfl, rfl, h0, r0⟩ := trodAll_cons hA
  obtain ⟨v1, vs1, d1, ds1, p1, q1, rfl, rfl, rfl, h1, r1⟩ := trodAll_cons r0
  obtain ⟨v2, vs2, d2, ds2, p2, q2, rfl, rfl, rfl, h2, r2⟩ := trodAll_cons r1
  obtain ⟨rfl, rfl, rfl⟩ := trodAll_nil r2
  obtain rfl : args = #[v0, v1, v2] := by cases args; simp_all
  obtain ⟨rfl, rfl⟩ := trodVars_none hV
  obtain ⟨D0, P0, Q0, rfl, w0⟩ := open_dk Try.underlying25 (by kernel_rfl) (by kernel_rfl) Try.underlying9 Try.underlying22 Try.underlying3 Try.underlying4 Try.underlying23 Try.underlying45 (by kernel_rfl) (by kernel_rfl) Try.underlying3 Try.underlying9 Try.underlying3 (by kernel_rfl) (hval 0 25 v0 rfl rfl) h0
  obtain ⟨a1, rfl, rfl, rfl, w1⟩ := open_int Try.underlying3 (hval 1 3 v1 rfl rfl) h1
  obtain ⟨a2, rfl, rfl, rfl, w2⟩ := open_string Try.underlying9 (hval 2 9 v2 rfl rfl) h2
  clear hA0 hval0
  simp only [List.append_nil] at hW'
  refine (walk W D0 P0 Q0 w0 a1 w1 a2 w2).mono fun e W' ⟨he, hb⟩ => ?_
  subst he
  exact ⟨_, rfl, post_of_below (pa := _) (pv := []) hW' (fun _ _ _ => (trodAll_cons_mk (shut_bool Try.underlying4 _) trodAll_mk0)) (fun sp hsp => trodAll_stays (by kernel_rfl) hb (by kernel_rfl) hAk (fun x hx => hW'.lt x (by simpa using hx)) (fun x hx => hsp x (by simpa using hx))) (fun _ _ => rfl) (by simp) hb (ok_one (by kernel_rfl) rfl (okWide_bool_mk Try.underlying4 _))⟩
theorem over_ : Rows.devSpoilsRow.holds Try.pinned (OpenSpec.ofChange Rows.devSpoilsSpec) :=
  OpenClaim.holds_of_wide 11 Try.f11 rfl rfl rfl rfl rfl rfl rfl ⟨rfl, rfl, rfl, rfl, rfl⟩ rfl rfl rfl rfl rfl (by kernel_rfl) Try.func11 (by kernel_rfl)
    (of_decide_eq_true (by kernel_rfl)) (by unfold Func.isWrapper; first | (rw [if_pos (by decide +kernel)]; kernel_rfl) | (rw [if_neg (by decide +kernel)]; exact ⟨rfl, rfl⟩))
    (fun os started H enc _ => lifted os started H enc)
/-- The statement. -/
theorem proved : Rows.DevSpoilsSaid := over_
#print axioms proved
end Go.Proofs.Ytjpjpiejcpeepaa.devSpoils
