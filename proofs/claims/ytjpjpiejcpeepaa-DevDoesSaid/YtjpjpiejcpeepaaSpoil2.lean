/- Package dev: a device that refuses a sector, or does so no more. -/
import Derived.Test.YtjpjpiejcpeepaaSpoil1
import Derived.Test.YtjpjpiejcpeepaaPlan1
import Derived.Test.YtjpjpiejcpeepaaTail
import Derived.Test.YtjpjpiejcpeepaaDev1
set_option linter.unusedVariables false
namespace Go.Proofs.Ytjpjpiejcpeepaa
open Go.RowKit Go.Shelf
attribute [local go_sem] bs_mk bs_append bs_extract bs_size bs_toList bs_get
theorem isDk_bad {w W : World} {D : Dk} {p q : Pl} (hD : IsDk w D p q) (hb : Below w.heap.size w W) {l : List Int} {A : Option Addr} {c base : Nat} {t : TypeId} (hown : W.ownsRow base t 1 (.slice A l.length c) l.length (intCells l))
    (hl : l.length ≤ 2000000) (hx : ∀ x ∈ l, -9223372036854775808 ≤ x ∧ x ≤ 9223372036854775807) : IsDk W { D with bad := l } p ⟨A, c⟩ := by
  obtain ⟨A', c', e, h1, h2, h3⟩ := own_slice hown
  injection e with e1 _ e3
  subst e1 e3
  exact { hD with cache := hD.cache.below hb, bad := Cells.of_own hown, qn := h3, qc := h1, qm := h2, bl := by show l.length ≤ _; omega, bads := hx }
theorem spoilt_bounds {l : List Int} {k : Int} {is : Bool} {P : Int → Prop} (h : ∀ x ∈ l, P x) (hk : P k) : ∀ x ∈ Dk.spoilt l k is, P x := by
  intro x hx
  rw [Dk.spoilt] at hx
  split at hx
  · split at hx
    · exact h x hx
    · rcases List.mem_append.1 hx with hx | hx
      · exact h x (List.mem_filter.1 hx).1
      · rcases List.mem_cons.1 hx with rfl | hx
        · exact hk
        · exact h x (List.mem_filter.1 hx).1
  · exact h x (List.mem_filter.1 hx).1
theorem spoilt_len (l : List Int) (k : Int) (is : Bool) : (Dk.spoilt l k is).length ≤ 2 * l.length + 1 := by
  rw [Dk.spoilt]
  split
  · split
    · omega
    · have := List.length_filter_le (fun x => decide (x < k)) l
      have := List.length_filter_le (fun x => decide (k < x)) l
      simp
      omega
  · have := List.length_filter_le (fun x => decide (x ≠ k)) l
    omega
set_option maxRecDepth 100000 in
theorem d_spoil_out (D : Dk) (p q : Pl) (w : World) (hD : IsDk w D p q) (k : Int) (is : Bool) (h : D.there k = false) :
    Calls Try.prog 41 #[dval D p q, .int .i64 k, .bool is] w fun e w' => RetDkN w.heap.size D p q (D.spoil k is) e w' ∧ Below w.heap.size w w' := by
  have Hs := hid (show D.spoil k is = (D, 10) by rw [Dk.spoil, if_pos h])
  have hout := d_out D p q hD.data k
  rw [h] at hout
  have Hi := hid (fun (W : World) (hb : Below w.heap.size w W) => hD.below hb)
  have Hap := hid (fun g (hg : w.heap.size ≤ g) => hD.apart hg)
  clear h hD
  obtain ⟨A1, a1⟩ := p
  obtain ⟨A2, a2⟩ := q
  have hB := Below.refl w.heap.size w
  have x := Blk.new w 25 #[.string (bs D.data), .slice A1 D.cache.length a1, .int .i64 D.fuse, .bool D.off, .slice A2 D.bad.length a2]
  have xk := blk5 x
  have hB_1 := hB.alloc hB.size (.cells #[.string (bs D.data), .slice A1 D.cache.length a1, .int .i64 D.fuse, .bool D.off, .slice A2 D.bad.length a2] 25)
  have r := Blk.new (w.alloc (.cells #[.string (bs D.data), .slice A1 D.cache.length a1, .int .i64 D.fuse, .bool D.off, .slice A2 D.bad.length a2] 25)) 25 #[.string (bs []), .slice none 0 0, .int .i64 0, .bool false, .slice none 0 0]
  simp only [World.size_alloc] at r
  have rk := blk5 r
  have rkf := r.frozen
  have hB_2 := hB_1.alloc hB_1.size (.cells #[.string (bs []), .slice none 0 0, .int .i64 0, .bool false, .slice none 0 0] 25)
  have x_3 := x.alloc (.cells #[.string (bs []), .slice none 0 0, .int .i64 0, .bool false, .slice none 0 0] 25)
  have xk_3 := blk5 x_3
  go_enter Try.func41, Try.ntmps41
  go_wp2_with fail
  go_at_call 59
  refine ((hout _)).mono ?_
  rintro e w1 ⟨rfl, hb1⟩
  replace hB := bt hB_2 hb1
  replace x := x_3.below hb1 x_3.lt
  replace xk := blk5 x
  replace r := r.below hb1 r.lt
  replace rk := blk5 r
  replace rkf := r.frozen
  clear hB_1 hB_2 xk_3 x_3
  go_wp2_with fail
  have y5 := blk_set5 r (.string (bs D.data)) (.slice A1 D.cache.length a1) (.int .i64 D.fuse) (.bool D.off) (.slice A2 D.bad.length a2)
  have yy := blk5 y5
  refine bodyPost_ret (v := .tuple #[dval D ⟨A1, a1⟩ ⟨A2, a2⟩, .int .i64 10]) (by simp [results, Try.results41, go_sem, yy]) rfl ?_
  rw [Hs.out]
  exact ⟨⟨_, _, rfl, (Hi.out _ hB).off5 (Hap.out _ (by omega)) _ _ _ _ _, fun _ _ h => h⟩, below_set5 hB (by omega) _ _ _ _ _⟩
set_option maxRecDepth 100000 in
set_option maxHeartbeats 1000000 in
theorem d_spoil_add (D : Dk) (p q : Pl) (w : World) (hD : IsDk w D p q) (hs : incr D.bad = true) (hl : D.bad.length ≤ 100000) (k : Int) (hk : -9223372036854775808 ≤ k ∧ k ≤ 9223372036854775807) (h : D.there k = true) (hm : k ∉ D.bad) :
    Calls Try.prog 41 #[dval D p q, .int .i64 k, .bool true] w fun e w' => RetDkN w.heap.size D p q (D.spoil k true) e w' ∧ Below w.heap.size w w' := by
  have Hs := hid (show D.spoil k true = ({ D with bad := Dk.spoilt D.bad k true }, 0) by rw [Dk.spoil, if_neg (by rw [h]; simp)])
  have hpw := incr_pairwise _ hs
  have hout := d_out D p q hD.data k
  rw [h] at hout
  have hse := fun (W : World) (hb : Below w.heap.size w W) => search_any q.a D.bad q.c k W (hD.bad.below hb) hpw (by omega)
  rw [decide_eq_false hm] at hse
  have hcl := fun (W : World) (hb : Below w.heap.size w W) => clone_ints q.a D.bad q.c W (hD.bad.below hb) (by omega) hD.qn
  have Hi := hid (fun (W : World) (hb : Below w.heap.size w W) (l : List Int) (A : Option Addr) (c base : Nat) (t : TypeId) (hown : W.ownsRow base t 1 (.slice A l.length c) l.length (intCells l)) (e : l = Dk.spoilt D.bad k true) =>
    isDk_bad hD hb hown (by rw [e]; have := spoilt_len D.bad k true; omega) (by rw [e]; exact spoilt_bounds hD.bads hk))
  have Hap := hid (fun g (hg : w.heap.size ≤ g) => hD.apart hg)
  have Hsp := hid (spoilt_in hpw hm)
  have hcp := countP_le D.bad k
  have Hl := hid hl
  clear h hD hs hpw hm
  obtain ⟨A1, a1⟩ := p
  obtain ⟨A2, a2⟩ := q
  generalize D.bad.countP (· < k) = n at *
  have hB := Below.refl w.heap.size w
  have x := Blk.new w 25 #[.string (bs D.data), .slice A1 D.cache.length a1, .int .i64 D.fuse, .bool D.off, .slice A2 D.bad.length a2]
  have xk := blk5 x
  have xkf := x.frozen
  have hB_1 := hB.alloc hB.size (.cells #[.string (bs D.data), .slice A1 D.cache.length a1, .int .i64 D.fuse, .bool D.off, .slice A2 D.bad.length a2] 25)
  have r := Blk.new (w.alloc (.cells #[.string (bs D.data), .slice A1 D.cache.length a1, .int .i64 D.fuse, .bool D.off, .slice A2 D.bad.length a2] 25)) 25 #[.string (bs []), .slice none 0 0, .int .i64 0, .bool false, .slice none 0 0]
  simp only [World.size_alloc] at r
  have rk := blk5 r
  have rkf := r.frozen
  have hB_2 := hB_1.alloc hB_1.size (.cells #[.string (bs []), .slice none 0 0, .int .i64 0, .bool false, .slice none 0 0] 25)
  have x_3 := x.alloc (.cells #[.string (bs []), .slice none 0 0, .int .i64 0, .bool false, .slice none 0 0] 25)
  have xk_3 := blk5 x_3
  have xkf_3 := x_3.frozen
  go_enter Try.func41, Try.ntmps41
  go_wp2_with fail
  go_at_call 59
  refine ((hout _)).mono ?_
  rintro e w1 ⟨rfl, hb1⟩
  replace hB := bt hB_2 hb1
  replace x := x_3.below hb1 x_3.lt
  replace xk := blk5 x
  replace xkf := x.frozen
  replace r := r.below hb1 r.lt
  replace rk := blk5 r
  replace rkf := r.frozen
  clear hB_1 hB_2 xk_3 xkf_3 x_3
  go_wp2_with fail
  go_at_call 74
  refine ((hse _ hB)).mono ?_
  rintro e w2 ⟨rfl, hb2⟩
  replace hB := bt hB hb2
  replace x := x.below hb2 x.lt
  replace xk := blk5 x
  replace xkf := x.frozen
  replace r := r.below hb2 r.lt
  replace rk := blk5 r
  replace rkf := r.frozen
  go_wp2_with fail
  go_at_call 51
  refine ((hcl _ hB)).mono ?_
  rintro e w3 ⟨v', rfl, hown, hb3⟩
  replace hB := bt hB hb3
  replace x := x.below hb3 x.lt
  replace xk := blk5 x
  replace xkf := x.frozen
  replace r := r.below hb3 r.lt
  replace rk := blk5 r
  replace rkf := r.frozen
  obtain ⟨A', c', rfl, hcc, hcm, hcn⟩ := own_slice hown
  have hw2 : w.heap.size + 1 < w2.heap.size := Nat.lt_of_lt_of_le (Nat.lt_of_lt_of_le (by simp) hb1.size) hb2.size
  have x4 : Blk (w3.setCell ⟨w.heap.size, 4, none⟩ (.slice A' D.bad.length c')) w.heap.size 25 #[.string (bs D.data), .slice A1 D.cache.length a1, .int .i64 D.fuse, .bool D.off, .slice A' D.bad.length c'] := by
    have := x.set 4 (.slice A' D.bad.length c')
    simpa using this
  have x4k := blk5 x4
  have x4f := x4.frozen
  have r4 := r.other (a := ⟨w.heap.size, 4, none⟩) (by simp) (.slice A' D.bad.length c')
  have r4k := blk5 r4
  have r4f := r4.frozen
  have b4 := hB.setCell (p := ⟨w.heap.size, 4, none⟩) (Nat.le_refl _) (.slice A' D.bad.length c')
  have own4 := ownsRow_setCell_below hown (a := ⟨w.heap.size, 4, none⟩) (by simp; omega) (.slice A' D.bad.length c')
  have hw3 : w2.heap.size ≤ w3.heap.size := hb3.size
  have hvb := Blk.new (w3.setCell ⟨w.heap.size, 4, none⟩ (.slice A' D.bad.length c')) 3 #[.int .i64 k]
  have x5 := x4.alloc (.cells #[.int .i64 k] 3)
  have r5 := r4.alloc (.cells #[.int .i64 k] 3)
  have x5k := blk5 x5
  have hins := insert_own (k := n) (x := k) (own4.alloc (.cells #[.int .i64 k] 3)) hcp (by have := Hl.out; omega) (by simp; omega) hvb (fun g hg => by
    have := (own4.lt g (by rw [hg]; rfl)).2
    omega)
  have b5 := b4.alloc b4.size (.cells #[.int .i64 k] 3)
  have hvl : w3.heap.size = (w3.setCell ⟨w.heap.size, 4, none⟩ (.slice A' D.bad.length c')).heap.size := by simp
  rw [← hvl] at hins
  clear hvb hvl
  go_wp2_with fail
  go_at_call 75
  refine hins.mono ?_
  rintro e w5 ⟨A5, c5, rfl, own5, hb5⟩
  replace x5 := x5.below hb5 (by omega)
  replace r5 := r5.below hb5 (by omega)
  have b6 := (b5.trans (hb5.mono (by omega))).setCell (p := ⟨w.heap.size, 4, none⟩) (Nat.le_refl _) (.slice A5 (D.bad.length + 1) c5)
  have x6 : Blk (w5.setCell ⟨w.heap.size, 4, none⟩ (.slice A5 (D.bad.length + 1) c5)) w.heap.size 25 #[.string (bs D.data), .slice A1 D.cache.length a1, .int .i64 D.fuse, .bool D.off, .slice A5 (D.bad.length + 1) c5] := by
    have := x5.set 4 (.slice A5 (D.bad.length + 1) c5)
    simpa using this
  have x5k := blk5 x5
  have x5f := x5.frozen
  have x6k := blk5 x6
  have r6 := r5.other (a := ⟨w.heap.size, 4, none⟩) (by simp) (.slice A5 (D.bad.length + 1) c5)
  have r6k := blk5 r6
  have r6f := r6.frozen
  have own6 := ownsRow_setCell_below own5 (a := ⟨w.heap.size, 4, none⟩) (by simp; omega) (.slice A5 (D.bad.length + 1) c5)
  go_wp2_with fail
  generalize (w5.setCell ⟨w.heap.size, 4, none⟩ (.slice A5 (D.bad.length + 1) c5)) = W9 at *
  have y5 := blk_set5 r6 (.string (bs D.data)) (.slice A1 D.cache.length a1) (.int .i64 D.fuse) (.bool D.off) (.slice A5 (D.bad.length + 1) c5)
  have yy := blk5 y5
  refine bodyPost_ret (v := .tuple #[.agg #[.string (bs D.data), .slice A1 D.cache.length a1, .int .i64 D.fuse, .bool D.off, .slice A5 (D.bad.length + 1) c5], .int .i64 0]) (by simp [results, Try.results41, go_sem, yy]) rfl ?_
  rw [Hs.out]
  have e : (D.bad.length + 1) = (Dk.spoilt D.bad k true).length := by rw [Hsp.out]; simp; omega
  have own9 : _ := own6
  rw [show D.bad.take n ++ k :: D.bad.drop n = Dk.spoilt D.bad k true from Hsp.out.symm, e] at own9
  have iD := Hi.out _ b6 _ _ _ _ _ own9 rfl
  have oo : DkOff (w.heap.size + 1) { D with bad := Dk.spoilt D.bad k true } ⟨A1, a1⟩ ⟨A5, c5⟩ := ⟨(Hap.out _ (by omega)).1, off_own own9 (by omega)⟩
  rw [e]
  exact ⟨⟨⟨A1, a1⟩, ⟨A5, c5⟩, rfl, iD.off5 oo _ _ _ _ _, fun g g1 g2 => ⟨g2.1, off_own own9 (by omega)⟩⟩, below_set5 b6 (by omega) _ _ _ _ _⟩
set_option maxRecDepth 100000 in
set_option maxHeartbeats 1000000 in
theorem d_spoil_kept (D : Dk) (p q : Pl) (w : World) (hD : IsDk w D p q) (hs : incr D.bad = true) (hl : D.bad.length ≤ 100000) (k : Int) (hk : -9223372036854775808 ≤ k ∧ k ≤ 9223372036854775807) (h : D.there k = true) (hm : k ∈ D.bad) :
    Calls Try.prog 41 #[dval D p q, .int .i64 k, .bool true] w fun e w' => RetDkN w.heap.size D p q (D.spoil k true) e w' ∧ Below w.heap.size w w' := by
  have Hs := hid (show D.spoil k true = ({ D with bad := Dk.spoilt D.bad k true }, 0) by rw [Dk.spoil, if_neg (by rw [h]; simp)])
  have hpw := incr_pairwise _ hs
  have hout := d_out D p q hD.data k
  rw [h] at hout
  have hse := fun (W : World) (hb : Below w.heap.size w W) => search_any q.a D.bad q.c k W (hD.bad.below hb) hpw (by omega)
  rw [decide_eq_true hm] at hse
  have hcl := fun (W : World) (hb : Below w.heap.size w W) => clone_ints q.a D.bad q.c W (hD.bad.below hb) (by omega) hD.qn
  have Hi := hid (fun (W : World) (hb : Below w.heap.size w W) (l : List Int) (A : Option Addr) (c base : Nat) (t : TypeId) (hown : W.ownsRow base t 1 (.slice A l.length c) l.length (intCells l)) (e : l = Dk.spoilt D.bad k true) =>
    isDk_bad hD hb hown (by rw [e]; have := spoilt_len D.bad k true; omega) (by rw [e]; exact spoilt_bounds hD.bads hk))
  have Hap := hid (fun g (hg : w.heap.size ≤ g) => hD.apart hg)
  have Hsp := hid (spoilt_same.1 hm)
  have hcp := countP_le D.bad k
  have Hl := hid hl
  clear h hD hs hpw hm
  obtain ⟨A1, a1⟩ := p
  obtain ⟨A2, a2⟩ := q
  generalize D.bad.countP (· < k) = n at *
  have hB := Below.refl w.heap.size w
  have x := Blk.new w 25 #[.string (bs D.data), .slice A1 D.cache.length a1, .int .i64 D.fuse, .bool D.off, .slice A2 D.bad.length a2]
  have xk := blk5 x
  have xkf := x.frozen
  have hB_1 := hB.alloc hB.size (.cells #[.string (bs D.data), .slice A1 D.cache.length a1, .int .i64 D.fuse, .bool D.off, .slice A2 D.bad.length a2] 25)
  have r := Blk.new (w.alloc (.cells #[.string (bs D.data), .slice A1 D.cache.length a1, .int .i64 D.fuse, .bool D.off, .slice A2 D.bad.length a2] 25)) 25 #[.string (bs []), .slice none 0 0, .int .i64 0, .bool false, .slice none 0 0]
  simp only [World.size_alloc] at r
  have rk := blk5 r
  have rkf := r.frozen
  have hB_2 := hB_1.alloc hB_1.size (.cells #[.string (bs []), .slice none 0 0, .int .i64 0, .bool false, .slice none 0 0] 25)
  have x_3 := x.alloc (.cells #[.string (bs []), .slice none 0 0, .int .i64 0, .bool false, .slice none 0 0] 25)
  have xk_3 := blk5 x_3
  have xkf_3 := x_3.frozen
  go_enter Try.func41, Try.ntmps41
  go_wp2_with fail
  go_at_call 59
  refine ((hout _)).mono ?_
  rintro e w1 ⟨rfl, hb1⟩
  replace hB := bt hB_2 hb1
  replace x := x_3.below hb1 x_3.lt
  replace xk := blk5 x
  replace xkf := x.frozen
  replace r := r.below hb1 r.lt
  replace rk := blk5 r
  replace rkf := r.frozen
  clear hB_1 hB_2 xk_3 xkf_3 x_3
  go_wp2_with fail
  go_at_call 74
  refine ((hse _ hB)).mono ?_
  rintro e w2 ⟨rfl, hb2⟩
  replace hB := bt hB hb2
  replace x := x.below hb2 x.lt
  replace xk := blk5 x
  replace xkf := x.frozen
  replace r := r.below hb2 r.lt
  replace rk := blk5 r
  replace rkf := r.frozen
  go_wp2_with fail
  go_at_call 51
  refine ((hcl _ hB)).mono ?_
  rintro e w3 ⟨v', rfl, hown, hb3⟩
  replace hB := bt hB hb3
  replace x := x.below hb3 x.lt
  replace xk := blk5 x
  replace xkf := x.frozen
  replace r := r.below hb3 r.lt
  replace rk := blk5 r
  replace rkf := r.frozen
  obtain ⟨A', c', rfl, hcc, hcm, hcn⟩ := own_slice hown
  have hw2 : w.heap.size + 1 < w2.heap.size := Nat.lt_of_lt_of_le (Nat.lt_of_lt_of_le (by simp) hb1.size) hb2.size
  have x4 : Blk (w3.setCell ⟨w.heap.size, 4, none⟩ (.slice A' D.bad.length c')) w.heap.size 25 #[.string (bs D.data), .slice A1 D.cache.length a1, .int .i64 D.fuse, .bool D.off, .slice A' D.bad.length c'] := by
    have := x.set 4 (.slice A' D.bad.length c')
    simpa using this
  have x4k := blk5 x4
  have x4f := x4.frozen
  have r4 := r.other (a := ⟨w.heap.size, 4, none⟩) (by simp) (.slice A' D.bad.length c')
  have r4k := blk5 r4
  have r4f := r4.frozen
  have b4 := hB.setCell (p := ⟨w.heap.size, 4, none⟩) (Nat.le_refl _) (.slice A' D.bad.length c')
  have own4 := ownsRow_setCell_below hown (a := ⟨w.heap.size, 4, none⟩) (by simp; omega) (.slice A' D.bad.length c')
  have hw3 : w2.heap.size ≤ w3.heap.size := hb3.size
  go_wp2_with fail
  generalize (w3.setCell ⟨w.heap.size, 4, none⟩ (.slice A' D.bad.length c')) = W9 at *
  have y5 := blk_set5 r4 (.string (bs D.data)) (.slice A1 D.cache.length a1) (.int .i64 D.fuse) (.bool D.off) (.slice A' D.bad.length c')
  have yy := blk5 y5
  refine bodyPost_ret (v := .tuple #[.agg #[.string (bs D.data), .slice A1 D.cache.length a1, .int .i64 D.fuse, .bool D.off, .slice A' D.bad.length c'], .int .i64 0]) (by simp [results, Try.results41, go_sem, yy]) rfl ?_
  rw [Hs.out]
  have e : D.bad.length = (Dk.spoilt D.bad k true).length := by rw [Hsp.out]
  have own9 : _ := own4
  rw [show D.bad = Dk.spoilt D.bad k true from Hsp.out.symm] at own9
  have iD := Hi.out _ b4 _ _ _ _ _ own9 rfl
  have oo : DkOff (w.heap.size + 1) { D with bad := Dk.spoilt D.bad k true } ⟨A1, a1⟩ ⟨A', c'⟩ := ⟨(Hap.out _ (by omega)).1, off_own own9 (by omega)⟩
  rw [e]
  exact ⟨⟨⟨A1, a1⟩, ⟨A', c'⟩, rfl, iD.off5 oo _ _ _ _ _, fun g g1 g2 => ⟨g2.1, off_own own9 (by omega)⟩⟩, below_set5 b4 (by omega) _ _ _ _ _⟩
set_option maxRecDepth 100000 in
set_option maxHeartbeats 1000000 in
theorem d_spoil_drop (D : Dk) (p q : Pl) (w : World) (hD : IsDk w D p q) (hs : incr D.bad = true) (hl : D.bad.length ≤ 100000) (k : Int) (hk : -9223372036854775808 ≤ k ∧ k ≤ 9223372036854775807) (h : D.there k = true) (hm : k ∈ D.bad) :
    Calls Try.prog 41 #[dval D p q, .int .i64 k, .bool false] w fun e w' => RetDkN w.heap.size D p q (D.spoil k false) e w' ∧ Below w.heap.size w w' := by
  have Hs := hid (show D.spoil k false = ({ D with bad := Dk.spoilt D.bad k false }, 0) by rw [Dk.spoil, if_neg (by rw [h]; simp)])
  have hpw := incr_pairwise _ hs
  have hout := d_out D p q hD.data k
  rw [h] at hout
  have hse := fun (W : World) (hb : Below w.heap.size w W) => search_any q.a D.bad q.c k W (hD.bad.below hb) hpw (by omega)
  rw [decide_eq_true hm] at hse
  have hcl := fun (W : World) (hb : Below w.heap.size w W) => clone_ints q.a D.bad q.c W (hD.bad.below hb) (by omega) hD.qn
  have Hi := hid (fun (W : World) (hb : Below w.heap.size w W) (l : List Int) (A : Option Addr) (c base : Nat) (t : TypeId) (hown : W.ownsRow base t 1 (.slice A l.length c) l.length (intCells l)) (e : l = Dk.spoilt D.bad k false) =>
    isDk_bad hD hb hown (by rw [e]; have := spoilt_len D.bad k false; omega) (by rw [e]; exact spoilt_bounds hD.bads hk))
  have Hap := hid (fun g (hg : w.heap.size ≤ g) => hD.apart hg)
  have Hsp := hid (spoilt_out hpw hm)
  have hcp := countP_le D.bad k
  have Hl := hid hl
  clear h hD hs hpw hm
  obtain ⟨A1, a1⟩ := p
  obtain ⟨A2, a2⟩ := q
  generalize D.bad.countP (· < k) = n at *
  have hB := Below.refl w.heap.size w
  have x := Blk.new w 25 #[.string (bs D.data), .slice A1 D.cache.length a1, .int .i64 D.fuse, .bool D.off, .slice A2 D.bad.length a2]
  have xk := blk5 x
  have xkf := x.frozen
  have hB_1 := hB.alloc hB.size (.cells #[.string (bs D.data), .slice A1 D.cache.length a1, .int .i64 D.fuse, .bool D.off, .slice A2 D.bad.length a2] 25)
  have r := Blk.new (w.alloc (.cells #[.string (bs D.data), .slice A1 D.cache.length a1, .int .i64 D.fuse, .bool D.off, .slice A2 D.bad.length a2] 25)) 25 #[.string (bs []), .slice none 0 0, .int .i64 0, .bool false, .slice none 0 0]
  simp only [World.size_alloc] at r
  have rk := blk5 r
  have rkf := r.frozen
  have hB_2 := hB_1.alloc hB_1.size (.cells #[.string (bs []), .slice none 0 0, .int .i64 0, .bool false, .slice none 0 0] 25)
  have x_3 := x.alloc (.cells #[.string (bs []), .slice none 0 0, .int .i64 0, .bool false, .slice none 0 0] 25)
  have xk_3 := blk5 x_3
  have xkf_3 := x_3.frozen
  go_enter Try.func41, Try.ntmps41
  go_wp2_with fail
  go_at_call 59
  refine ((hout _)).mono ?_
  rintro e w1 ⟨rfl, hb1⟩
  replace hB := bt hB_2 hb1
  replace x := x_3.below hb1 x_3.lt
  replace xk := blk5 x
  replace xkf := x.frozen
  replace r := r.below hb1 r.lt
  replace rk := blk5 r
  replace rkf := r.frozen
  clear hB_1 hB_2 xk_3 xkf_3 x_3
  go_wp2_with fail
  go_at_call 74
  refine ((hse _ hB)).mono ?_
  rintro e w2 ⟨rfl, hb2⟩
  replace hB := bt hB hb2
  replace x := x.below hb2 x.lt
  replace xk := blk5 x
  replace xkf := x.frozen
  replace r := r.below hb2 r.lt
  replace rk := blk5 r
  replace rkf := r.frozen
  go_wp2_with fail
  go_at_call 51
  refine ((hcl _ hB)).mono ?_
  rintro e w3 ⟨v', rfl, hown, hb3⟩
  replace hB := bt hB hb3
  replace x := x.below hb3 x.lt
  replace xk := blk5 x
  replace xkf := x.frozen
  replace r := r.below hb3 r.lt
  replace rk := blk5 r
  replace rkf := r.frozen
  obtain ⟨A', c', rfl, hcc, hcm, hcn⟩ := own_slice hown
  have hw2 : w.heap.size + 1 < w2.heap.size := Nat.lt_of_lt_of_le (Nat.lt_of_lt_of_le (by simp) hb1.size) hb2.size
  have x4 : Blk (w3.setCell ⟨w.heap.size, 4, none⟩ (.slice A' D.bad.length c')) w.heap.size 25 #[.string (bs D.data), .slice A1 D.cache.length a1, .int .i64 D.fuse, .bool D.off, .slice A' D.bad.length c'] := by
    have := x.set 4 (.slice A' D.bad.length c')
    simpa using this
  have x4k := blk5 x4
  have x4f := x4.frozen
  have r4 := r.other (a := ⟨w.heap.size, 4, none⟩) (by simp) (.slice A' D.bad.length c')
  have r4k := blk5 r4
  have r4f := r4.frozen
  have b4 := hB.setCell (p := ⟨w.heap.size, 4, none⟩) (Nat.le_refl _) (.slice A' D.bad.length c')
  have own4 := ownsRow_setCell_below hown (a := ⟨w.heap.size, 4, none⟩) (by simp; omega) (.slice A' D.bad.length c')
  have hw3 : w2.heap.size ≤ w3.heap.size := hb3.size
  have hdel := delete_own (k := n) own4 Hsp.out.1 (by have := Hl.out; omega)
  have hnw : IntKind.i64.wrap ((n : Int) + 1) = (n : Int) + 1 := i64w (by have := Hl.out; have := Hsp.out.1; omega)
  have hcp2 : n < D.bad.length := Hsp.out.1
  go_wp2_with fail
  go_at_call 76
  refine hdel.mono ?_
  rintro e w5 ⟨A5, c5, rfl, own5, hb5⟩
  have x5 := x4.below hb5 (by omega)
  have r5 := r4.below hb5 (by omega)
  have b6 := (b4.trans (hb5.mono (by omega))).setCell (p := ⟨w.heap.size, 4, none⟩) (Nat.le_refl _) (.slice A5 (D.bad.length - 1) c5)
  have x6 : Blk (w5.setCell ⟨w.heap.size, 4, none⟩ (.slice A5 (D.bad.length - 1) c5)) w.heap.size 25 #[.string (bs D.data), .slice A1 D.cache.length a1, .int .i64 D.fuse, .bool D.off, .slice A5 (D.bad.length - 1) c5] := by
    have := x5.set 4 (.slice A5 (D.bad.length - 1) c5)
    simpa using this
  have x5k := blk5 x5
  have x5f := x5.frozen
  have x6k := blk5 x6
  have r6 := r5.other (a := ⟨w.heap.size, 4, none⟩) (by simp) (.slice A5 (D.bad.length - 1) c5)
  have r6k := blk5 r6
  have r6f := r6.frozen
  have own6 := ownsRow_setCell_below own5 (a := ⟨w.heap.size, 4, none⟩) (by simp; omega) (.slice A5 (D.bad.length - 1) c5)
  go_wp2_with fail
  generalize (w5.setCell ⟨w.heap.size, 4, none⟩ (.slice A5 (D.bad.length - 1) c5)) = W9 at *
  have y5 := blk_set5 r6 (.string (bs D.data)) (.slice A1 D.cache.length a1) (.int .i64 D.fuse) (.bool D.off) (.slice A5 (D.bad.length - 1) c5)
  have yy := blk5 y5
  refine bodyPost_ret (v := .tuple #[.agg #[.string (bs D.data), .slice A1 D.cache.length a1, .int .i64 D.fuse, .bool D.off, .slice A5 (D.bad.length - 1) c5], .int .i64 0]) (by simp [results, Try.results41, go_sem, yy]) rfl ?_
  rw [Hs.out]
  have e : (D.bad.length - 1) = (Dk.spoilt D.bad k false).length := by rw [Hsp.out.2]; simp; omega
  have own9 : _ := own6
  rw [show D.bad.take n ++ D.bad.drop (n + 1) = Dk.spoilt D.bad k false from Hsp.out.2.symm, e] at own9
  have iD := Hi.out _ b6 _ _ _ _ _ own9 rfl
  have oo : DkOff (w.heap.size + 1) { D with bad := Dk.spoilt D.bad k false } ⟨A1, a1⟩ ⟨A5, c5⟩ := ⟨(Hap.out _ (by omega)).1, off_own own9 (by omega)⟩
  rw [e]
  exact ⟨⟨⟨A1, a1⟩, ⟨A5, c5⟩, rfl, iD.off5 oo _ _ _ _ _, fun g g1 g2 => ⟨g2.1, off_own own9 (by omega)⟩⟩, below_set5 b6 (by omega) _ _ _ _ _⟩
set_option maxRecDepth 100000 in
set_option maxHeartbeats 1000000 in
theorem d_spoil_none (D : Dk) (p q : Pl) (w : World) (hD : IsDk w D p q) (hs : incr D.bad = true) (hl : D.bad.length ≤ 100000) (k : Int) (hk : -9223372036854775808 ≤ k ∧ k ≤ 9223372036854775807) (h : D.there k = true) (hm : k ∉ D.bad) :
    Calls Try.prog 41 #[dval D p q, .int .i64 k, .bool false] w fun e w' => RetDkN w.heap.size D p q (D.spoil k false) e w' ∧ Below w.heap.size w w' := by
  have Hs := hid (show D.spoil k false = ({ D with bad := Dk.spoilt D.bad k false }, 0) by rw [Dk.spoil, if_neg (by rw [h]; simp)])
  have hpw := incr_pairwise _ hs
  have hout := d_out D p q hD.data k
  rw [h] at hout
  have hse := fun (W : World) (hb : Below w.heap.size w W) => search_any q.a D.bad q.c k W (hD.bad.below hb) hpw (by omega)
  rw [decide_eq_false hm] at hse
  have hcl := fun (W : World) (hb : Below w.heap.size w W) => clone_ints q.a D.bad q.c W (hD.bad.below hb) (by omega) hD.qn
  have Hi := hid (fun (W : World) (hb : Below w.heap.size w W) (l : List Int) (A : Option Addr) (c base : Nat) (t : TypeId) (hown : W.ownsRow base t 1 (.slice A l.length c) l.length (intCells l)) (e : l = Dk.spoilt D.bad k false) =>
    isDk_bad hD hb hown (by rw [e]; have := spoilt_len D.bad k false; omega) (by rw [e]; exact spoilt_bounds hD.bads hk))
  have Hap := hid (fun g (hg : w.heap.size ≤ g) => hD.apart hg)
  have Hsp := hid (spoilt_same.2 hm)
  have hcp := countP_le D.bad k
  have Hl := hid hl
  clear h hD hs hpw hm
  obtain ⟨A1, a1⟩ := p
  obtain ⟨A2, a2⟩ := q
  generalize D.bad.countP (· < k) = n at *
  have hB := Below.refl w.heap.size w
  have x := Blk.new w 25 #[.string (bs D.data), .slice A1 D.cache.length a1, .int .i64 D.fuse, .bool D.off, .slice A2 D.bad.length a2]
  have xk := blk5 x
  have xkf := x.frozen
  have hB_1 := hB.alloc hB.size (.cells #[.string (bs D.data), .slice A1 D.cache.length a1, .int .i64 D.fuse, .bool D.off, .slice A2 D.bad.length a2] 25)
  have r := Blk.new (w.alloc (.cells #[.string (bs D.data), .slice A1 D.cache.length a1, .int .i64 D.fuse, .bool D.off, .slice A2 D.bad.length a2] 25)) 25 #[.string (bs []), .slice none 0 0, .int .i64 0, .bool false, .slice none 0 0]
  simp only [World.size_alloc] at r
  have rk := blk5 r
  have rkf := r.frozen
  have hB_2 := hB_1.alloc hB_1.size (.cells #[.string (bs []), .slice none 0 0, .int .i64 0, .bool false, .slice none 0 0] 25)
  have x_3 := x.alloc (.cells #[.string (bs []), .slice none 0 0, .int .i64 0, .bool false, .slice none 0 0] 25)
  have xk_3 := blk5 x_3
  have xkf_3 := x_3.frozen
  go_enter Try.func41, Try.ntmps41
  go_wp2_with fail
  go_at_call 59
  refine ((hout _)).mono ?_
  rintro e w1 ⟨rfl, hb1⟩
  replace hB := bt hB_2 hb1
  replace x := x_3.below hb1 x_3.lt
  replace xk := blk5 x
  replace xkf := x.frozen
  replace r := r.below hb1 r.lt
  replace rk := blk5 r
  replace rkf := r.frozen
  clear hB_1 hB_2 xk_3 xkf_3 x_3
  go_wp2_with fail
  go_at_call 74
  refine ((hse _ hB)).mono ?_
  rintro e w2 ⟨rfl, hb2⟩
  replace hB := bt hB hb2
  replace x := x.below hb2 x.lt
  replace xk := blk5 x
  replace xkf := x.frozen
  replace r := r.below hb2 r.lt
  replace rk := blk5 r
  replace rkf := r.frozen
  go_wp2_with fail
  go_at_call 51
  refine ((hcl _ hB)).mono ?_
  rintro e w3 ⟨v', rfl, hown, hb3⟩
  replace hB := bt hB hb3
  replace x := x.below hb3 x.lt
  replace xk := blk5 x
  replace xkf := x.frozen
  replace r := r.below hb3 r.lt
  replace rk := blk5 r
  replace rkf := r.frozen
  obtain ⟨A', c', rfl, hcc, hcm, hcn⟩ := own_slice hown
  have hw2 : w.heap.size + 1 < w2.heap.size := Nat.lt_of_lt_of_le (Nat.lt_of_lt_of_le (by simp) hb1.size) hb2.size
  have x4 : Blk (w3.setCell ⟨w.heap.size, 4, none⟩ (.slice A' D.bad.length c')) w.heap.size 25 #[.string (bs D.data), .slice A1 D.cache.length a1, .int .i64 D.fuse, .bool D.off, .slice A' D.bad.length c'] := by
    have := x.set 4 (.slice A' D.bad.length c')
    simpa using this
  have x4k := blk5 x4
  have x4f := x4.frozen
  have r4 := r.other (a := ⟨w.heap.size, 4, none⟩) (by simp) (.slice A' D.bad.length c')
  have r4k := blk5 r4
  have r4f := r4.frozen
  have b4 := hB.setCell (p := ⟨w.heap.size, 4, none⟩) (Nat.le_refl _) (.slice A' D.bad.length c')
  have own4 := ownsRow_setCell_below hown (a := ⟨w.heap.size, 4, none⟩) (by simp; omega) (.slice A' D.bad.length c')
  have hw3 : w2.heap.size ≤ w3.heap.size := hb3.size
  go_wp2_with fail
  generalize (w3.setCell ⟨w.heap.size, 4, none⟩ (.slice A' D.bad.length c')) = W9 at *
  have y5 := blk_set5 r4 (.string (bs D.data)) (.slice A1 D.cache.length a1) (.int .i64 D.fuse) (.bool D.off) (.slice A' D.bad.length c')
  have yy := blk5 y5
  refine bodyPost_ret (v := .tuple #[.agg #[.string (bs D.data), .slice A1 D.cache.length a1, .int .i64 D.fuse, .bool D.off, .slice A' D.bad.length c'], .int .i64 0]) (by simp [results, Try.results41, go_sem, yy]) rfl ?_
  rw [Hs.out]
  have e : D.bad.length = (Dk.spoilt D.bad k false).length := by rw [Hsp.out]
  have own9 : _ := own4
  rw [show D.bad = Dk.spoilt D.bad k false from Hsp.out.symm] at own9
  have iD := Hi.out _ b4 _ _ _ _ _ own9 rfl
  have oo : DkOff (w.heap.size + 1) { D with bad := Dk.spoilt D.bad k false } ⟨A1, a1⟩ ⟨A', c'⟩ := ⟨(Hap.out _ (by omega)).1, off_own own9 (by omega)⟩
  rw [e]
  exact ⟨⟨⟨A1, a1⟩, ⟨A', c'⟩, rfl, iD.off5 oo _ _ _ _ _, fun g g1 g2 => ⟨g2.1, off_own own9 (by omega)⟩⟩, below_set5 b4 (by omega) _ _ _ _ _⟩
theorem d_spoil (D : Dk) (p q : Pl) (w : World) (hD : IsDk w D p q) (hs : incr D.bad = true) (hl : D.bad.length ≤ 100000) (k : Int) (hk : -9223372036854775808 ≤ k ∧ k ≤ 9223372036854775807) (is : Bool) :
    Calls Try.prog 41 #[dval D p q, .int .i64 k, .bool is] w fun e w' => RetDkN w.heap.size D p q (D.spoil k is) e w' ∧ Below w.heap.size w w' := by
  cases h : D.there k with
  | false => exact d_spoil_out D p q w hD k is h
  | true =>
    by_cases hm : k ∈ D.bad
    · cases is with
      | true => exact d_spoil_kept D p q w hD hs hl k hk h hm
      | false => exact d_spoil_drop D p q w hD hs hl k hk h hm
    · cases is with
      | true => exact d_spoil_add D p q w hD hs hl k hk h hm
      | false => exact d_spoil_none D p q w hD hs hl k hk h hm
end Go.Proofs.Ytjpjpiejcpeepaa
