/- Package span: what ranges are. Package span: Status. -/
import Derived.Test.YtlapjkbefkmohaaGreatSdSpan3
import Derived.Test.YtlapjkbefkmohaaGreatSdTable5
import Derived.Test.YtlapjkbefkmohaaGreatSdImg9
set_option linter.unusedVariables false
namespace Go.Proofs.YtlapjkbefkmohaaGreat
open Go.RowKit Go.Shelf
attribute [local go_sem] bs_mk bs_append bs_extract bs_size bs_toList bs_get
set_option maxRecDepth 100000 in
set_option maxHeartbeats 1000000 in
theorem tb_flags (D : Dk) (p q : Pl) (w : World) (hD : IsDk w D p q) (hf : D.fit = true) (l1 g : Int) :
 Calls Tryz.prog 116 #[.agg #[.string (bs D.data), .slice p.a D.cache.length p.c, .int .i64 D.fuse, .bool D.off, .slice q.a D.bad.length q.c, .int .i64 l1], .int .i64 g] w fun e w' =>
  e = .returned (.tuple #[.int .i64 (Im.entFlags D l1 g).1, .int .i64 (Im.entFlags D l1 g).2]) ∧ Below w.heap.size w w' := by
 have hfi := fun (W : World) (hb : Below w.heap.size w W) => t_find D Pn.none p q ⟨none, 0⟩ ⟨none, 0⟩ W (hD.below hb) (isPn_zero _) hf Pn.none_fit l1 g
 have hsm := Pn.tabFind_small D Pn.none l1 g
 have He := hid (show Im.entFlags D l1 g = (Im.flagsOf (Pn.tabFind D Pn.none l1 g).1.1, (Pn.tabFind D Pn.none l1 g).2) from rfl)
 obtain ⟨⟨⟨K, At⟩, er⟩, hx⟩ : ∃ x, Pn.tabFind D Pn.none l1 g = x := ⟨_, rfl⟩
 rw [hx] at hfi hsm He
 simp only at hfi hsm He
 clear hx hf hD
 have hB := Below.refl w.heap.size w
 have x := Blk.new w 71 #[.string (bs D.data), .slice p.a D.cache.length p.c, .int .i64 D.fuse, .bool D.off, .slice q.a D.bad.length q.c, .int .i64 l1]
 have xk := blk6 x
 have hB_1 := hB.alloc hB.size (.cells #[.string (bs D.data), .slice p.a D.cache.length p.c, .int .i64 D.fuse, .bool D.off, .slice q.a D.bad.length q.c, .int .i64 l1] 71)
 go_enter Tryz.func116, Tryz.ntmps116
 go_wp2_with fail
 go_at_call 117
 refine ((hfi _ hB_1)).mono ?_
 rintro e w1 ⟨rfl, hb1⟩
 replace hB := bt hB_1 hb1
 replace x := x.below hb1 x.lt
 replace xk := blk6 x
 clear hB_1
 have y := Blk.new w1 73 #[.int .i64 K, .int .i64 At]
 have yk := blk2 y
 have hB_2 := hB.alloc hB.size (.cells #[.int .i64 K, .int .i64 At] 73)
 have x_3 := x.alloc (.cells #[.int .i64 K, .int .i64 At] 73)
 have xk_3 := blk6 x_3
 rcases (show K = 0 ∨ K = 1 ∨ K = 2 by omega) with rfl | rfl | rfl
 · have hix := fun (W : World) => show (Instr.index 80 (.agg #[.int .i64 3, .int .i64 0, .int .i64 2]) (.int .i64 0)).run Tryz.prog W = .ok (.int .i64 3) W from by kernel_rfl
   go_wp2_with fail
   go_ret2
   rw  [He.out]
   exact ⟨rfl, hB_2⟩
 · have hix := fun (W : World) => show (Instr.index 80 (.agg #[.int .i64 3, .int .i64 0, .int .i64 2]) (.int .i64 1)).run Tryz.prog W = .ok (.int .i64 0) W from by kernel_rfl
   go_wp2_with fail
   go_ret2
   rw  [He.out]
   exact ⟨rfl, hB_2⟩
 · have hix := fun (W : World) => show (Instr.index 80 (.agg #[.int .i64 3, .int .i64 0, .int .i64 2]) (.int .i64 2)).run Tryz.prog W = .ok (.int .i64 2) W from by kernel_rfl
   go_wp2_with fail
   go_ret2
   rw  [He.out]
   exact ⟨rfl, hB_2⟩
theorem tell_len (f : Int → Int × Int) {l : List Cut} (h : (tell f l).2 = 0) : (tell f l).1.length = l.length := by rw [(tell_ok h).1]; simp [exts]
theorem tell_next {f : Int → Int × Int} {l : List Cut} {m : Nat} (hm : m < l.length) (h : (tell f (l.take m)).2 = 0) : tell f (l.take (m + 1)) = if (f l[m].1).2 ≠ 0 then ([], (f l[m].1).2) else ((tell f (l.take m)).1 ++ [(l[m].2.2, (f l[m].1).1)], 0) := by
 rw [List.take_succ_eq_append_getElem hm, tell_snoc, tellStep, if_neg (by rw [h]; simp)]
theorem tell_early {f : Int → Int × Int} {l : List Cut} {m : Nat} (hm : m < l.length) (h : (tell f (l.take (m + 1))).2 ≠ 0) : tell f l = tell f (l.take (m + 1)) := by
 conv => lhs; rw [← List.take_append_drop (m + 1) l]
 unfold tell
 rw [List.foldl_append]
 exact tell_stop f _ h
/-- What a teller tells of a range. -/
def pcs (f : Int → Int × Int) (l : List Cut) : List Xt × Int := if (tell f l).2 ≠ 0 then ([], (tell f l).2) else (join (tell f l).1, 0)
set_option maxRecDepth 100000 in
set_option maxHeartbeats 1000000 in
theorem sp_pieces (D : Dk) (p q : Pl) (w : World) (hD : IsDk w D p q) (hf : D.fit = true) (l1 a n : Int) :
 Calls Tryz.prog 22 #[.int .i64 a, .int .i64 n, .iface 71 (.agg #[.string (bs D.data), .slice p.a D.cache.length p.c, .int .i64 D.fuse, .bool D.off, .slice q.a D.bad.length q.c, .int .i64 l1])] w fun e w' =>
  (∃ v, e = .returned (.tuple #[v, .int .i64 (pcs (Im.entFlags D l1) (Im.cuts a n)).2]) ∧ w'.ownsRow w.heap.size 41 2 v (pcs (Im.entFlags D l1) (Im.cuts a n)).1.length (entCells (pcs (Im.entFlags D l1) (Im.cuts a n)).1)) ∧ Below w.heap.size w w' := by
 have hfl := fun (W : World) (hb : Below w.heap.size w W) (g : Int) => tb_flags D p q W (hD.below hb) hf l1 g
 have hcut := fun (W : World) => w_cut a n W
 have Hlen := hid (cuts_length a n)
 have Hr := hid (show ∀ p ∈ Im.cuts a n, 1 ≤ p.2.2 ∧ p.2.2 ≤ 128 from fun p hp => by
  by_cases hak : a < 0 ∨ n < 0 ∨ 1073741824 < a ∨ 65536 < n
  · have : Im.cuts a n = [] := by simp [Im.cuts, hak]
    rw [this] at hp; cases hp
  · have := (cuts_tiles hak).mem (by omega) p hp; omega)
 generalize hL : Im.cuts a n = L at *
 clear hL
 have hB := Below.refl w.heap.size w
 go_enter Tryz.func22, Tryz.ntmps22
 go_wp2_with fail
 go_at_call 61
 refine ((hcut _)).mono ?_
 rintro e w1 ⟨⟨v, rfl, hv⟩, hb1⟩
 replace hB := bt hB hb1
 obtain ⟨A1, c1, rfl, hn1, hc1, hm1⟩ := own_slice hv
 have hA := Cells.of_own hv
 clear hv hcut
 go_wp2_with fail
 obtain ⟨i0, hi, hz0, hz1, hz2⟩ := info_parts Tryz.infoXt
 go_loopw [8, 17] (fun l x W => ∃ m : Nat, m ≤ L.length ∧ x = .int .i64 m ∧ Hid ((tell (Im.entFlags D l1) (L.take m)).2 = 0) ∧ W.ownsRow w1.heap.size 41 2 l m (entCells (tell (Im.entFlags D l1) (L.take m)).1) ∧ Below w1.heap.size w1 W) (fun _ x _ => L.length - (intOf x).toNat)
 case atStart => exact ⟨0, Nat.zero_le _, rfl, hid rfl, World.ownsRow_nil _ _ _ _, Below.refl _ _⟩
 case round =>
  obtain ⟨m, hm, rfl, ht, hrow, hb⟩ := hrel
  by_cases hlt : m < L.length
  · obtain ⟨gA, oA, e1, hc⟩ := (hA.below hb).cut hlt
    replace hc := hc m hlt
    have Hn := hid (tell_next hlt ht.out)
    have Hlr := hid (tell_len _ ht.out)
    obtain ⟨⟨xk, xo, xn⟩, hx⟩ : ∃ x, L[m] = x := ⟨_, rfl⟩
    rw [hx] at hc Hn
    simp only at hc
    clear hx
    obtain ⟨⟨fv, fe⟩, hfv⟩ : ∃ x, Im.entFlags D l1 xk = x := ⟨_, rfl⟩
    have hB1 := (hB).trans (hb.mono (hB).size)
    have hcall := hfl (wr.alloc (.cells #[.int .i64 xk, .int .i64 xo, .int .i64 xn] 80)) (hB1.alloc hB1.size _) xk
    rw [hfv] at hcall Hn
    simp only at hcall Hn
    replace hfv := hid hfv
    subst e1
    have x1 := Blk.new wr 80 #[.int .i64 xk, .int .i64 xo, .int .i64 xn]
    have kx := blk3 x1
    have hba := hb.alloc hb.size (.cells #[.int .i64 xk, .int .i64 xo, .int .i64 xn] 80)
    have o1 := hrow.alloc (.cells #[.int .i64 xk, .int .i64 xo, .int .i64 xn] 80)
    have hll := Hlen.out
    have hme := fun (k : Nat) (v : Value) (W : World) => show (method (k + 1) 71 v "cofferdam/span.flags").run Tryz.prog W = .ok (116, v) W from by kernel_rfl
    clear hfl
    by_cases he : fe = 0
    · subst he
      have Hmap := hid (show entCells (tell (Im.entFlags D l1) (L.take m)).1 ++ [Value.int .i64 xn, Value.int .i64 fv] = entCells (tell (Im.entFlags D l1) (L.take (m + 1))).1 by rw [entCells_snoc, Hn.out, if_neg (by simp)])
      have Hz := hid (show (tell (Im.entFlags D l1) (L.take (m + 1))).2 = 0 by rw [Hn.out, if_neg (by simp)])
      clear Hn
      go_wp2_with fail
      refine hcall.mono ?_
      rintro e w2 ⟨rfl, hb2⟩
      have kx2 := blk3 (x1.below hb2 x1.lt)
      have o2 := own_below o1 hb2
      have b2 := hba.trans (hb2.mono hba.size)
      have l2 := b2.size
      go_wp2_with (at_builtin; refine wpList_append_own _ rfl _ _ 36 rfl w1.heap.size 41 i0 (.agg #[.int .i64 0, .int .i64 0]) 2 16 Tryz.underlying36 hi hz0 hz1 hz2 rfl (by decide) _ _ _ rfl (o2.alloc _) ⟨w2.heap.size, 0, none⟩ 1 1 [.int .i64 xn, .int .i64 fv] rfl rfl (World.news_of_block (Blk.new w2 41 #[.int .i64 xn, .int .i64 fv])) (by simp [Value.oneCell']) (by unfold maxLen; omega) (by omega) (by simp; omega) ?_; intro v5 w5 h5 gr5 _)
      have b5 := (b2.alloc b2.size (.cells #[.int .i64 xn, .int .i64 fv] 41)).trans (grown_below (o2.alloc (.cells #[.int .i64 xn, .int .i64 fv] 41)) gr5 (by simp; omega))
      go_roundw
      case rel => exact ⟨m + 1, by omega, by go_num, Hz, by rw [← Hmap.out]; exact h5, b5⟩
      case measure => simp [intOf]; omega
    · have n1 : (fe != 0) = true := by simpa using he
      have Hst := hid (show pcs (Im.entFlags D l1) L = ([], fe) by
       have e2 : tell (Im.entFlags D l1) (L.take (m + 1)) = ([], fe) := by rw [Hn.out, if_pos he]
       have e3 := tell_early hlt (by rw [e2]; exact he)
       rw [pcs, e3, e2, if_pos he])
      clear he Hn
      go_wp2_with fail
      refine hcall.mono ?_
      rintro e w2 ⟨rfl, hb2⟩
      go_wp2_with fail
      go_ret2
      rw [Hst.out]
      exact ⟨⟨_, rfl, World.ownsRow_nil _ _ _ _⟩, hB1.trans (((Below.refl _ _).alloc hB1.size _).trans (hb2.mono (by simp; have := hB1.size; omega)))⟩
  · obtain rfl : m = L.length := by omega
    rw [List.take_length] at hrow ht
    have hT := tell_ok ht.out
    have hTl := tell_len _ ht.out
    have Hp := hid (show pcs (Im.entFlags D l1) L = (join (tell (Im.entFlags D l1) L).1, 0) by rw [pcs, if_neg (by rw [ht.out]; simp)])
    have hin : ∀ x ∈ (tell (Im.entFlags D l1) L).1, -9223372036854775808 ≤ x.1 ∧ x.1 ≤ 9223372036854775807 := by
     intro x hx
     rw [hT.1] at hx
     obtain ⟨y, hy, rfl⟩ := List.mem_map.1 hx
     have := Hr.out y hy
     show -9223372036854775808 ≤ y.2.2 ∧ y.2.2 ≤ 9223372036854775807
     omega
    obtain ⟨A2, c2, rfl, _, _, _⟩ := own_slice hrow
    have hj := sp_join (tell (Im.entFlags D l1) L).1 A2 c2 (by rw [hTl]; have := Hlen.out; omega) hin wr (Cells.of_own hrow)
    rw [hTl] at hj
    have hB1 := (hB).trans (hb.mono (hB).size)
    clear hT hin ht hTl hfl
    generalize (tell (Im.entFlags D l1) L).1 = T at *
    go_wp2_with fail
    go_at_call 14
    refine hj.mono ?_
    rintro e w2 ⟨⟨v, rfl, hv⟩, hb2⟩
    go_wp2_with fail
    go_ret2
    rw [Hp.out]
    exact ⟨⟨_, rfl, own_base hv hB1.size⟩, bt hB1 hb2⟩
end Go.Proofs.YtlapjkbefkmohaaGreat

set_option linter.unusedVariables false
namespace Go.Proofs.YtlapjkbefkmohaaGreat
open Go.RowKit Go.Shelf
attribute [local go_sem] bs_mk bs_append bs_extract bs_size bs_toList bs_get
theorem spanOf_pcs (f : Int → Int × Int) {g a n : Int} (h : ¬ (n < 1 ∨ Im.within g a n = false)) : spanOf f g a n = pcs f (Im.cuts a n) := by rw [spanOf, if_neg h, pcs]
set_option maxRecDepth 100000 in
theorem sp_out (g : Int) (h : Int) (hg : 0 < g ∧ g ≤ 64) (a n : Int) (ha : -9223372036854775808 ≤ a ∧ a ≤ 9223372036854775807) (hn : -9223372036854775808 ≤ n ∧ n ≤ 9223372036854775807) (w : World) :
 Calls Tryz.prog 21 #[.agg #[.int .i64 g, .int .i64 h], .int .i64 a, .int .i64 n] w fun e w' => e = .returned (.bool (decide (n < 1 ∨ Im.within g a n = false))) ∧ Below w.heap.size w w' := by
 have w1 := i64w (x := g * 128) (by omega)
 have Hd := hid (show decide (n < 1 ∨ Im.within g a n = false) = decide (a < 0 ∨ n < 1 ∨ g * 128 < n ∨ g * 128 - n < a) by
  apply decide_eq_decide.2
  have : Im.within g a n = false ↔ ¬ (0 ≤ a ∧ 0 ≤ n ∧ n ≤ 128 * g ∧ a ≤ 128 * g - n) := by rw [← within_iff]; simp
  rw [this]; omega)
 have hb := (Below.refl w.heap.size w).alloc (Nat.le_refl _) (.cells #[.int .i64 g, .int .i64 h] 27)
 have x0 := blk2 (Blk.new w 27 #[.int .i64 g, .int .i64 h])
 obtain ⟨b, hbe⟩ : ∃ b, decide (n < 1 ∨ Im.within g a n = false) = b := ⟨_, rfl⟩
 rw [hbe]
 replace hbe := hid hbe
 go_enter Tryz.func21, Tryz.ntmps21
 by_cases c1 : a < 0
 · have Hr := hid (show decide (a < 0 ∨ n < 1 ∨ g * 128 < n ∨ g * 128 - n < a) = true by simpa using .inl c1)
   go_wp2_with fail
   go_ret
   rw [show b = true from hbe.out.symm.trans (Hd.out.trans Hr.out)]
   exact ⟨rfl, hb⟩
 by_cases c2 : n < 1
 · have Hr := hid (show decide (a < 0 ∨ n < 1 ∨ g * 128 < n ∨ g * 128 - n < a) = true by simpa using .inr (.inl c2))
   go_wp2_with fail
   go_ret
   rw [show b = true from hbe.out.symm.trans (Hd.out.trans Hr.out)]
   exact ⟨rfl, hb⟩
 by_cases c3 : g * 128 < n
 · have Hr := hid (show decide (a < 0 ∨ n < 1 ∨ g * 128 < n ∨ g * 128 - n < a) = true by simpa using .inr (.inr (.inl c3)))
   go_wp2_with fail
   go_ret
   rw [show b = true from hbe.out.symm.trans (Hd.out.trans Hr.out)]
   exact ⟨rfl, hb⟩
 have w2 := i64w (x := g * 128 - n) (by omega)
 by_cases c4 : g * 128 - n < a
 · have Hr := hid (show decide (a < 0 ∨ n < 1 ∨ g * 128 < n ∨ g * 128 - n < a) = true by simpa using .inr (.inr (.inr c4)))
   go_wp2_with fail
   go_ret
   rw [show b = true from hbe.out.symm.trans (Hd.out.trans Hr.out)]
   exact ⟨rfl, hb⟩
 · have Hr := hid (show decide (a < 0 ∨ n < 1 ∨ g * 128 < n ∨ g * 128 - n < a) = false by simp only [decide_eq_false_iff_not]; omega)
   go_wp2_with fail
   go_ret
   rw [show b = false from hbe.out.symm.trans (Hd.out.trans Hr.out)]
   exact ⟨rfl, hb⟩
/-- The call hands back extents and a number. -/
def RetXt (B : Nat) (t : TypeId) (X : List Xt × Int) (e : Ending) (w : World) : Prop := ∃ v, e = .returned (.tuple #[v, .int .i64 X.2]) ∧ w.ownsRow B t 2 v X.1.length (entCells X.1)
set_option maxRecDepth 100000 in
set_option maxHeartbeats 1000000 in
theorem sp_status (x : Im) (p q r : Pl) (w : World) (hX : IsIm w x p q r) (hf : x.d.fit = true) (hg : 0 < x.g ∧ x.g ≤ 64) (l1 a n : Int) (ha : -9223372036854775808 ≤ a ∧ a ≤ 9223372036854775807) (hn : -9223372036854775808 ≤ n ∧ n ≤ 9223372036854775807) :
 Calls Tryz.prog 8 #[imval x p q r, .int .i64 l1, .int .i64 a, .int .i64 n] w fun e w' => RetXt w.heap.size 41 (Im.status x.d x.g l1 a n) e w' ∧ Below w.heap.size w w' := by
 have hpi := fun (W : World) (hb : Below w.heap.size w W) => sp_pieces x.d p q W (hX.d.below hb) hf l1 a n
 have hou := fun (W : World) => sp_out x.g x.h hg a n ha hn W
 have Hst := hid (show Im.status x.d x.g l1 a n = spanOf (Im.entFlags x.d l1) x.g a n from rfl)
 have Hp := hid (fun h => spanOf_pcs (Im.entFlags x.d l1) (g := x.g) (a := a) (n := n) h)
 clear hX
 obtain ⟨D, g, h, ⟨seq, pos⟩, maps, br⟩ := x
 simp only at hpi hou Hst Hp
 clear hf hg
 obtain ⟨A1, a1⟩ := p
 obtain ⟨A2, a2⟩ := q
 obtain ⟨A3, a3⟩ := r
 have hB := Below.refl w.heap.size w
 have x := Blk.new w 33 #[.string (bs D.data), .slice A1 D.cache.length a1, .int .i64 D.fuse, .bool D.off, .slice A2 D.bad.length a2, .int .i64 g, .int .i64 h, .int .u64 seq, .int .i64 pos, .slice A3 maps.length a3, .bool br]
 have xk := blk11 x
 have hB_1 := hB.alloc hB.size (.cells #[.string (bs D.data), .slice A1 D.cache.length a1, .int .i64 D.fuse, .bool D.off, .slice A2 D.bad.length a2, .int .i64 g, .int .i64 h, .int .u64 seq, .int .i64 pos, .slice A3 maps.length a3, .bool br] 33)
 by_cases hc : n < 1 ∨ Im.within g a n = false
 · have Hr := hid (show Im.status D g l1 a n = ([], 10) by rw [Hst.out, spanOf, if_pos hc])
   have hd : decide (n < 1 ∨ Im.within g a n = false) = true := decide_eq_true hc
   rw [hd] at hou
   go_enter Tryz.func8, Tryz.ntmps8
   go_wp2_with fail
   go_at_call 21
   refine ((hou _)).mono ?_
   rintro e w1 ⟨rfl, hb1⟩
   replace hB := bt hB_1 hb1
   replace x := x.below hb1 x.lt
   replace xk := blk11 x
   clear hB_1
   go_wp2_with fail
   go_ret2
   rw [Hr.out]
   exact ⟨⟨_, rfl, World.ownsRow_nil _ _ _ _⟩, hB⟩
 · have Hr := hid (show Im.status D g l1 a n = pcs (Im.entFlags D l1) (Im.cuts a n) by rw [Hst.out, Hp.out hc])
   have hd : decide (n < 1 ∨ Im.within g a n = false) = false := decide_eq_false hc
   rw [hd] at hou
   generalize pcs (Im.entFlags D l1) (Im.cuts a n) = X at *
   go_enter Tryz.func8, Tryz.ntmps8
   go_wp2_with fail
   go_at_call 21
   refine ((hou _)).mono ?_
   rintro e w1 ⟨rfl, hb1⟩
   replace hB := bt hB_1 hb1
   replace x := x.below hb1 x.lt
   replace xk := blk11 x
   clear hB_1
   go_wp2_with fail
   go_at_call 22
   refine (hpi _ hB).mono ?_
   rintro e w2 ⟨⟨v, rfl, hv⟩, hb2⟩
   have hB2 := hB
   go_wp2_with fail
   go_ret2
   rw [Hr.out]
   exact ⟨⟨_, rfl, own_base hv hB2.size⟩, bt hB2 hb2⟩
end Go.Proofs.YtlapjkbefkmohaaGreat
