/- Package ref13: one of the guest's clusters is marked in all bitmaps. -/
import Derived.Test.YtlapjkbefkmohaaGreatSdImg9
set_option linter.unusedVariables false
namespace Go.Proofs.YtlapjkbefkmohaaGreat
open Go.RowKit Go.Shelf
attribute [local go_sem] bs_mk bs_append bs_extract bs_size bs_toList bs_get
/-- Marked, the first i of a row of bitmaps. -/
def markTo (k i : Nat) (l : List Dm) : List Dm := (l.take i).map (fun m => { m with bits := m.bits.set k true }) ++ l.drop i
theorem markTo_zero (k : Nat) (l : List Dm) : markTo k 0 l = l := by simp [markTo]
theorem markTo_all {k : Nat} (hk : k < 64) (l : List Dm) : markTo k l.length l = Im.markM k l := by
 rw [Im.markM, if_neg (by omega), Int.toNat_natCast]
 simp [markTo]
theorem markTo_length (k i : Nat) (l : List Dm) : (markTo k i l).length = l.length := by simp [markTo]; omega
theorem markTo_mem {k i : Nat} {l : List Dm} {m : Dm} (h : m ∈ markTo k i l) : ∃ o ∈ l, m.name = o.name ∧ m.bits.length = o.bits.length := by
 rcases List.mem_append.1 h with h | h
 · obtain ⟨o, ho, rfl⟩ := List.mem_map.1 h
   exact ⟨o, List.mem_of_mem_take ho, rfl, by simp⟩
 · exact ⟨m, List.mem_of_mem_drop h, rfl, rfl⟩
theorem markTo_get {k i : Nat} {l : List Dm} (h : i < l.length) : (markTo k i l)[i]'(by rw [markTo_length]; exact h) = l[i] := by
 unfold markTo
 rw [List.getElem_append_right (by simp; omega)]
 simp only [List.length_map, List.length_take, Nat.min_eq_left (Nat.le_of_lt h), Nat.sub_self, List.getElem_drop, Nat.add_zero]
theorem markTo_next {k i : Nat} {l : List Dm} (h : i < l.length) : (markTo k i l).set i { l[i] with bits := l[i].bits.set k true } = markTo k (i + 1) l := by
 unfold markTo
 rw [List.set_append, if_neg (by simp; omega), List.length_map, List.length_take, Nat.min_eq_left (Nat.le_of_lt h), Nat.sub_self, List.drop_eq_getElem_cons h, List.set_cons_zero, List.take_succ_eq_append_getElem h, List.map_append, List.append_assoc]
 rfl
set_option maxRecDepth 100000 in
set_option maxHeartbeats 2000000 in
theorem r13_mark (x : Im) (k : Int) (p q r : Pl) (w : World) (hI : IsIm w x p q r) (hk64 : okInt k) (hml : x.maps.length ≤ 1000000) :
 Calls Tryz.prog 32 #[imval x p q r, .int .i64 k] w fun e w' => (∃ r', e = .returned (imval (x.mark k) p q r') ∧ IsIm w' (x.mark k) p q r' ∧ ∀ g, g < w.heap.size → ImOff g x p q r → ImOff g (x.mark k) p q r') ∧ Below w.heap.size w w' := by
 have hap := fun g (hg : w.heap.size ≤ g) => hI.apart hg
 by_cases h : k < 0 ∨ 64 ≤ k
 · have Hr := hid (show x.mark k = x by rw [Im.mark, Im.markM, if_pos h])
   clear hap
   obtain ⟨D, g, hh, ⟨seq, pos⟩, maps, br⟩ := x
   obtain ⟨A1, a1⟩ := p
   obtain ⟨A2, a2⟩ := q
   obtain ⟨A3, a3⟩ := r
   have hB := Below.refl w.heap.size w
   have x := Blk.new w 33 #[.string (bs D.data), .slice A1 D.cache.length a1, .int .i64 D.fuse, .bool D.off, .slice A2 D.bad.length a2, .int .i64 g, .int .i64 hh, .int .u64 seq, .int .i64 pos, .slice A3 maps.length a3, .bool br]
   have xk := blk11 x
   have hB_1 := hB.alloc hB.size (.cells #[.string (bs D.data), .slice A1 D.cache.length a1, .int .i64 D.fuse, .bool D.off, .slice A2 D.bad.length a2, .int .i64 g, .int .i64 hh, .int .u64 seq, .int .i64 pos, .slice A3 maps.length a3, .bool br] 33)
   have hI_2 := hI.below ((Below.refl _ _).alloc (Nat.le_refl _) (.cells #[.string (bs D.data), .slice A1 D.cache.length a1, .int .i64 D.fuse, .bool D.off, .slice A2 D.bad.length a2, .int .i64 g, .int .i64 hh, .int .u64 seq, .int .i64 pos, .slice A3 maps.length a3, .bool br] 33))
   have r := Blk.new (w.alloc (.cells #[.string (bs D.data), .slice A1 D.cache.length a1, .int .i64 D.fuse, .bool D.off, .slice A2 D.bad.length a2, .int .i64 g, .int .i64 hh, .int .u64 seq, .int .i64 pos, .slice A3 maps.length a3, .bool br] 33)) 33 #[.string (bs D.data), .slice A1 D.cache.length a1, .int .i64 D.fuse, .bool D.off, .slice A2 D.bad.length a2, .int .i64 g, .int .i64 hh, .int .u64 seq, .int .i64 pos, .slice A3 maps.length a3, .bool br]
   simp only [World.size_alloc] at r
   have rk := blk11 r
   have hB_3 := hB_1.alloc hB_1.size (.cells #[.string (bs D.data), .slice A1 D.cache.length a1, .int .i64 D.fuse, .bool D.off, .slice A2 D.bad.length a2, .int .i64 g, .int .i64 hh, .int .u64 seq, .int .i64 pos, .slice A3 maps.length a3, .bool br] 33)
   have hI_4 := hI_2.below ((Below.refl _ _).alloc (Nat.le_refl _) (.cells #[.string (bs D.data), .slice A1 D.cache.length a1, .int .i64 D.fuse, .bool D.off, .slice A2 D.bad.length a2, .int .i64 g, .int .i64 hh, .int .u64 seq, .int .i64 pos, .slice A3 maps.length a3, .bool br] 33))
   have x_5 := x.alloc (.cells #[.string (bs D.data), .slice A1 D.cache.length a1, .int .i64 D.fuse, .bool D.off, .slice A2 D.bad.length a2, .int .i64 g, .int .i64 hh, .int .u64 seq, .int .i64 pos, .slice A3 maps.length a3, .bool br] 33)
   have xk_5 := blk11 x_5
   by_cases h0 : k < 0
   · have d0 : decide (k < 0) = true := decide_eq_true h0
     clear h h0
     go_enter Tryz.func32, Tryz.ntmps32
     go_wp2_with fail
     have yy := rk
     have iw := hI_4
     have bw := hB_3
     refine bodyPost_ret (v := imval ⟨D, g, hh, ⟨seq, pos⟩, maps, br⟩ ⟨A1, a1⟩ ⟨A2, a2⟩ ⟨A3, a3⟩) (by simp [results, Tryz.results32, go_sem, yy]) rfl ?_
     rw [Hr.out]
     exact ⟨⟨⟨A3, a3⟩, rfl, iw, fun _ _ h => h⟩, bw⟩
   · have d0 : decide (k < 0) = false := decide_eq_false h0
     have d1 : decide ((64 : Int) ≤ k) = true := decide_eq_true (by omega)
     clear h h0
     go_enter Tryz.func32, Tryz.ntmps32
     go_wp2_with fail
     have yy := rk
     have iw := hI_4
     have bw := hB_3
     refine bodyPost_ret (v := imval ⟨D, g, hh, ⟨seq, pos⟩, maps, br⟩ ⟨A1, a1⟩ ⟨A2, a2⟩ ⟨A3, a3⟩) (by simp [results, Tryz.results32, go_sem, yy]) rfl ?_
     rw [Hr.out]
     exact ⟨⟨⟨A3, a3⟩, rfl, iw, fun _ _ h => h⟩, bw⟩
 · obtain ⟨k, rfl⟩ := Int.eq_ofNat_of_zero_le (show 0 ≤ k by omega)
   have hk : k < 64 := by omega
   have d0 : decide ((k : Int) < 0) = false := decide_eq_false (by omega)
   have d1 : decide ((64 : Int) ≤ (k : Int)) = false := decide_eq_false (by omega)
   have d2 : decide (64 ≤ k) = false := decide_eq_false (by omega)
   have hk' : ((k : Nat) : Int) < 64 := by omega
   have Hr := hid (show x.mark k = { x with maps := markTo k x.maps.length x.maps } by rw [Im.mark, ← markTo_all hk])
   obtain ⟨D, g, hh, ⟨seq, pos⟩, maps, br⟩ := x
   simp only at Hr hml hap
   obtain ⟨hd, hm⟩ := hI
   simp only at hd hm
   have h64 := hm.bits
   have hnm := hm.name
   have hrow := hm.row
   have hnil := hm.nil
   obtain ⟨i0, hi, hz0, hz1, hz2⟩ := info_parts Tryz.infoDmap3
   have a36 := Tryz.dm_agg
   have z36 := Tryz.dm_siz
   clear h hm
   obtain ⟨A1, a1⟩ := p
   obtain ⟨A2, a2⟩ := q
   obtain ⟨A3, a3⟩ := r
   simp only at hrow hnil
   have hB := Below.refl w.heap.size w
   have x := Blk.new w 33 #[.string (bs D.data), .slice A1 D.cache.length a1, .int .i64 D.fuse, .bool D.off, .slice A2 D.bad.length a2, .int .i64 g, .int .i64 hh, .int .u64 seq, .int .i64 pos, .slice A3 maps.length a3, .bool br]
   have xk := blk11 x
   have xkf := x.frozen
   have hB_1 := hB.alloc hB.size (.cells #[.string (bs D.data), .slice A1 D.cache.length a1, .int .i64 D.fuse, .bool D.off, .slice A2 D.bad.length a2, .int .i64 g, .int .i64 hh, .int .u64 seq, .int .i64 pos, .slice A3 maps.length a3, .bool br] 33)
   have hd_2 := hd.below ((Below.refl _ _).alloc (Nat.le_refl _) (.cells #[.string (bs D.data), .slice A1 D.cache.length a1, .int .i64 D.fuse, .bool D.off, .slice A2 D.bad.length a2, .int .i64 g, .int .i64 hh, .int .u64 seq, .int .i64 pos, .slice A3 maps.length a3, .bool br] 33))
   have hrow_3 := hrow.below ((Below.refl _ _).alloc (Nat.le_refl _) (.cells #[.string (bs D.data), .slice A1 D.cache.length a1, .int .i64 D.fuse, .bool D.off, .slice A2 D.bad.length a2, .int .i64 g, .int .i64 hh, .int .u64 seq, .int .i64 pos, .slice A3 maps.length a3, .bool br] 33))
   have r := Blk.new (w.alloc (.cells #[.string (bs D.data), .slice A1 D.cache.length a1, .int .i64 D.fuse, .bool D.off, .slice A2 D.bad.length a2, .int .i64 g, .int .i64 hh, .int .u64 seq, .int .i64 pos, .slice A3 maps.length a3, .bool br] 33)) 33 #[.string (bs []), .slice none 0 0, .int .i64 0, .bool false, .slice none 0 0, .int .i64 0, .int .i64 0, .int .u64 0, .int .i64 0, .slice none 0 0, .bool false]
   simp only [World.size_alloc] at r
   have rk := blk11 r
   have rkf := r.frozen
   have hB_4 := hB_1.alloc hB_1.size (.cells #[.string (bs []), .slice none 0 0, .int .i64 0, .bool false, .slice none 0 0, .int .i64 0, .int .i64 0, .int .u64 0, .int .i64 0, .slice none 0 0, .bool false] 33)
   have hd_5 := hd_2.below ((Below.refl _ _).alloc (Nat.le_refl _) (.cells #[.string (bs []), .slice none 0 0, .int .i64 0, .bool false, .slice none 0 0, .int .i64 0, .int .i64 0, .int .u64 0, .int .i64 0, .slice none 0 0, .bool false] 33))
   have hrow_6 := hrow_3.below ((Below.refl _ _).alloc (Nat.le_refl _) (.cells #[.string (bs []), .slice none 0 0, .int .i64 0, .bool false, .slice none 0 0, .int .i64 0, .int .i64 0, .int .u64 0, .int .i64 0, .slice none 0 0, .bool false] 33))
   have x_7 := x.alloc (.cells #[.string (bs []), .slice none 0 0, .int .i64 0, .bool false, .slice none 0 0, .int .i64 0, .int .i64 0, .int .u64 0, .int .i64 0, .slice none 0 0, .bool false] 33)
   have xk_7 := blk11 x_7
   have xkf_7 := x_7.frozen
   go_enter Tryz.func32, Tryz.ntmps32
   go_upto_region 4 with fail
   generalize ((w.alloc (.cells #[.string (bs D.data), .slice A1 D.cache.length a1, .int .i64 D.fuse, .bool D.off, .slice A2 D.bad.length a2, .int .i64 g, .int .i64 hh, .int .u64 seq, .int .i64 pos, .slice A3 maps.length a3, .bool br] 33)).alloc (.cells #[.string (bs []), .slice none 0 0, .int .i64 0, .bool false, .slice none 0 0, .int .i64 0, .int .i64 0, .int .u64 0, .int .i64 0, .slice none 0 0, .bool false] 33)) = V at hB_4 hd_5 hrow_6 x_7 xk_7 xkf_7 r rk rkf ⊢
   clear hB_1 hd_2 hrow_3 hB hd hrow x xk xkf
   have hB := hB_4
   have hd := hd_5
   have hrow := hrow_6
   have x := x_7
   have xk := xk_7
   have xkf := xkf_7
   clear hB_4 hd_5 hrow_6 x_7 xk_7 xkf_7
   have rl := r.lt
   go_wp2_with (at_builtin; refine wpList_app rfl _ _ 31 rfl V.heap.size 57 i0 (dmval Dm.zero) 66 88 Tryz.underlying31 hi hz0 hz1 hz2 rfl (by decide) _ 0 [] rfl (World.ownsRow_nil _ _ _ _) A3 maps.length a3 (dmRows maps) rfl hrow (dmRows_length h64) hnil (one_dms maps) (by unfold maxLen; omega) (by omega) (Nat.le_refl _) ?_; intro v5 w5 h5 hb5)
   simp only [Nat.zero_add, List.nil_append] at h5
   obtain ⟨A5, c5, rfl, _⟩ := own_slice h5
   have hbV := hB
   have dV := hd
   go_loopw [6] (fun u W => ∃ i : Nat, i ≤ maps.length ∧ u = .int .i64 i ∧ W.ownsRow V.heap.size 57 66 (.slice A5 maps.length c5) maps.length (dmRows (markTo k i maps)) ∧ Below V.heap.size V W) (fun u _ => maps.length - (intOf u).toNat)
   case atStart => exact ⟨0, Nat.zero_le _, rfl, by rw [markTo_zero]; exact h5, hb5⟩
   case round =>
    clear h5
    obtain ⟨i, hin, rfl, hown, hb⟩ := hrel
    by_cases hlt : i < maps.length
    · obtain ⟨g5, cap5, hv5, hbg, _⟩ := hown.form (by omega)
      injection hv5 with e1 _ e3
      subst e1 e3
      have hl66 : (dmRows (markTo k i maps)).length = maps.length * 66 := by
       rw [dmRows_length (fun m hm => by obtain ⟨o, ho, _, h2⟩ := markTo_mem hm; rw [h2]; exact h64 o ho), markTo_length]
      have h64' : ∀ m ∈ markTo k i maps, m.bits.length = 64 := fun m hm => by obtain ⟨o, ho, _, h2⟩ := markTo_mem hm; rw [h2]; exact h64 o ho
      have c0 : wr.cell? ⟨g5, i * dmN + 2 + k, none⟩ = some (dmRows (markTo k i maps))[i * 66 + (2 + k)] := by
       rw [show i * dmN + 2 + k = i * 66 + (2 + k) by unfold dmN; omega]
       exact own_cell hown (i * 66 + (2 + k)) (by omega)
      have f0 : wr.frozen? ⟨g5, i * dmN + 2 + k, none⟩ = false := own_frozen hown _
      have h1 := own_set hown (i * 66 + (2 + k)) (by omega) (.bool true)
      rw [dmRows_setBit _ h64' i k (by rw [markTo_length]; exact hlt) hk true, markTo_get hlt, markTo_next hlt, show i * 66 + (2 + k) = i * dmN + 2 + k by unfold dmN; omega] at h1
      have b1 := hb.setCell (p := ⟨g5, i * dmN + 2 + k, none⟩) hbg (.bool true)
      generalize (dmRows (markTo k i maps))[i * 66 + (2 + k)] = o5 at c0
      clear h64' hl66
      go_wp2_with fail
      go_roundw
      case rel => exact ⟨i + 1, by omega, by go_num, h1, b1⟩
      case measure => simp [intOf]; omega
    · obtain rfl : i = maps.length := by omega
      obtain ⟨R, hR, hms, hoff⟩ := isMs_own (l := markTo k maps.length maps) (by rw [markTo_length]; exact hown) (fun m hm => by obtain ⟨o, ho, _, h2⟩ := markTo_mem hm; rw [h2]; exact h64 o ho) (fun m hm => by obtain ⟨o, ho, h2, _⟩ := markTo_mem hm; rw [h2]; exact hnm o ho)
      rw [markTo_length] at hR
      injection hR with e1 _ e3
      obtain ⟨RA, RC⟩ := R
      simp only at e1 e3
      subst e1 e3
      have x6 := x.below hb x.lt
      have r6 := r.below hb r.lt
      have d6 := dV.below (hb.mono (Nat.le_refl _))
      have b6 := bt hbV hb
      have oX := hap w.heap.size (Nat.le_refl _)
      have oR := hap (w.heap.size + 1) (by omega)
      have dx := oX.1
      have dr := oR.1
      have mx := hoff w.heap.size (by omega)
      have mr := hoff (w.heap.size + 1) (by omega)
      have hle : w.heap.size ≤ V.heap.size := by omega
      clear hown h64 hnm hrow hnil hap oX oR xk xkf rk rkf x r hB
      have x6k := blk11 x6
      have x6kf := x6.frozen
      have r6k := blk11 r6
      have r6kf := r6.frozen
      have b6_1 := (b6).setCell (p := ⟨w.heap.size, 9, none⟩) (by show _ ≤ (w.heap.size : Nat); omega) (.slice A5 maps.length c5)
      have d6_2 := (d6).off (a := ⟨w.heap.size, 9, none⟩) (by first | assumption | omega) (.slice A5 maps.length c5)
      have hms_3 := (hms).off (a := ⟨w.heap.size, 9, none⟩) (by first | assumption | omega) (.slice A5 maps.length c5)
      have x6_4 := (x6).set 9 (.slice A5 maps.length c5)
      simp only [List.setIfInBounds_toArray, List.set_cons_zero, List.set_cons_succ] at x6_4
      have x6k_4 := blk11 x6_4
      have x6kf_4 := x6_4.frozen
      have r6_5 := (r6).other (a := ⟨w.heap.size, 9, none⟩) (by show _ ≠ (w.heap.size : Nat); omega) (.slice A5 maps.length c5)
      have r6k_5 := blk11 r6_5
      have r6kf_5 := r6_5.frozen
      have b6_6 := below11 b6_1 (g := w.heap.size + 1) (by omega) (.string (bs D.data)) (.slice A1 D.cache.length a1) (.int .i64 D.fuse) (.bool D.off) (.slice A2 D.bad.length a2) (.int .i64 g) (.int .i64 hh) (.int .u64 seq) (.int .i64 pos) (.slice A5 maps.length c5) (.bool br)
      have d6_7 := d6_2.off11 (g := w.heap.size + 1) (by first | assumption | omega) (.string (bs D.data)) (.slice A1 D.cache.length a1) (.int .i64 D.fuse) (.bool D.off) (.slice A2 D.bad.length a2) (.int .i64 g) (.int .i64 hh) (.int .u64 seq) (.int .i64 pos) (.slice A5 maps.length c5) (.bool br)
      have hms_8 := hms_3.off11 (g := w.heap.size + 1) (by first | assumption | omega) (.string (bs D.data)) (.slice A1 D.cache.length a1) (.int .i64 D.fuse) (.bool D.off) (.slice A2 D.bad.length a2) (.int .i64 g) (.int .i64 hh) (.int .u64 seq) (.int .i64 pos) (.slice A5 maps.length c5) (.bool br)
      have x6_9 := blk_off11 x6_4 (g := w.heap.size + 1) (by omega) (.string (bs D.data)) (.slice A1 D.cache.length a1) (.int .i64 D.fuse) (.bool D.off) (.slice A2 D.bad.length a2) (.int .i64 g) (.int .i64 hh) (.int .u64 seq) (.int .i64 pos) (.slice A5 maps.length c5) (.bool br)
      have x6k_9 := blk11 x6_9
      have x6kf_9 := x6_9.frozen
      have r6_10 := blk_set11 r6_5 (.string (bs D.data)) (.slice A1 D.cache.length a1) (.int .i64 D.fuse) (.bool D.off) (.slice A2 D.bad.length a2) (.int .i64 g) (.int .i64 hh) (.int .u64 seq) (.int .i64 pos) (.slice A5 maps.length c5) (.bool br)
      have r6k_10 := blk11 r6_10
      have r6kf_10 := r6_10.frozen
      have yy := blk11 r6_10
      have bw := b6_6
      have dw := d6_7
      have mw := hms_8
      go_wp2_with fail
      refine bodyPost_ret (v := .agg #[.string (bs D.data), .slice A1 D.cache.length a1, .int .i64 D.fuse, .bool D.off, .slice A2 D.bad.length a2, .int .i64 g, .int .i64 hh, .int .u64 seq, .int .i64 pos, .slice A5 maps.length c5, .bool br]) (by simp [results, Tryz.results32, go_sem, yy]) rfl ?_
      rw [Hr.out]
      refine ⟨⟨⟨A5, c5⟩, by simp [markTo_length], ⟨dw, mw⟩, fun g' h1 h2 => ⟨h2.1, hoff g' (by omega)⟩⟩, bw⟩
end Go.Proofs.YtlapjkbefkmohaaGreat
