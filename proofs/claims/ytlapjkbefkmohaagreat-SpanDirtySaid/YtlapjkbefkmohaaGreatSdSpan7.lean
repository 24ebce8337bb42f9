/- Package span: Dirty. -/
import Derived.Test.YtlapjkbefkmohaaGreatSdSpan6
set_option linter.unusedVariables false
namespace Go.Proofs.YtlapjkbefkmohaaGreat
open Go.RowKit Go.Shelf
attribute [local go_sem] bs_mk bs_append bs_extract bs_size bs_toList bs_get
theorem rangeAt_at {w w' : World} {b o : Nat} {cs : List Value} (h : w.rangeAt b o cs) (hb : Below w.heap.size w w') : w'.rangeAt b o cs := fun j v hv => cell_below hb (h j v hv)
theorem IsMs.range {w : World} {l : List Dm} {r : Pl} (h : IsMs w l r) (h0 : 0 < l.length) : ∃ b off, r.a = some ⟨b, off, none⟩ ∧ b < w.heap.size ∧ ∀ j (hj : j < l.length), w.rangeAt b (off + j * dmN) (dmCells l[j]) := by
 rcases h.row with h1 | ⟨b, off, e, hc⟩
 · have := congrArg List.length h1; rw [dmRows_length h.bits] at this; simp at this; omega
 · have hk := dmRows_key l h.bits
   refine ⟨b, off, e, World.block_lt_of_cell? _ _ (hc _ _ (hk 0 h0 0 _ rfl)), fun j hj k v hv => ?_⟩
   rw [Nat.add_assoc, dmN]
   exact hc _ _ (hk j hj k v hv)
/-- The place of the first bitmap of this name; below 0: there is none. -/
def DmAt (l : List Dm) (nm : List UInt8) (k : Int) : Prop := (k = -1 ∧ ∀ j (hj : j < l.length), l[j].name ≠ nm) ∨ ∃ i, ∃ hi : i < l.length, k = i ∧ l[i].name = nm ∧ ∀ j (hj : j < i), l[j].name ≠ nm
theorem dirty_at {l : List Dm} {nm : List UInt8} {k : Int} (h : DmAt l nm k) {g a n : Int} (hc : ¬ (n < 1 ∨ Im.within g a n = false)) :
 (k = -1 ∧ Im.dirty l nm g a n = ([], 21)) ∨ ∃ i, ∃ hi : i < l.length, k = i ∧ Im.dirty l nm g a n = spanOf (Im.bitsOf l[i]) g a n := by
 rcases h with ⟨h1, h2⟩ | ⟨i, hi, h1, h2, h3⟩
 · refine .inl ⟨h1, ?_⟩
   have hn : l.find? (fun m => decide (m.name = nm)) = none := List.find?_eq_none.2 fun m hm => by
    obtain ⟨j, hj, rfl⟩ := List.getElem_of_mem hm
    simpa using h2 j hj
   unfold Im.dirty
   rw [if_neg hc, hn]
 · refine .inr ⟨i, hi, h1, ?_⟩
   have hn : l.find? (fun m => decide (m.name = nm)) = some l[i] := by
    rw [List.find?_eq_some_iff_append]
    refine ⟨by simpa using h2, l.take i, l.drop (i + 1), ?_, fun m hm => ?_⟩
    · rw [← List.drop_eq_getElem_cons hi, List.take_append_drop]
    · obtain ⟨j, hj, rfl⟩ := List.getElem_of_mem hm
      rw [List.length_take] at hj
      have := h3 j (by omega)
      rw [List.getElem_take]
      simpa using this
   unfold Im.dirty
   rw [if_neg hc, hn]
set_option maxRecDepth 100000 in
set_option maxHeartbeats 1000000 in
theorem sp_dirty1 (m : Dm) (h64 : m.bits.length = 64) (hm : m.name.length ≤ maxLen) (nm : List UInt8) (hnm : nm.length ≤ maxLen) (Bn : Nat) (w : World) (bn : Blk w Bn 9 #[.string (bs nm)]) :
 Calls Tryz.prog 29 #[dmval m, .pointer (some ⟨Bn, 0, none⟩)] w fun e w' => e = .returned (.bool (decide (m.name = nm))) ∧ Below w.heap.size w w' := by
 have a36 := Tryz.dm_agg
 unfold maxLen at hm hnm
 have hB := Below.refl w.heap.size w
 have bk := blk1 bn
 have x := Blk.new w 57 (dmCells m).toArray
 have xk := Tryz.dm_all m h64 x
 have hB_1 := hB.alloc hB.size (.cells (dmCells m).toArray 57)
 have bn_2 := bn.alloc (.cells (dmCells m).toArray 57)
 have bk_2 := blk1 bn_2
 obtain ⟨mn, hmn⟩ : ∃ mn, m.name = mn := ⟨_, rfl⟩
 have Hq := hid (show decide (m.name = nm) = (mn == nm) by rw [hmn, Bool.eq_iff_iff]; simp)
 have xc := (x).cell 0
 have xc2 : _ = some (Value.string (bs mn)) := xc.trans (by rw [← hmn]; rfl)
 clear xc
 go_enter Tryz.func29, Tryz.ntmps29
 by_cases hq : mn = nm
 · have q1 : (mn == nm) = true := by simpa using hq
   have Hr := hid (Hq.out.trans q1)
   go_wp2_with fail
   go_ret
   rw [Hr.out]
   exact ⟨rfl, hB_1⟩
 · have q1 : (mn == nm) = false := by simpa using hq
   have Hr := hid (Hq.out.trans q1)
   go_wp2_with fail
   go_ret
   rw [Hr.out]
   exact ⟨rfl, hB_1⟩
set_option maxRecDepth 100000 in
set_option maxHeartbeats 1000000 in
theorem sp_index (l : List Dm) (r : Pl) (nm : List UInt8) (hnm : nm.length ≤ maxLen) (Bn : Nat) (w : World) (hM : IsMs w l r) (bn : Blk w Bn 9 #[.string (bs nm)]) :
 Calls Tryz.prog 28 #[.slice r.a l.length r.c, .func (.func 29) #[] #[.pointer (some ⟨Bn, 0, none⟩)]] w fun e w' => (∃ k, e = .returned (.int .i64 k) ∧ DmAt l nm k) ∧ Below w.heap.size w w' := by
 have hll := Nat.le_trans hM.cap hM.max
 unfold maxLen at hll
 have H64 := hid hM.bits
 have Hnm := hid hM.name
 have Hc := hid (fun (h : 0 < l.length) => hM.range h)
 have hcl := fun (W : World) (hb : Below w.heap.size w W) (m : Dm) (h1 : m.bits.length = 64) (h2 : m.name.length ≤ maxLen) => sp_dirty1 m h1 h2 nm hnm Bn W (bn.below hb bn.lt)
 have a36 := Tryz.dm_agg
 have z36 := Tryz.dm_siz
 clear hM bn
 obtain ⟨A3, a3⟩ := r
 go_enter Tryz.func28, Tryz.ntmps28
 go_wp2_with fail
 go_loopw [8] (fun x W => ∃ m : Nat, m ≤ l.length ∧ x = .int .i64 m ∧ Hid (∀ j (hj : j < l.length), j < m → l[j].name ≠ nm) ∧ Below w.heap.size w W) (fun x _ => l.length - (intOf x).toNat)
 case atStart => exact ⟨0, Nat.zero_le _, rfl, hid (fun j _ h => by omega), Below.refl _ _⟩
 case round =>
  obtain ⟨m, hm, rfl, hno, hb⟩ := hrel
  by_cases hlt : m < l.length
  · obtain ⟨gb, go, ea, hgb, hcs⟩ := Hc.out (by omega)
    have ea' : A3 = some ⟨gb, go, none⟩ := ea
    subst ea'
    have h64 := H64.out _ (List.getElem_mem hlt)
    have hcl2 := hcl wr hb l[m] h64 (Hnm.out _ (List.getElem_mem hlt))
    have k1 := Tryz.dm_load l[m] h64 (rangeAt_at (hcs m hlt) hb)
    obtain ⟨e, he⟩ : ∃ e, l[m] = e := ⟨_, rfl⟩
    have Hyes := hid (fun (h : e.name = nm) => show DmAt l nm (m : Int) from .inr ⟨m, hlt, rfl, by rw [he]; exact h, fun j hj => hno.out j (by omega) hj⟩)
    have Hno := hid (fun (h : e.name ≠ nm) (j : Nat) (hj : j < l.length) (hj2 : j < m + 1) => show l[j].name ≠ nm by
     rcases Nat.lt_or_eq_of_le (Nat.le_of_lt_succ hj2) with h9 | h9
     · exact hno.out j hj h9
     · subst h9; rw [he]; exact h)
    rw [he] at hcl2 k1
    clear he h64 hcs hcl hno
    by_cases hq : e.name = nm
    · rw [decide_eq_true hq] at hcl2
      have Hy := hid (Hyes.out hq)
      clear Hyes Hno hq
      go_wp2_with fail
      refine hcl2.mono ?_
      rintro e w2 ⟨rfl, hb2⟩
      go_wp2_with fail
      go_ret
      exact ⟨⟨_, rfl, Hy.out⟩, bt hb hb2⟩
    · rw [decide_eq_false hq] at hcl2
      have Hy := hid (Hno.out hq)
      clear Hyes Hno hq
      go_wp2_with fail
      refine hcl2.mono ?_
      rintro e w2 ⟨rfl, hb2⟩
      go_wp2_with fail
      go_roundw
      case rel => exact ⟨m + 1, by omega, by go_num, Hy, bt hb hb2⟩
      case measure => simp [intOf]; omega
  · obtain rfl : m = l.length := by omega
    have Hy := hid (show DmAt l nm (-1) from .inl ⟨rfl, fun j hj => hno.out j hj hj⟩)
    clear hno
    go_wp2_with fail
    go_ret
    exact ⟨⟨_, rfl, Hy.out⟩, hb⟩
set_option maxRecDepth 100000 in
set_option maxHeartbeats 1000000 in
theorem sp_dirty (x : Im) (p q r : Pl) (w : World) (hX : IsIm w x p q r) (hg : 0 < x.g ∧ x.g ≤ 64) (nm : List UInt8) (hnm : nm.length ≤ maxLen) (a n : Int) (ha : -9223372036854775808 ≤ a ∧ a ≤ 9223372036854775807) (hn : -9223372036854775808 ≤ n ∧ n ≤ 9223372036854775807) :
 Calls Tryz.prog 11 #[imval x p q r, .string (bs nm), .int .i64 a, .int .i64 n] w fun e w' => RetXt w.heap.size 41 (Im.dirty x.maps nm x.g a n) e w' ∧ Below w.heap.size w w' := by
 have hou := fun (W : World) => sp_out x.g x.h hg a n ha hn W
 have hix := fun (W : World) (hb : Below w.heap.size w W) (Bn : Nat) (bn : Blk W Bn 9 #[.string (bs nm)]) => sp_index x.maps r nm hnm Bn W (hX.m.below hb) bn
 have hll := Nat.le_trans hX.m.cap hX.m.max
 unfold maxLen at hll
 have H64 := hid hX.m.bits
 have Hc := hid (fun (h : 0 < x.maps.length) => hX.m.range h)
 have Hd := hid (show Im.dirty x.maps nm x.g a n = if n < 1 ∨ Im.within x.g a n = false then ([], 10) else match x.maps.find? (fun m => decide (m.name = nm)) with | .none => ([], 21) | some m => spanOf (Im.bitsOf m) x.g a n from rfl)
 have Hat := hid (fun (k : Int) (h : DmAt x.maps nm k) (hc : ¬ (n < 1 ∨ Im.within x.g a n = false)) => dirty_at h hc)
 have Hin := hid (fun (hc : ¬ (n < 1 ∨ Im.within x.g a n = false)) (p : Cut) (hp : p ∈ Im.cuts a n) => show 0 ≤ p.1 ∧ p.1 < 64 by
  have hw : Im.within x.g a n = true := by
   cases hw : Im.within x.g a n with
   | true => rfl
   | false => exact absurd (.inr hw) hc
  obtain ⟨w1, w2, w3, w4⟩ := within_iff.1 hw
  have := (cuts_tiles (a := a) (n := n) (by omega)).mem w1 p hp
  omega)
 have a36 := Tryz.dm_agg
 have z36 := Tryz.dm_siz
 have b36 := Tryz.bt_agg
 have y36 := Tryz.bt_siz
 clear hX
 obtain ⟨D, g, h, ⟨seq, pos⟩, maps, br⟩ := x
 simp only at hou hix hll H64 Hc Hd Hat Hin
 clear hg
 obtain ⟨A1, a1⟩ := p
 obtain ⟨A2, a2⟩ := q
 obtain ⟨A3, a3⟩ := r
 have hB := Below.refl w.heap.size w
 have x := Blk.new w 33 #[.string (bs D.data), .slice A1 D.cache.length a1, .int .i64 D.fuse, .bool D.off, .slice A2 D.bad.length a2, .int .i64 g, .int .i64 h, .int .u64 seq, .int .i64 pos, .slice A3 maps.length a3, .bool br]
 have xk := blk11 x
 have hB_1 := hB.alloc hB.size (.cells #[.string (bs D.data), .slice A1 D.cache.length a1, .int .i64 D.fuse, .bool D.off, .slice A2 D.bad.length a2, .int .i64 g, .int .i64 h, .int .u64 seq, .int .i64 pos, .slice A3 maps.length a3, .bool br] 33)
 have y := Blk.new (w.alloc (.cells #[.string (bs D.data), .slice A1 D.cache.length a1, .int .i64 D.fuse, .bool D.off, .slice A2 D.bad.length a2, .int .i64 g, .int .i64 h, .int .u64 seq, .int .i64 pos, .slice A3 maps.length a3, .bool br] 33)) 9 #[.string (bs nm)]
 simp only [World.size_alloc] at y
 have yk := blk1 y
 have hB_2 := hB_1.alloc hB_1.size (.cells #[.string (bs nm)] 9)
 have x_3 := x.alloc (.cells #[.string (bs nm)] 9)
 have xk_3 := blk11 x_3
 go_enter Tryz.func11, Tryz.ntmps11
 go_wp2_with fail
 go_at_call 28
 refine (hix _ hB_2 _ y).mono ?_
 rintro e w1 ⟨⟨k, rfl, hk⟩, hb1⟩
 have hB1 := bt hB_2 hb1
 have x1 := (x_3).below hb1 (x_3).lt
 have xk1 := blk11 x1
 by_cases hc : n < 1 ∨ Im.within g a n = false
 · have Hr := hid (show Im.dirty maps nm g a n = ([], 10) by rw [Hd.out, if_pos hc])
   have hd : decide (n < 1 ∨ Im.within g a n = false) = true := decide_eq_true hc
   rw [hd] at hou
   clear hd hc Hd Hat Hin
   go_wp2_with fail
   go_at_call 21
   refine (hou _).mono ?_
   rintro e w2 ⟨rfl, hb2⟩
   go_wp2_with fail
   go_ret2
   rw [Hr.out]
   exact ⟨⟨_, rfl, World.ownsRow_nil _ _ _ _⟩, bt hB1 hb2⟩
 · have hd : decide (n < 1 ∨ Im.within g a n = false) = false := decide_eq_false hc
   rw [hd] at hou
   have Hin2 := hid (Hin.out hc)
   rcases Hat.out k hk hc with ⟨rfl, hr⟩ | ⟨i, hi, rfl, hr⟩
   · have Hr := hid hr
     clear hr hd hc Hd Hat Hin hk
     go_wp2_with fail
     go_at_call 21
     refine (hou _).mono ?_
     rintro e w2 ⟨rfl, hb2⟩
     go_wp2_with fail
     go_ret2
     rw [Hr.out]
     exact ⟨⟨_, rfl, World.ownsRow_nil _ _ _ _⟩, bt hB1 hb2⟩
   · have h64 := H64.out _ (List.getElem_mem hi)
     obtain ⟨gb, go, ea, hgb, hcs⟩ := Hc.out (by omega)
     have ea' : A3 = some ⟨gb, go, none⟩ := ea
     subst ea'
     have Hr := hid (hr.trans (spanOf_pcs _ hc))
     have hrg := hcs i hi
     obtain ⟨e, he⟩ : ∃ e, maps[i] = e := ⟨_, rfl⟩
     rw [he] at Hr h64 hrg
     clear hr hd hc Hd Hat Hin hk he hcs
     have hpi := fun (W : World) => sp_pieces_b e h64 W a n Hin2.out
     have Hk := hid (fun (W : World) (hb : Below w1.heap.size w1 W) => Tryz.dm_load e h64 (rangeAt_at hrg (bt hB1 hb)))
     generalize pcs (Im.bitsOf e) (Im.cuts a n) = X at *
     have i0 : ¬ (i : Int) < 0 := by omega
     go_wp2_with fail
     go_at_call 21
     refine (hou _).mono ?_
     rintro e2 w2 ⟨rfl, hb2⟩
     have k1 := Hk.out w2 hb2
     have x2 := x1.below hb2 x1.lt
     have xk2 := blk11 x2
     go_wp2_with (refine wpList_run rfl (dmval e) (Tryz.bt_run _ rfl e h64 rfl _) ?_)
     go_at_call 22
     refine (hpi _).mono ?_
     rintro e3 w3 ⟨⟨v, rfl, hv⟩, hb3⟩
     have hB2 := bt hB1 hb2
     go_wp2_with fail
     go_ret2
     rw [Hr.out]
     exact ⟨⟨_, rfl, own_base hv hB2.size⟩, bt hB2 hb3⟩
end Go.Proofs.YtlapjkbefkmohaaGreat
