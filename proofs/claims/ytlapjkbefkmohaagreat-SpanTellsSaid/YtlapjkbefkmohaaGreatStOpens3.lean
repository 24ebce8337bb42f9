/- Package span: what dirty bitmaps tell of ranges. Package span: Dirty. Package ref15: what dirty bitmaps tell. Arguments opened: a row of extents. -/
import Derived.Test.YtlapjkbefkmohaaGreatStSpan5
import Derived.Test.YtlapjkbefkmohaaGreatStGood15
import Derived.Test.YtlapjkbefkmohaaGreatStSpan10
import Derived.Test.YtlapjkbefkmohaaGreatStRoot3
import Derived.Test.YtlapjkbefkmohaaGreatStSpan1
set_option linter.unusedVariables false
namespace Go.Proofs.YtlapjkbefkmohaaGreat
open Go.RowKit Go.Shelf
attribute [local go_sem] bs_mk bs_append bs_extract bs_size bs_toList bs_get
theorem Tryz.bt_agg (W : World) : (isAgg 85).run Tryz.prog W = .ok true W := by
 unfold isAgg
 rw [Sem.run_bind, run_underlying Tryz.underlying85 W]
 rfl
theorem Tryz.bt_size : (Tryz.prog.info? 85).map (·.size) = some 66 := by kernel_rfl
theorem Tryz.bt_siz (W : World) : (sizeOf 85).run Tryz.prog W = .ok dmN W := by
 unfold dmN
 obtain ⟨i, hi, h⟩ := Option.map_eq_some_iff.1 Tryz.bt_size
 simp [sizeOf, typeInfo, hi, h]
set_option maxRecDepth 100000 in
theorem Tryz.bt_build (m : Dm) (h : m.bits.length = 64) (w : World) : (Instr.build 85 #[(0, dmval m)]).run Tryz.prog w = .ok (dmval m) w := by
 obtain ⟨nm, u, l⟩ := m
 have h : l.length = 64 := h
 match l, h with
 | b0 :: b1 :: b2 :: b3 :: b4 :: b5 :: b6 :: b7 :: b8 :: b9 :: b10 :: b11 :: b12 :: b13 :: b14 :: b15 :: b16 :: b17 :: b18 :: b19 :: b20 :: b21 :: b22 :: b23 :: b24 :: b25 :: b26 :: b27 :: b28 :: b29 :: b30 :: b31 :: b32 :: b33 :: b34 :: b35 :: b36 :: b37 :: b38 :: b39 :: b40 :: b41 :: b42 :: b43 :: b44 :: b45 :: b46 :: b47 :: b48 :: b49 :: b50 :: b51 :: b52 :: b53 :: b54 :: b55 :: b56 :: b57 :: b58 :: b59 :: b60 :: b61 :: b62 :: b63 :: [], _ => show _ = _; kernel_rfl
theorem Tryz.bt_run {ρ : Operand → Value} {o : Oper} (x : Operand) (ho : o.op = .build 85 #[(0, x)]) (m : Dm) (h : m.bits.length = 64) (hx : ρ x = dmval m) (w : World) : (execOp ρ o).run Tryz.prog w = .ok (.value (dmval m)) w := by
 have h0 : (#[(0, x)] : Array (Nat × Operand)).map (fun p => (p.1, ρ p.2)) = #[(0, dmval m)] := by simp [hx]
 unfold execOp
 simp only [ho, h0, Sem.run_bind, Tryz.bt_build m h, Result.andThen_ok, Sem.run_pure]
theorem bitsOf_at (m : Dm) (h64 : m.bits.length = 64) (k : Nat) (hk : k < 64) : Im.bitsOf m (k : Int) = (if m.bits[k]'(by omega) = true then 1 else 0, 0) := by
 unfold Im.bitsOf
 rw [Int.toNat_natCast, List.getD, List.getElem?_eq_getElem (by omega)]
 rfl
set_option maxRecDepth 100000 in
set_option maxHeartbeats 1000000 in
theorem b_flags (m : Dm) (h64 : m.bits.length = 64) (g : Int) (hg : 0 ≤ g ∧ g < 64) (w : World) :
 Calls Tryz.prog 134 #[dmval m, .int .i64 g] w fun e w' => e = .returned (.tuple #[.int .i64 (Im.bitsOf m g).1, .int .i64 (Im.bitsOf m g).2]) ∧ Below w.heap.size w w' := by
 obtain ⟨k, rfl⟩ := Int.eq_ofNat_of_zero_le hg.1
 have hk : k < 64 := by omega
 have Hb := hid (bitsOf_at m h64 k hk)
 have hB := (Below.refl w.heap.size w).alloc (Nat.le_refl _) (.cells (dmCells m).toArray 85)
 have x0 := Blk.new w 85 (dmCells m).toArray
 have kb := x0.bit k (by omega)
 have a36 := Tryz.bt_agg
 obtain ⟨bv, hbv⟩ : ∃ bv, m.bits[k]'(by omega) = bv := ⟨_, rfl⟩
 rw [hbv] at kb Hb
 clear hbv
 cases bv with
 | true =>
  have Hr := hid (show Im.bitsOf m (k : Int) = (1, 0) by rw [Hb.out]; rfl)
  clear Hb
  go_enter Tryz.func134, Tryz.ntmps134
  go_wp2_with fail
  go_ret2
  rw [Hr.out]
  exact ⟨rfl, hB⟩
 | false =>
  have Hr := hid (show Im.bitsOf m (k : Int) = (0, 0) by rw [Hb.out]; rfl)
  clear Hb
  go_enter Tryz.func134, Tryz.ntmps134
  go_wp2_with fail
  go_ret2
  rw [Hr.out]
  exact ⟨rfl, hB⟩
set_option maxRecDepth 100000 in
set_option maxHeartbeats 1000000 in
theorem sp_pieces_b (mm : Dm) (h64 : mm.bits.length = 64) (w : World) (a n : Int) (hin : ∀ p ∈ Im.cuts a n, 0 ≤ p.1 ∧ p.1 < 64) :
 Calls Tryz.prog 22 #[.int .i64 a, .int .i64 n, .iface 85 (dmval mm)] w fun e w' =>
  (∃ v, e = .returned (.tuple #[v, .int .i64 (pcs (Im.bitsOf mm) (Im.cuts a n)).2]) ∧ w'.ownsRow w.heap.size 41 2 v (pcs (Im.bitsOf mm) (Im.cuts a n)).1.length (entCells (pcs (Im.bitsOf mm) (Im.cuts a n)).1)) ∧ Below w.heap.size w w' := by
 have hfl := fun (W : World) (hb : Below w.heap.size w W) (g : Int) (hg : 0 ≤ g ∧ g < 64) => b_flags mm h64 g hg W
 have Hin := hid hin
 clear hin
 have hcut := fun (W : World) => w_cut a n W
 have Hlen := hid (cuts_length a n)
 have Hr := hid (show ∀ p ∈ Im.cuts a n, 1 ≤ p.2.2 ∧ p.2.2 ≤ 128 from fun p hp => by
  by_cases hak : a < 0 ∨ n < 0 ∨ 1073741824 < a ∨ 65536 < n
  · have : Im.cuts a n = [] := by simp [Im.cuts, hak]
    rw [this] at hp; cases hp
  · have := (cuts_tiles hak).mem (by omega) p hp; omega)
 generalize hL : Im.cuts a n = L at *
 clear hL
 have hB := Below.refl w.heap.size w
 go_enter Tryz.func22, Tryz.ntmps22
 go_wp2_with fail
 go_at_call 61
 refine ((hcut _)).mono ?_
 rintro e w1 ⟨⟨v, rfl, hv⟩, hb1⟩
 replace hB := bt hB hb1
 obtain ⟨A1, c1, rfl, hn1, hc1, hm1⟩ := own_slice hv
 have hA := Cells.of_own hv
 clear hv hcut
 go_wp2_with fail
 obtain ⟨i0, hi, hz0, hz1, hz2⟩ := info_parts Tryz.infoXt
 go_loopw [8, 17] (fun l x W => ∃ m : Nat, m ≤ L.length ∧ x = .int .i64 m ∧ Hid ((tell (Im.bitsOf mm) (L.take m)).2 = 0) ∧ W.ownsRow w1.heap.size 41 2 l m (entCells (tell (Im.bitsOf mm) (L.take m)).1) ∧ Below w1.heap.size w1 W) (fun _ x _ => L.length - (intOf x).toNat)
 case atStart => exact ⟨0, Nat.zero_le _, rfl, hid rfl, World.ownsRow_nil _ _ _ _, Below.refl _ _⟩
 case round =>
  obtain ⟨m, hm, rfl, ht, hrow, hb⟩ := hrel
  by_cases hlt : m < L.length
  · obtain ⟨gA, oA, e1, hc⟩ := (hA.below hb).cut hlt
    replace hc := hc m hlt
    have Hn := hid (tell_next hlt ht.out)
    have Hlr := hid (tell_len _ ht.out)
    obtain ⟨⟨xk, xo, xn⟩, hx⟩ : ∃ x, L[m] = x := ⟨_, rfl⟩
    have hxk := Hin.out _ (List.getElem_mem hlt)
    rw [hx] at hc Hn hxk
    simp only at hc
    clear hx
    obtain ⟨⟨fv, fe⟩, hfv⟩ : ∃ x, Im.bitsOf mm xk = x := ⟨_, rfl⟩
    have hB1 := (hB).trans (hb.mono (hB).size)
    have hcall := hfl (wr.alloc (.cells #[.int .i64 xk, .int .i64 xo, .int .i64 xn] 80)) (hB1.alloc hB1.size _) xk hxk
    rw [hfv] at hcall Hn
    simp only at hcall Hn
    replace hfv := hid hfv
    subst e1
    have x1 := Blk.new wr 80 #[.int .i64 xk, .int .i64 xo, .int .i64 xn]
    have kx := blk3 x1
    have hba := hb.alloc hb.size (.cells #[.int .i64 xk, .int .i64 xo, .int .i64 xn] 80)
    have o1 := hrow.alloc (.cells #[.int .i64 xk, .int .i64 xo, .int .i64 xn] 80)
    have hll := Hlen.out
    have hme := fun (k : Nat) (v : Value) (W : World) => show (method (k + 1) 85 v "cofferdam/span.flags").run Tryz.prog W = .ok (134, v) W from by kernel_rfl
    clear hfl
    by_cases he : fe = 0
    · subst he
      have Hmap := hid (show entCells (tell (Im.bitsOf mm) (L.take m)).1 ++ [Value.int .i64 xn, Value.int .i64 fv] = entCells (tell (Im.bitsOf mm) (L.take (m + 1))).1 by rw [entCells_snoc, Hn.out, if_neg (by simp)])
      have Hz := hid (show (tell (Im.bitsOf mm) (L.take (m + 1))).2 = 0 by rw [Hn.out, if_neg (by simp)])
      clear Hn
      go_wp2_with fail
      refine hcall.mono ?_
      rintro e w2 ⟨rfl, hb2⟩
      have kx2 := blk3 (x1.below hb2 x1.lt)
      have o2 := own_below o1 hb2
      have b2 := hba.trans (hb2.mono hba.size)
      have l2 := b2.size
      go_wp2_with (at_builtin; refine wpList_append_own _ rfl _ _ 36 rfl w1.heap.size 41 i0 (.agg #[.int .i64 0, .int .i64 0]) 2 16 Tryz.underlying36 hi hz0 hz1 hz2 rfl (by decide) _ _ _ rfl (o2.alloc _) ⟨w2.heap.size, 0, none⟩ 1 1 [.int .i64 xn, .int .i64 fv] rfl rfl (World.news_of_block (Blk.new w2 41 #[.int .i64 xn, .int .i64 fv])) (by simp [Value.oneCell']) (by unfold maxLen; omega) (by omega) (by simp; omega) ?_; intro v5 w5 h5 gr5 _)
      have b5 := (b2.alloc b2.size (.cells #[.int .i64 xn, .int .i64 fv] 41)).trans (grown_below (o2.alloc (.cells #[.int .i64 xn, .int .i64 fv] 41)) gr5 (by simp; omega))
      go_roundw
      case rel => exact ⟨m + 1, by omega, by go_num, Hz, by rw [← Hmap.out]; exact h5, b5⟩
      case measure => simp [intOf]; omega
    · have n1 : (fe != 0) = true := by simpa using he
      have Hst := hid (show pcs (Im.bitsOf mm) L = ([], fe) by
       have e2 : tell (Im.bitsOf mm) (L.take (m + 1)) = ([], fe) := by rw [Hn.out, if_pos he]
       have e3 := tell_early hlt (by rw [e2]; exact he)
       rw [pcs, e3, e2, if_pos he])
      clear he Hn
      go_wp2_with fail
      refine hcall.mono ?_
      rintro e w2 ⟨rfl, hb2⟩
      go_wp2_with fail
      go_ret2
      rw [Hst.out]
      exact ⟨⟨_, rfl, World.ownsRow_nil _ _ _ _⟩, hB1.trans (((Below.refl _ _).alloc hB1.size _).trans (hb2.mono (by simp; have := hB1.size; omega)))⟩
  · obtain rfl : m = L.length := by omega
    rw [List.take_length] at hrow ht
    have hT := tell_ok ht.out
    have hTl := tell_len _ ht.out
    have Hp := hid (show pcs (Im.bitsOf mm) L = (join (tell (Im.bitsOf mm) L).1, 0) by rw [pcs, if_neg (by rw [ht.out]; simp)])
    have hin : ∀ x ∈ (tell (Im.bitsOf mm) L).1, -9223372036854775808 ≤ x.1 ∧ x.1 ≤ 9223372036854775807 := by
     intro x hx
     rw [hT.1] at hx
     obtain ⟨y, hy, rfl⟩ := List.mem_map.1 hx
     have := Hr.out y hy
     show -9223372036854775808 ≤ y.2.2 ∧ y.2.2 ≤ 9223372036854775807
     omega
    obtain ⟨A2, c2, rfl, _, _, _⟩ := own_slice hrow
    have hj := sp_join (tell (Im.bitsOf mm) L).1 A2 c2 (by rw [hTl]; have := Hlen.out; omega) hin wr (Cells.of_own hrow)
    rw [hTl] at hj
    have hB1 := (hB).trans (hb.mono (hB).size)
    clear hT hin ht hTl hfl
    generalize (tell (Im.bitsOf mm) L).1 = T at *
    go_wp2_with fail
    go_at_call 14
    refine hj.mono ?_
    rintro e w2 ⟨⟨v, rfl, hv⟩, hb2⟩
    go_wp2_with fail
    go_ret2
    rw [Hp.out]
    exact ⟨⟨_, rfl, own_base hv hB1.size⟩, bt hB1 hb2⟩
end Go.Proofs.YtlapjkbefkmohaaGreat

set_option linter.unusedVariables false
namespace Go.Proofs.YtlapjkbefkmohaaGreat
open Go.RowKit Go.Shelf
attribute [local go_sem] bs_mk bs_append bs_extract bs_size bs_toList bs_get
theorem rangeAt_at {w w' : World} {b o : Nat} {cs : List Value} (h : w.rangeAt b o cs) (hb : Below w.heap.size w w') : w'.rangeAt b o cs := fun j v hv => cell_below hb (h j v hv)
theorem IsMs.range {w : World} {l : List Dm} {r : Pl} (h : IsMs w l r) (h0 : 0 < l.length) : ∃ b off, r.a = some ⟨b, off, none⟩ ∧ b < w.heap.size ∧ ∀ j (hj : j < l.length), w.rangeAt b (off + j * dmN) (dmCells l[j]) := by
 rcases h.row with h1 | ⟨b, off, e, hc⟩
 · have := congrArg List.length h1; rw [dmRows_length h.bits] at this; simp at this; omega
 · have hk := dmRows_key l h.bits
   refine ⟨b, off, e, World.block_lt_of_cell? _ _ (hc _ _ (hk 0 h0 0 _ rfl)), fun j hj k v hv => ?_⟩
   rw [Nat.add_assoc, dmN]
   exact hc _ _ (hk j hj k v hv)
/-- The place of the first bitmap of this name; below 0: there is none. -/
def DmAt (l : List Dm) (nm : List UInt8) (k : Int) : Prop := (k = -1 ∧ ∀ j (hj : j < l.length), l[j].name ≠ nm) ∨ ∃ i, ∃ hi : i < l.length, k = i ∧ l[i].name = nm ∧ ∀ j (hj : j < i), l[j].name ≠ nm
theorem dirty_at {l : List Dm} {nm : List UInt8} {k : Int} (h : DmAt l nm k) {g a n : Int} (hc : ¬ (n < 1 ∨ Im.within g a n = false)) :
 (k = -1 ∧ Im.dirty l nm g a n = ([], 21)) ∨ ∃ i, ∃ hi : i < l.length, k = i ∧ Im.dirty l nm g a n = spanOf (Im.bitsOf l[i]) g a n := by
 rcases h with ⟨h1, h2⟩ | ⟨i, hi, h1, h2, h3⟩
 · refine .inl ⟨h1, ?_⟩
   have hn : l.find? (fun m => decide (m.name = nm)) = none := List.find?_eq_none.2 fun m hm => by
    obtain ⟨j, hj, rfl⟩ := List.getElem_of_mem hm
    simpa using h2 j hj
   unfold Im.dirty
   rw [if_neg hc, hn]
 · refine .inr ⟨i, hi, h1, ?_⟩
   have hn : l.find? (fun m => decide (m.name = nm)) = some l[i] := by
    rw [List.find?_eq_some_iff_append]
    refine ⟨by simpa using h2, l.take i, l.drop (i + 1), ?_, fun m hm => ?_⟩
    · rw [← List.drop_eq_getElem_cons hi, List.take_append_drop]
    · obtain ⟨j, hj, rfl⟩ := List.getElem_of_mem hm
      rw [List.length_take] at hj
      have := h3 j (by omega)
      rw [List.getElem_take]
      simpa using this
   unfold Im.dirty
   rw [if_neg hc, hn]
set_option maxRecDepth 100000 in
set_option maxHeartbeats 1000000 in
theorem sp_dirty1 (m : Dm) (h64 : m.bits.length = 64) (hm : m.name.length ≤ maxLen) (nm : List UInt8) (hnm : nm.length ≤ maxLen) (Bn : Nat) (w : World) (bn : Blk w Bn 9 #[.string (bs nm)]) :
 Calls Tryz.prog 29 #[dmval m, .pointer (some ⟨Bn, 0, none⟩)] w fun e w' => e = .returned (.bool (decide (m.name = nm))) ∧ Below w.heap.size w w' := by
 have a36 := Tryz.dm_agg
 unfold maxLen at hm hnm
 have hB := Below.refl w.heap.size w
 have bk := blk1 bn
 have x := Blk.new w 57 (dmCells m).toArray
 have xk := Tryz.dm_all m h64 x
 have hB_1 := hB.alloc hB.size (.cells (dmCells m).toArray 57)
 have bn_2 := bn.alloc (.cells (dmCells m).toArray 57)
 have bk_2 := blk1 bn_2
 obtain ⟨mn, hmn⟩ : ∃ mn, m.name = mn := ⟨_, rfl⟩
 have Hq := hid (show decide (m.name = nm) = (mn == nm) by rw [hmn, Bool.eq_iff_iff]; simp)
 have xc := (x).cell 0
 have xc2 : _ = some (Value.string (bs mn)) := xc.trans (by rw [← hmn]; rfl)
 clear xc
 go_enter Tryz.func29, Tryz.ntmps29
 by_cases hq : mn = nm
 · have q1 : (mn == nm) = true := by simpa using hq
   have Hr := hid (Hq.out.trans q1)
   go_wp2_with fail
   go_ret
   rw [Hr.out]
   exact ⟨rfl, hB_1⟩
 · have q1 : (mn == nm) = false := by simpa using hq
   have Hr := hid (Hq.out.trans q1)
   go_wp2_with fail
   go_ret
   rw [Hr.out]
   exact ⟨rfl, hB_1⟩
set_option maxRecDepth 100000 in
set_option maxHeartbeats 1000000 in
theorem sp_index (l : List Dm) (r : Pl) (nm : List UInt8) (hnm : nm.length ≤ maxLen) (Bn : Nat) (w : World) (hM : IsMs w l r) (bn : Blk w Bn 9 #[.string (bs nm)]) :
 Calls Tryz.prog 28 #[.slice r.a l.length r.c, .func (.func 29) #[] #[.pointer (some ⟨Bn, 0, none⟩)]] w fun e w' => (∃ k, e = .returned (.int .i64 k) ∧ DmAt l nm k) ∧ Below w.heap.size w w' := by
 have hll := Nat.le_trans hM.cap hM.max
 unfold maxLen at hll
 have H64 := hid hM.bits
 have Hnm := hid hM.name
 have Hc := hid (fun (h : 0 < l.length) => hM.range h)
 have hcl := fun (W : World) (hb : Below w.heap.size w W) (m : Dm) (h1 : m.bits.length = 64) (h2 : m.name.length ≤ maxLen) => sp_dirty1 m h1 h2 nm hnm Bn W (bn.below hb bn.lt)
 have a36 := Tryz.dm_agg
 have z36 := Tryz.dm_siz
 clear hM bn
 obtain ⟨A3, a3⟩ := r
 go_enter Tryz.func28, Tryz.ntmps28
 go_wp2_with fail
 go_loopw [8] (fun x W => ∃ m : Nat, m ≤ l.length ∧ x = .int .i64 m ∧ Hid (∀ j (hj : j < l.length), j < m → l[j].name ≠ nm) ∧ Below w.heap.size w W) (fun x _ => l.length - (intOf x).toNat)
 case atStart => exact ⟨0, Nat.zero_le _, rfl, hid (fun j _ h => by omega), Below.refl _ _⟩
 case round =>
  obtain ⟨m, hm, rfl, hno, hb⟩ := hrel
  by_cases hlt : m < l.length
  · obtain ⟨gb, go, ea, hgb, hcs⟩ := Hc.out (by omega)
    have ea' : A3 = some ⟨gb, go, none⟩ := ea
    subst ea'
    have h64 := H64.out _ (List.getElem_mem hlt)
    have hcl2 := hcl wr hb l[m] h64 (Hnm.out _ (List.getElem_mem hlt))
    have k1 := Tryz.dm_load l[m] h64 (rangeAt_at (hcs m hlt) hb)
    obtain ⟨e, he⟩ : ∃ e, l[m] = e := ⟨_, rfl⟩
    have Hyes := hid (fun (h : e.name = nm) => show DmAt l nm (m : Int) from .inr ⟨m, hlt, rfl, by rw [he]; exact h, fun j hj => hno.out j (by omega) hj⟩)
    have Hno := hid (fun (h : e.name ≠ nm) (j : Nat) (hj : j < l.length) (hj2 : j < m + 1) => show l[j].name ≠ nm by
     rcases Nat.lt_or_eq_of_le (Nat.le_of_lt_succ hj2) with h9 | h9
     · exact hno.out j hj h9
     · subst h9; rw [he]; exact h)
    rw [he] at hcl2 k1
    clear he h64 hcs hcl hno
    by_cases hq : e.name = nm
    · rw [decide_eq_true hq] at hcl2
      have Hy := hid (Hyes.out hq)
      clear Hyes Hno hq
      go_wp2_with fail
      refine hcl2.mono ?_
      rintro e w2 ⟨rfl, hb2⟩
      go_wp2_with fail
      go_ret
      exact ⟨⟨_, rfl, Hy.out⟩, bt hb hb2⟩
    · rw [decide_eq_false hq] at hcl2
      have Hy := hid (Hno.out hq)
      clear Hyes Hno hq
      go_wp2_with fail
      refine hcl2.mono ?_
      rintro e w2 ⟨rfl, hb2⟩
      go_wp2_with fail
      go_roundw
      case rel => exact ⟨m + 1, by omega, by go_num, Hy, bt hb hb2⟩
      case measure => simp [intOf]; omega
  · obtain rfl : m = l.length := by omega
    have Hy := hid (show DmAt l nm (-1) from .inl ⟨rfl, fun j hj => hno.out j hj hj⟩)
    clear hno
    go_wp2_with fail
    go_ret
    exact ⟨⟨_, rfl, Hy.out⟩, hb⟩
set_option maxRecDepth 100000 in
set_option maxHeartbeats 1000000 in
theorem sp_dirty (x : Im) (p q r : Pl) (w : World) (hX : IsIm w x p q r) (hg : 0 < x.g ∧ x.g ≤ 64) (nm : List UInt8) (hnm : nm.length ≤ maxLen) (a n : Int) (ha : -9223372036854775808 ≤ a ∧ a ≤ 9223372036854775807) (hn : -9223372036854775808 ≤ n ∧ n ≤ 9223372036854775807) :
 Calls Tryz.prog 11 #[imval x p q r, .string (bs nm), .int .i64 a, .int .i64 n] w fun e w' => RetXt w.heap.size 41 (Im.dirty x.maps nm x.g a n) e w' ∧ Below w.heap.size w w' := by
 have hou := fun (W : World) => sp_out x.g x.h hg a n ha hn W
 have hix := fun (W : World) (hb : Below w.heap.size w W) (Bn : Nat) (bn : Blk W Bn 9 #[.string (bs nm)]) => sp_index x.maps r nm hnm Bn W (hX.m.below hb) bn
 have hll := Nat.le_trans hX.m.cap hX.m.max
 unfold maxLen at hll
 have H64 := hid hX.m.bits
 have Hc := hid (fun (h : 0 < x.maps.length) => hX.m.range h)
 have Hd := hid (show Im.dirty x.maps nm x.g a n = if n < 1 ∨ Im.within x.g a n = false then ([], 10) else match x.maps.find? (fun m => decide (m.name = nm)) with | .none => ([], 21) | some m => spanOf (Im.bitsOf m) x.g a n from rfl)
 have Hat := hid (fun (k : Int) (h : DmAt x.maps nm k) (hc : ¬ (n < 1 ∨ Im.within x.g a n = false)) => dirty_at h hc)
 have Hin := hid (fun (hc : ¬ (n < 1 ∨ Im.within x.g a n = false)) (p : Cut) (hp : p ∈ Im.cuts a n) => show 0 ≤ p.1 ∧ p.1 < 64 by
  have hw : Im.within x.g a n = true := by
   cases hw : Im.within x.g a n with
   | true => rfl
   | false => exact absurd (.inr hw) hc
  obtain ⟨w1, w2, w3, w4⟩ := within_iff.1 hw
  have := (cuts_tiles (a := a) (n := n) (by omega)).mem w1 p hp
  omega)
 have a36 := Tryz.dm_agg
 have z36 := Tryz.dm_siz
 have b36 := Tryz.bt_agg
 have y36 := Tryz.bt_siz
 clear hX
 obtain ⟨D, g, h, ⟨seq, pos⟩, maps, br⟩ := x
 simp only at hou hix hll H64 Hc Hd Hat Hin
 clear hg
 obtain ⟨A1, a1⟩ := p
 obtain ⟨A2, a2⟩ := q
 obtain ⟨A3, a3⟩ := r
 have hB := Below.refl w.heap.size w
 have x := Blk.new w 33 #[.string (bs D.data), .slice A1 D.cache.length a1, .int .i64 D.fuse, .bool D.off, .slice A2 D.bad.length a2, .int .i64 g, .int .i64 h, .int .u64 seq, .int .i64 pos, .slice A3 maps.length a3, .bool br]
 have xk := blk11 x
 have hB_1 := hB.alloc hB.size (.cells #[.string (bs D.data), .slice A1 D.cache.length a1, .int .i64 D.fuse, .bool D.off, .slice A2 D.bad.length a2, .int .i64 g, .int .i64 h, .int .u64 seq, .int .i64 pos, .slice A3 maps.length a3, .bool br] 33)
 have y := Blk.new (w.alloc (.cells #[.string (bs D.data), .slice A1 D.cache.length a1, .int .i64 D.fuse, .bool D.off, .slice A2 D.bad.length a2, .int .i64 g, .int .i64 h, .int .u64 seq, .int .i64 pos, .slice A3 maps.length a3, .bool br] 33)) 9 #[.string (bs nm)]
 simp only [World.size_alloc] at y
 have yk := blk1 y
 have hB_2 := hB_1.alloc hB_1.size (.cells #[.string (bs nm)] 9)
 have x_3 := x.alloc (.cells #[.string (bs nm)] 9)
 have xk_3 := blk11 x_3
 go_enter Tryz.func11, Tryz.ntmps11
 go_wp2_with fail
 go_at_call 28
 refine (hix _ hB_2 _ y).mono ?_
 rintro e w1 ⟨⟨k, rfl, hk⟩, hb1⟩
 have hB1 := bt hB_2 hb1
 have x1 := (x_3).below hb1 (x_3).lt
 have xk1 := blk11 x1
 by_cases hc : n < 1 ∨ Im.within g a n = false
 · have Hr := hid (show Im.dirty maps nm g a n = ([], 10) by rw [Hd.out, if_pos hc])
   have hd : decide (n < 1 ∨ Im.within g a n = false) = true := decide_eq_true hc
   rw [hd] at hou
   clear hd hc Hd Hat Hin
   go_wp2_with fail
   go_at_call 21
   refine (hou _).mono ?_
   rintro e w2 ⟨rfl, hb2⟩
   go_wp2_with fail
   go_ret2
   rw [Hr.out]
   exact ⟨⟨_, rfl, World.ownsRow_nil _ _ _ _⟩, bt hB1 hb2⟩
 · have hd : decide (n < 1 ∨ Im.within g a n = false) = false := decide_eq_false hc
   rw [hd] at hou
   have Hin2 := hid (Hin.out hc)
   rcases Hat.out k hk hc with ⟨rfl, hr⟩ | ⟨i, hi, rfl, hr⟩
   · have Hr := hid hr
     clear hr hd hc Hd Hat Hin hk
     go_wp2_with fail
     go_at_call 21
     refine (hou _).mono ?_
     rintro e w2 ⟨rfl, hb2⟩
     go_wp2_with fail
     go_ret2
     rw [Hr.out]
     exact ⟨⟨_, rfl, World.ownsRow_nil _ _ _ _⟩, bt hB1 hb2⟩
   · have h64 := H64.out _ (List.getElem_mem hi)
     obtain ⟨gb, go, ea, hgb, hcs⟩ := Hc.out (by omega)
     have ea' : A3 = some ⟨gb, go, none⟩ := ea
     subst ea'
     have Hr := hid (hr.trans (spanOf_pcs _ hc))
     have hrg := hcs i hi
     obtain ⟨e, he⟩ : ∃ e, maps[i] = e := ⟨_, rfl⟩
     rw [he] at Hr h64 hrg
     clear hr hd hc Hd Hat Hin hk he hcs
     have hpi := fun (W : World) => sp_pieces_b e h64 W a n Hin2.out
     have Hk := hid (fun (W : World) (hb : Below w1.heap.size w1 W) => Tryz.dm_load e h64 (rangeAt_at hrg (bt hB1 hb)))
     generalize pcs (Im.bitsOf e) (Im.cuts a n) = X at *
     have i0 : ¬ (i : Int) < 0 := by omega
     go_wp2_with fail
     go_at_call 21
     refine (hou _).mono ?_
     rintro e2 w2 ⟨rfl, hb2⟩
     have k1 := Hk.out w2 hb2
     have x2 := x1.below hb2 x1.lt
     have xk2 := blk11 x2
     go_wp2_with (refine wpList_run rfl (dmval e) (Tryz.bt_run _ rfl e h64 rfl _) ?_)
     go_at_call 22
     refine (hpi _).mono ?_
     rintro e3 w3 ⟨⟨v, rfl, hv⟩, hb3⟩
     have hB2 := bt hB1 hb2
     go_wp2_with fail
     go_ret2
     rw [Hr.out]
     exact ⟨⟨_, rfl, own_base hv hB2.size⟩, bt hB2 hb3⟩
end Go.Proofs.YtlapjkbefkmohaaGreat

set_option linter.unusedVariables false
namespace Go.Proofs.YtlapjkbefkmohaaGreat
open Go.RowKit Go.Shelf
attribute [local go_sem] bs_mk bs_append bs_extract bs_size bs_toList bs_get
set_option maxRecDepth 100000 in
set_option maxHeartbeats 2000000 in
theorem r15_dirty (x : Im) (p q r : Pl) (w : World) (hX : IsIm w x p q r) (hg : 0 < x.g ∧ x.g ≤ 64) (nm : List UInt8) (hnm : nm.length ≤ maxLen) (a n : Int) (ha : -9223372036854775808 ≤ a ∧ a ≤ 9223372036854775807) (hn : -9223372036854775808 ≤ n ∧ n ≤ 9223372036854775807) :
 Calls Tryz.prog 12 #[imval x p q r, .string (bs nm), .int .i64 a, .int .i64 n] w fun e w' => RetXt w.heap.size 41 (Im.dirty x.maps nm x.g a n) e w' ∧ Below w.heap.size w w' := by
 obtain ⟨i0, hi, hz0, hz1, hz2⟩ := info_parts Tryz.infoXt
 have hwi := fun (W : World) => r14_within x.g x.h hg a n ha hn W
 have hcut := fun (W : World) => r14_cut a n W
 have hll := Nat.le_trans hX.m.cap hX.m.max
 unfold maxLen at hll hnm
 have Hm := hid hX.m
 have Hd := hid (show Im.dirty x.maps nm x.g a n = if n < 1 ∨ Im.within x.g a n = false then ([], 10) else match x.maps.find? (fun m => decide (m.name = nm)) with | .none => ([], 21) | some m => spanOf (Im.bitsOf m) x.g a n from rfl)
 have Hat := hid (fun (k : Int) (h : DmAt x.maps nm k) (hc : ¬ (n < 1 ∨ Im.within x.g a n = false)) => dirty_at h hc)
 have Hpc := hid (fun (f : Int → Int × Int) (hc : ¬ (n < 1 ∨ Im.within x.g a n = false)) => spanOf_pcs f hc)
 have Hin := hid (fun (hc : ¬ (n < 1 ∨ Im.within x.g a n = false)) (p : Cut) (hp : p ∈ Im.cuts a n) => show (0 ≤ p.1 ∧ p.1 < 64) ∧ 1 ≤ p.2.2 ∧ p.2.2 ≤ 128 by
  have hw : Im.within x.g a n = true := by
   cases hw : Im.within x.g a n with
   | true => rfl
   | false => exact absurd (.inr hw) hc
  obtain ⟨w1, w2, w3, w4⟩ := within_iff.1 hw
  have := (cuts_tiles (a := a) (n := n) (by omega)).mem w1 p hp
  omega)
 clear hX
 obtain ⟨D, g, h, ⟨seq, pos⟩, maps, br⟩ := x
 simp only at hwi hll Hm Hd Hat Hin Hpc
 clear hg
 obtain ⟨A1, a1⟩ := p
 obtain ⟨A2, a2⟩ := q
 obtain ⟨A3, a3⟩ := r
 have hB := Below.refl w.heap.size w
 have x := Blk.new w 33 #[.string (bs D.data), .slice A1 D.cache.length a1, .int .i64 D.fuse, .bool D.off, .slice A2 D.bad.length a2, .int .i64 g, .int .i64 h, .int .u64 seq, .int .i64 pos, .slice A3 maps.length a3, .bool br]
 have xk := blk11 x
 have hB_1 := hB.alloc hB.size (.cells #[.string (bs D.data), .slice A1 D.cache.length a1, .int .i64 D.fuse, .bool D.off, .slice A2 D.bad.length a2, .int .i64 g, .int .i64 h, .int .u64 seq, .int .i64 pos, .slice A3 maps.length a3, .bool br] 33)
 by_cases c1 : n < 1
 · have Hr := hid (show Im.dirty maps nm g a n = ([], 10) by rw [Hd.out, if_pos (.inl c1)])
   clear hwi hcut
   go_enter Tryz.func12, Tryz.ntmps12
   go_wp2_with fail
   go_ret2
   rw [Hr.out]
   exact ⟨⟨_, rfl, World.ownsRow_nil _ _ _ _⟩, hB_1⟩
 cases c2 : Im.within g a n with
 | false =>
  have Hr := hid (show Im.dirty maps nm g a n = ([], 10) by rw [Hd.out, if_pos (.inr c2)])
  rw [c2] at hwi
  clear hcut
  go_enter Tryz.func12, Tryz.ntmps12
  go_wp2_with fail
  go_at_call 25
  refine ((hwi _)).mono ?_
  rintro e w1 ⟨rfl, hb1⟩
  replace hB := bt hB_1 hb1
  replace x := x.below hb1 x.lt
  replace xk := blk11 x
  clear hB_1
  go_wp2_with fail
  go_ret2
  rw [Hr.out]
  exact ⟨⟨_, rfl, World.ownsRow_nil _ _ _ _⟩, hB⟩
 | true =>
 rw [c2] at hwi
 have hc0 : ¬ (n < 1 ∨ Im.within g a n = false) := by rw [c2]; simp [c1]
 have Hat2 := hid (fun k h => Hat.out k h hc0)
 have Hpc2 := hid (fun f => Hpc.out f hc0)
 have Hrg := hid (Hin.out hc0)
 have Hlen := hid (cuts_length a n)
 clear Hd Hat Hpc Hin hc0 c2
 generalize hL : Im.cuts a n = L at *
 clear hL
 generalize hRR : Im.dirty maps nm g a n = RR at *
 clear hRR
 go_enter Tryz.func12, Tryz.ntmps12
 go_wp2_with fail
 go_at_call 25
 refine ((hwi _)).mono ?_
 rintro e w1 ⟨rfl, hb1⟩
 replace hB := bt hB_1 hb1
 replace x := x.below hb1 x.lt
 replace xk := blk11 x
 clear hB_1
 have xw := x
 have hBw := hB
 have Hc := hid (fun (h : 0 < maps.length) => (Hm.out).cells h)
 have H64 := hid (Hm.out).bits
 have Hnm := hid (Hm.out).name
 clear hwi
 go_wp2_with fail
 go_loopw [10] (fun x W => ∃ m : Nat, m ≤ maps.length ∧ x = .int .i64 m ∧ Hid (∀ j (hj : j < maps.length), j < m → maps[j].name ≠ nm) ∧ Below w1.heap.size w1 W) (fun x _ => maps.length - (intOf x).toNat)
 case atStart => exact ⟨0, Nat.zero_le _, rfl, hid (fun j _ h => by omega), Below.refl _ _⟩
 case round =>
  obtain ⟨m, hm, rfl, hno, hb⟩ := hrel
  have hbw := hBw.trans (hb.mono hBw.size)
  have xr := xw.below hb xw.lt
  have xkr := blk11 xr
  by_cases hlt : m < maps.length
  · obtain ⟨gb, go, ea, hgb, hcs⟩ := Hc.out (by omega)
    have ea' : A3 = some ⟨gb, go, none⟩ := ea
    subst ea'
    obtain ⟨k1, k2, k3⟩ := hcs m hlt
    have h64 := H64.out _ (List.getElem_mem hlt)
    have hnl := Hnm.out _ (List.getElem_mem hlt)
    have Hyes := hid (fun (h : maps[m].name = nm) => show DmAt maps nm (m : Int) from .inr ⟨m, hlt, rfl, h, fun j hj => hno.out j (by omega) hj⟩)
    have Hno := hid (fun (h : maps[m].name ≠ nm) (j : Nat) (hj : j < maps.length) (hj2 : j < m + 1) => show maps[j].name ≠ nm by
     rcases Nat.lt_or_eq_of_le (Nat.le_of_lt_succ hj2) with h9 | h9
     · exact hno.out j hj h9
     · subst h9; exact h)
    have Hat3 := hid (fun (h : maps[m].name = nm) => show RR = pcs (Im.bitsOf maps[m]) L by
     rcases Hat2.out _ (Hyes.out h) with ⟨h1, _⟩ | ⟨i, hi9, h1, h2⟩
     · omega
     · obtain rfl : i = m := by omega
       rw [h2, Hpc2.out])
    obtain ⟨mm, hmm⟩ : ∃ mm, maps[m] = mm := ⟨_, rfl⟩
    rw [hmm] at h64 hnl Hyes Hno Hat3
    simp only [hmm] at k1 k3
    have k1 := cell_below hbw k1
    have K3 := hid (fun (k : Nat) (hk : k < mm.bits.length) => k3 k hk)
    clear k2 k3 hcs hno
    obtain ⟨nn, hnn⟩ : ∃ nn, mm.name = nn := ⟨_, rfl⟩
    rw [hnn] at k1 hnl Hyes Hno Hat3
    unfold maxLen at hnl
    by_cases hq : nn = nm
    rotate_left
    · have q1 : (nn == nm) = false := by simpa using hq
      have Hy := hid (Hno.out hq)
      clear Hyes Hno hq Hat3
      go_wp2_with fail
      go_roundw
      case rel => exact ⟨m + 1, by omega, by go_num, Hy, hb⟩
      case measure => simp [intOf]; omega
    · have q1 : (nn == nm) = true := by simpa using hq
      have HR := hid (Hat3.out hq)
      clear Hyes Hno Hat3
      replace hq := hid hq
      go_wp2_with fail
      go_at_call 26
      refine (hcut _).mono ?_
      rintro e w3 ⟨⟨v, rfl, hv⟩, hb3⟩
      obtain ⟨A4, c4, rfl, _, _, _⟩ := own_slice hv
      have HC := hid (fun (W : World) (hb : Below w3.heap.size w3 W) => (Cells.of_own hv).below hb)
      have x3 := xr.below hb3 xr.lt
      have hbw3 := bt hbw hb3
      have Hbit := hid (fun (W : World) (hW : Below w3.heap.size w3 W) (k : Nat) (hk : k < mm.bits.length) => cell_below (bt hbw3 hW) (K3.out k hk))
      clear hv k1 K3 xkr q1
      go_wp2_with fail
      go_loopw [11, 13] (fun l x W => ∃ i : Nat, i ≤ L.length ∧ x = .int .i64 i ∧ Hid ((tell (Im.bitsOf mm) (L.take i)).2 = 0) ∧ W.ownsRow w3.heap.size 41 2 l i (entCells (tell (Im.bitsOf mm) (L.take i)).1) ∧ Below w3.heap.size w3 W) (fun _ x _ => L.length - (intOf x).toNat)
      case atStart => exact ⟨0, Nat.zero_le _, rfl, hid rfl, World.ownsRow_nil _ _ _ _, Below.refl _ _⟩
      case round =>
       obtain ⟨i, hi9, rfl, ht, hrow, hb4⟩ := hrel
       have xr4 := x3.below hb4 x3.lt
       have xk4 := blk11 xr4
       by_cases hlt2 : i < L.length
       · obtain ⟨gA, oA, e1, hc⟩ := (HC.out _ hb4).cut hlt2
         replace hc := hc i hlt2
         have Hn := hid (tell_next hlt2 ht.out)
         have hr := (Hrg.out _ (List.getElem_mem hlt2)).1
         obtain ⟨⟨xk, xo, xn⟩, hx⟩ : ∃ x, L[i] = x := ⟨_, rfl⟩
         rw [hx] at hc Hn hr
         simp only at hc hr
         clear hx
         obtain ⟨kk, rfl⟩ := Int.eq_ofNat_of_zero_le hr.1
         have hkk : kk < 64 := by omega
         have Hb9 := hid (bitsOf_at mm h64 kk hkk)
         have kb := Hbit.out _ hb4 kk (by omega)
         obtain ⟨bv, hbv⟩ : ∃ bv, mm.bits[kk]'(by omega) = bv := ⟨_, rfl⟩
         rw [hbv] at kb Hb9
         rw [← Nat.add_assoc] at kb
         clear hbv
         subst e1
         have hll4 := Hlen.out
         have hb4s := hb4.size
         have Hstep := hid (fun (fv : Int) (hf : Im.bitsOf mm (kk : Int) = (fv, 0)) => show tell (Im.bitsOf mm) (L.take (i + 1)) = ((tell (Im.bitsOf mm) (L.take i)).1 ++ [(xn, fv)], 0) by rw [Hn.out, hf]; simp)
         clear Hn
         cases bv with
         | true =>
          have Hs := hid (Hstep.out 1 (by rw [Hb9.out]; rfl))
          have Hz := hid (show (tell (Im.bitsOf mm) (L.take (i + 1))).2 = 0 by rw [Hs.out])
          have Hmap := hid (show entCells (tell (Im.bitsOf mm) (L.take i)).1 ++ [Value.int .i64 xn, Value.int .i64 1] = entCells (tell (Im.bitsOf mm) (L.take (i + 1))).1 by rw [entCells_snoc, Hs.out])
          clear Hstep Hb9
          go_wp2_with fail
          go_quiet (fail)
          have hV := below_drewN (Below.refl wr.heap.size wr) nq
          generalize wr.drewN nq = V at *
          have rV := own_below hrow hV
          have kV := cell_below hV hc.2.2
          have bV := hb4.trans (hV.mono hb4s)
          have bVs := bV.size
          go_wp2_with (at_builtin; refine wpList_append_own _ rfl _ _ 36 rfl w3.heap.size 41 i0 (.agg #[.int .i64 0, .int .i64 0]) 2 16 Tryz.underlying36 hi hz0 hz1 hz2 rfl (by decide) _ _ _ rfl (rV.alloc _) ⟨V.heap.size, 0, none⟩ 1 1 [.int .i64 xn, .int .i64 1] rfl rfl (World.news_of_block (Blk.new V 41 #[.int .i64 xn, .int .i64 1])) (by simp [Value.oneCell']) (by unfold maxLen; omega) (by omega) (by simp; omega) ?_; intro v5 w5 h5 gr5 _)
          have b5 := (bV.alloc bV.size (.cells #[.int .i64 xn, .int .i64 1] 41)).trans (grown_below (rV.alloc (.cells #[.int .i64 xn, .int .i64 1] 41)) gr5 (by simp; omega))
          go_roundw
          case rel => exact ⟨i + 1, by omega, by go_num, Hz, by rw [← Hmap.out]; exact h5, b5⟩
          case measure => simp [intOf]; omega
         | false =>
          have Hs := hid (Hstep.out 0 (by rw [Hb9.out]; rfl))
          have Hz := hid (show (tell (Im.bitsOf mm) (L.take (i + 1))).2 = 0 by rw [Hs.out])
          have Hmap := hid (show entCells (tell (Im.bitsOf mm) (L.take i)).1 ++ [Value.int .i64 xn, Value.int .i64 0] = entCells (tell (Im.bitsOf mm) (L.take (i + 1))).1 by rw [entCells_snoc, Hs.out])
          clear Hstep Hb9
          go_wp2_with fail
          go_quiet (fail)
          have hV := below_drewN (Below.refl wr.heap.size wr) nq
          generalize wr.drewN nq = V at *
          have rV := own_below hrow hV
          have kV := cell_below hV hc.2.2
          have bV := hb4.trans (hV.mono hb4s)
          have bVs := bV.size
          go_wp2_with (at_builtin; refine wpList_append_own _ rfl _ _ 36 rfl w3.heap.size 41 i0 (.agg #[.int .i64 0, .int .i64 0]) 2 16 Tryz.underlying36 hi hz0 hz1 hz2 rfl (by decide) _ _ _ rfl (rV.alloc _) ⟨V.heap.size, 0, none⟩ 1 1 [.int .i64 xn, .int .i64 0] rfl rfl (World.news_of_block (Blk.new V 41 #[.int .i64 xn, .int .i64 0])) (by simp [Value.oneCell']) (by unfold maxLen; omega) (by omega) (by simp; omega) ?_; intro v5 w5 h5 gr5 _)
          have b5 := (bV.alloc bV.size (.cells #[.int .i64 xn, .int .i64 0] 41)).trans (grown_below (rV.alloc (.cells #[.int .i64 xn, .int .i64 0] 41)) gr5 (by simp; omega))
          go_roundw
          case rel => exact ⟨i + 1, by omega, by go_num, Hz, by rw [← Hmap.out]; exact h5, b5⟩
          case measure => simp [intOf]; omega
       · obtain rfl : i = L.length := by omega
         rw [List.take_length] at hrow ht
         have hT := tell_ok ht.out
         have hTl := tell_len _ ht.out
         have Hp := hid (show pcs (Im.bitsOf mm) L = (join (tell (Im.bitsOf mm) L).1, 0) by rw [pcs, if_neg (by rw [ht.out]; simp)])
         have hin : ∀ x ∈ (tell (Im.bitsOf mm) L).1, -9223372036854775808 ≤ x.1 ∧ x.1 ≤ 9223372036854775807 := by
          intro x hx
          rw [hT.1] at hx
          obtain ⟨y, hy, rfl⟩ := List.mem_map.1 hx
          have := (Hrg.out y hy).2
          show -9223372036854775808 ≤ y.2.2 ∧ y.2.2 ≤ 9223372036854775807
          omega
         obtain ⟨A5, c5, rfl, _, _, _⟩ := own_slice hrow
         have hj := r15_join (tell (Im.bitsOf mm) L).1 A5 c5 (by rw [hTl]; have := Hlen.out; omega) hin wr (Cells.of_own hrow)
         rw [hTl] at hj
         have hbw4 := bt hbw3 hb4
         clear hT hin ht hTl
         generalize (tell (Im.bitsOf mm) L).1 = T at *
         go_wp2_with fail
         go_at_call 15
         refine hj.mono ?_
         rintro e w5 ⟨⟨v, rfl, hv⟩, hb5⟩
         go_wp2_with fail
         go_ret2
         rw [HR.out, Hp.out]
         exact ⟨⟨_, rfl, own_base hv hbw4.size⟩, bt hbw4 hb5⟩
  · obtain rfl : m = maps.length := by omega
    have HR := hid (show RR = ([], 21) by
     rcases Hat2.out (-1) (.inl ⟨rfl, fun j hj => hno.out j hj hj⟩) with ⟨_, h2⟩ | ⟨i, hi9, h1, _⟩
     · exact h2
     · omega)
    clear hno
    go_wp2_with fail
    go_ret2
    rw [HR.out]
    exact ⟨⟨_, rfl, World.ownsRow_nil _ _ _ _⟩, hbw⟩
end Go.Proofs.YtlapjkbefkmohaaGreat

set_option linter.unusedVariables false
namespace Go.Proofs.YtlapjkbefkmohaaGreat
open Go.RowKit Go.WideShapes Go.ChangeShapes Go.Deep Go.Joins
section
variable {H : Type} {enc : TypeId × Value → H} {P : Program} {w : World} {base : Nat} {spare : Nat → Bool} {held : Bool}
theorem entCells_at (l : List (Int × Int)) (j : Nat) (u : Value) (h : (entCells l)[j]? = some u) : ∃ i, ∃ hi : i < l.length, (j = i * 2 ∧ u = .int .i64 l[i].1) ∨ (j = i * 2 + 1 ∧ u = .int .i64 l[i].2) := by
 have hj := (List.getElem?_eq_some_iff.1 h).1
 rw [entCells_length] at hj
 have hi : j / 2 < l.length := by omega
 refine ⟨j / 2, hi, ?_⟩
 obtain ⟨h1, h2⟩ := entCells_get l (j / 2) hi
 rcases Nat.mod_two_eq_zero_or_one j with h0 | h0
 · left
   have e : j = j / 2 * 2 := by omega
   rw [← e, h] at h1
   exact ⟨e, Option.some.inj h1⟩
 · right
   have e : j = j / 2 * 2 + 1 := by omega
   rw [← e, h] at h2
   exact ⟨e, Option.some.inj h2⟩
theorem open_xts {t e : TypeId} {fuel : Nat} {v : Value} {x : DataW H × List MemPlace} {fs : Array Field} (ht : P.underlying t = some (.slice e)) (he : P.underlying e = some (.struct fs))
 (hone : oneCellFields P fs = true) (hC : P.cellsOf e = 2) {f0 f1 : Field} (hfs : fs = #[f0, f1]) (h0 : P.underlying f0.type = some (.int .i64)) (h1 : P.underlying f1.type = some (.int .i64)) (h : DataW.trod enc P w base spare held fuel t [v] = some x) :
 ∃ (A : Option Addr) (c : Nat) (l : List (Int × Int)), v = .slice A l.length c ∧ Cells w A (entCells l) ∧ (A = none → c = 0) ∧ l.length ≤ c ∧ c ≤ maxLen ∧ ∀ x ∈ l, okInt x.1 ∧ okInt x.2 := by
 subst hfs
 rcases open_slice_fields ht he hone hC h with ⟨h0, _⟩ | ⟨a, len, cap, m, D, Pl, hcs, _, hl, hm, hmm, _, hi⟩
 · injection h0 with h0
   exact ⟨none, 0, [], h0, .inl rfl, fun _ => rfl, Nat.le_refl _, Nat.zero_le _, fun x hx => by cases hx⟩
 · injection hcs with hcs
   have hlm : len ≤ m := by rw [hmm]; split <;> omega
   obtain ⟨l, hl', hR⟩ := list_of (α := Int × Int) (n := len) (R := fun i x => w.cell? (a.add (i * 2)) = some (.int .i64 x.1) ∧ w.cell? (a.add (i * 2 + 1)) = some (.int .i64 x.2) ∧ okInt x.1 ∧ okInt x.2) fun i h => by
    obtain ⟨ys, n, _, _, _, hf⟩ := hi i (by omega)
    obtain ⟨v0, y0, c0, _, t0⟩ := hf 0 f0 rfl
    obtain ⟨v1, y1, c1, _, t1⟩ := hf 1 f1 rfl
    obtain ⟨k, hk, _, hw⟩ := DataW.trod_int h0 t0
    obtain ⟨s, hs, _, hw'⟩ := DataW.trod_int h1 t1
    injection hk with hk
    injection hs with hs
    subst hk; subst hs
    exact ⟨(k, s), c0, c1, okInt_of hw, okInt_of hw'⟩
   subst hl'
   refine ⟨some a, cap, l, hcs, cells_some fun j u hu => ?_, (by intro h; cases h), hl, hm, fun x hx => ?_⟩
   · obtain ⟨i, hi, ⟨rfl, rfl⟩ | ⟨rfl, rfl⟩⟩ := entCells_at l j u hu
     · exact (hR i hi).1
     · exact (hR i hi).2.1
   · obtain ⟨j, hj, rfl⟩ := List.getElem_of_mem hx
     exact (hR j hj).2.2
end
end Go.Proofs.YtlapjkbefkmohaaGreat
