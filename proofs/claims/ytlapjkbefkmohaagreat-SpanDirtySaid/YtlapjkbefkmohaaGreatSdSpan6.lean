/- Package span: what dirty bitmaps tell of ranges. -/
import Derived.Test.YtlapjkbefkmohaaGreatSdSpan5
import Derived.Test.YtlapjkbefkmohaaGreatSdGood15
set_option linter.unusedVariables false
namespace Go.Proofs.YtlapjkbefkmohaaGreat
open Go.RowKit Go.Shelf
attribute [local go_sem] bs_mk bs_append bs_extract bs_size bs_toList bs_get
theorem Tryz.bt_agg (W : World) : (isAgg 85).run Tryz.prog W = .ok true W := by
 unfold isAgg
 rw [Sem.run_bind, run_underlying Tryz.underlying85 W]
 rfl
theorem Tryz.bt_size : (Tryz.prog.info? 85).map (·.size) = some 66 := by kernel_rfl
theorem Tryz.bt_siz (W : World) : (sizeOf 85).run Tryz.prog W = .ok dmN W := by
 unfold dmN
 obtain ⟨i, hi, h⟩ := Option.map_eq_some_iff.1 Tryz.bt_size
 simp [sizeOf, typeInfo, hi, h]
set_option maxRecDepth 100000 in
theorem Tryz.bt_build (m : Dm) (h : m.bits.length = 64) (w : World) : (Instr.build 85 #[(0, dmval m)]).run Tryz.prog w = .ok (dmval m) w := by
 obtain ⟨nm, u, l⟩ := m
 have h : l.length = 64 := h
 match l, h with
 | b0 :: b1 :: b2 :: b3 :: b4 :: b5 :: b6 :: b7 :: b8 :: b9 :: b10 :: b11 :: b12 :: b13 :: b14 :: b15 :: b16 :: b17 :: b18 :: b19 :: b20 :: b21 :: b22 :: b23 :: b24 :: b25 :: b26 :: b27 :: b28 :: b29 :: b30 :: b31 :: b32 :: b33 :: b34 :: b35 :: b36 :: b37 :: b38 :: b39 :: b40 :: b41 :: b42 :: b43 :: b44 :: b45 :: b46 :: b47 :: b48 :: b49 :: b50 :: b51 :: b52 :: b53 :: b54 :: b55 :: b56 :: b57 :: b58 :: b59 :: b60 :: b61 :: b62 :: b63 :: [], _ => show _ = _; kernel_rfl
theorem Tryz.bt_run {ρ : Operand → Value} {o : Oper} (x : Operand) (ho : o.op = .build 85 #[(0, x)]) (m : Dm) (h : m.bits.length = 64) (hx : ρ x = dmval m) (w : World) : (execOp ρ o).run Tryz.prog w = .ok (.value (dmval m)) w := by
 have h0 : (#[(0, x)] : Array (Nat × Operand)).map (fun p => (p.1, ρ p.2)) = #[(0, dmval m)] := by simp [hx]
 unfold execOp
 simp only [ho, h0, Sem.run_bind, Tryz.bt_build m h, Result.andThen_ok, Sem.run_pure]
theorem bitsOf_at (m : Dm) (h64 : m.bits.length = 64) (k : Nat) (hk : k < 64) : Im.bitsOf m (k : Int) = (if m.bits[k]'(by omega) = true then 1 else 0, 0) := by
 unfold Im.bitsOf
 rw [Int.toNat_natCast, List.getD, List.getElem?_eq_getElem (by omega)]
 rfl
set_option maxRecDepth 100000 in
set_option maxHeartbeats 1000000 in
theorem b_flags (m : Dm) (h64 : m.bits.length = 64) (g : Int) (hg : 0 ≤ g ∧ g < 64) (w : World) :
 Calls Tryz.prog 134 #[dmval m, .int .i64 g] w fun e w' => e = .returned (.tuple #[.int .i64 (Im.bitsOf m g).1, .int .i64 (Im.bitsOf m g).2]) ∧ Below w.heap.size w w' := by
 obtain ⟨k, rfl⟩ := Int.eq_ofNat_of_zero_le hg.1
 have hk : k < 64 := by omega
 have Hb := hid (bitsOf_at m h64 k hk)
 have hB := (Below.refl w.heap.size w).alloc (Nat.le_refl _) (.cells (dmCells m).toArray 85)
 have x0 := Blk.new w 85 (dmCells m).toArray
 have kb := x0.bit k (by omega)
 have a36 := Tryz.bt_agg
 obtain ⟨bv, hbv⟩ : ∃ bv, m.bits[k]'(by omega) = bv := ⟨_, rfl⟩
 rw [hbv] at kb Hb
 clear hbv
 cases bv with
 | true =>
  have Hr := hid (show Im.bitsOf m (k : Int) = (1, 0) by rw [Hb.out]; rfl)
  clear Hb
  go_enter Tryz.func134, Tryz.ntmps134
  go_wp2_with fail
  go_ret2
  rw [Hr.out]
  exact ⟨rfl, hB⟩
 | false =>
  have Hr := hid (show Im.bitsOf m (k : Int) = (0, 0) by rw [Hb.out]; rfl)
  clear Hb
  go_enter Tryz.func134, Tryz.ntmps134
  go_wp2_with fail
  go_ret2
  rw [Hr.out]
  exact ⟨rfl, hB⟩
set_option maxRecDepth 100000 in
set_option maxHeartbeats 1000000 in
theorem sp_pieces_b (mm : Dm) (h64 : mm.bits.length = 64) (w : World) (a n : Int) (hin : ∀ p ∈ Im.cuts a n, 0 ≤ p.1 ∧ p.1 < 64) :
 Calls Tryz.prog 22 #[.int .i64 a, .int .i64 n, .iface 85 (dmval mm)] w fun e w' =>
  (∃ v, e = .returned (.tuple #[v, .int .i64 (pcs (Im.bitsOf mm) (Im.cuts a n)).2]) ∧ w'.ownsRow w.heap.size 41 2 v (pcs (Im.bitsOf mm) (Im.cuts a n)).1.length (entCells (pcs (Im.bitsOf mm) (Im.cuts a n)).1)) ∧ Below w.heap.size w w' := by
 have hfl := fun (W : World) (hb : Below w.heap.size w W) (g : Int) (hg : 0 ≤ g ∧ g < 64) => b_flags mm h64 g hg W
 have Hin := hid hin
 clear hin
 have hcut := fun (W : World) => w_cut a n W
 have Hlen := hid (cuts_length a n)
 have Hr := hid (show ∀ p ∈ Im.cuts a n, 1 ≤ p.2.2 ∧ p.2.2 ≤ 128 from fun p hp => by
  by_cases hak : a < 0 ∨ n < 0 ∨ 1073741824 < a ∨ 65536 < n
  · have : Im.cuts a n = [] := by simp [Im.cuts, hak]
    rw [this] at hp; cases hp
  · have := (cuts_tiles hak).mem (by omega) p hp; omega)
 generalize hL : Im.cuts a n = L at *
 clear hL
 have hB := Below.refl w.heap.size w
 go_enter Tryz.func22, Tryz.ntmps22
 go_wp2_with fail
 go_at_call 61
 refine ((hcut _)).mono ?_
 rintro e w1 ⟨⟨v, rfl, hv⟩, hb1⟩
 replace hB := bt hB hb1
 obtain ⟨A1, c1, rfl, hn1, hc1, hm1⟩ := own_slice hv
 have hA := Cells.of_own hv
 clear hv hcut
 go_wp2_with fail
 obtain ⟨i0, hi, hz0, hz1, hz2⟩ := info_parts Tryz.infoXt
 go_loopw [8, 17] (fun l x W => ∃ m : Nat, m ≤ L.length ∧ x = .int .i64 m ∧ Hid ((tell (Im.bitsOf mm) (L.take m)).2 = 0) ∧ W.ownsRow w1.heap.size 41 2 l m (entCells (tell (Im.bitsOf mm) (L.take m)).1) ∧ Below w1.heap.size w1 W) (fun _ x _ => L.length - (intOf x).toNat)
 case atStart => exact ⟨0, Nat.zero_le _, rfl, hid rfl, World.ownsRow_nil _ _ _ _, Below.refl _ _⟩
 case round =>
  obtain ⟨m, hm, rfl, ht, hrow, hb⟩ := hrel
  by_cases hlt : m < L.length
  · obtain ⟨gA, oA, e1, hc⟩ := (hA.below hb).cut hlt
    replace hc := hc m hlt
    have Hn := hid (tell_next hlt ht.out)
    have Hlr := hid (tell_len _ ht.out)
    obtain ⟨⟨xk, xo, xn⟩, hx⟩ : ∃ x, L[m] = x := ⟨_, rfl⟩
    have hxk := Hin.out _ (List.getElem_mem hlt)
    rw [hx] at hc Hn hxk
    simp only at hc
    clear hx
    obtain ⟨⟨fv, fe⟩, hfv⟩ : ∃ x, Im.bitsOf mm xk = x := ⟨_, rfl⟩
    have hB1 := (hB).trans (hb.mono (hB).size)
    have hcall := hfl (wr.alloc (.cells #[.int .i64 xk, .int .i64 xo, .int .i64 xn] 80)) (hB1.alloc hB1.size _) xk hxk
    rw [hfv] at hcall Hn
    simp only at hcall Hn
    replace hfv := hid hfv
    subst e1
    have x1 := Blk.new wr 80 #[.int .i64 xk, .int .i64 xo, .int .i64 xn]
    have kx := blk3 x1
    have hba := hb.alloc hb.size (.cells #[.int .i64 xk, .int .i64 xo, .int .i64 xn] 80)
    have o1 := hrow.alloc (.cells #[.int .i64 xk, .int .i64 xo, .int .i64 xn] 80)
    have hll := Hlen.out
    have hme := fun (k : Nat) (v : Value) (W : World) => show (method (k + 1) 85 v "cofferdam/span.flags").run Tryz.prog W = .ok (134, v) W from by kernel_rfl
    clear hfl
    by_cases he : fe = 0
    · subst he
      have Hmap := hid (show entCells (tell (Im.bitsOf mm) (L.take m)).1 ++ [Value.int .i64 xn, Value.int .i64 fv] = entCells (tell (Im.bitsOf mm) (L.take (m + 1))).1 by rw [entCells_snoc, Hn.out, if_neg (by simp)])
      have Hz := hid (show (tell (Im.bitsOf mm) (L.take (m + 1))).2 = 0 by rw [Hn.out, if_neg (by simp)])
      clear Hn
      go_wp2_with fail
      refine hcall.mono ?_
      rintro e w2 ⟨rfl, hb2⟩
      have kx2 := blk3 (x1.below hb2 x1.lt)
      have o2 := own_below o1 hb2
      have b2 := hba.trans (hb2.mono hba.size)
      have l2 := b2.size
      go_wp2_with (at_builtin; refine wpList_append_own _ rfl _ _ 36 rfl w1.heap.size 41 i0 (.agg #[.int .i64 0, .int .i64 0]) 2 16 Tryz.underlying36 hi hz0 hz1 hz2 rfl (by decide) _ _ _ rfl (o2.alloc _) ⟨w2.heap.size, 0, none⟩ 1 1 [.int .i64 xn, .int .i64 fv] rfl rfl (World.news_of_block (Blk.new w2 41 #[.int .i64 xn, .int .i64 fv])) (by simp [Value.oneCell']) (by unfold maxLen; omega) (by omega) (by simp; omega) ?_; intro v5 w5 h5 gr5 _)
      have b5 := (b2.alloc b2.size (.cells #[.int .i64 xn, .int .i64 fv] 41)).trans (grown_below (o2.alloc (.cells #[.int .i64 xn, .int .i64 fv] 41)) gr5 (by simp; omega))
      go_roundw
      case rel => exact ⟨m + 1, by omega, by go_num, Hz, by rw [← Hmap.out]; exact h5, b5⟩
      case measure => simp [intOf]; omega
    · have n1 : (fe != 0) = true := by simpa using he
      have Hst := hid (show pcs (Im.bitsOf mm) L = ([], fe) by
       have e2 : tell (Im.bitsOf mm) (L.take (m + 1)) = ([], fe) := by rw [Hn.out, if_pos he]
       have e3 := tell_early hlt (by rw [e2]; exact he)
       rw [pcs, e3, e2, if_pos he])
      clear he Hn
      go_wp2_with fail
      refine hcall.mono ?_
      rintro e w2 ⟨rfl, hb2⟩
      go_wp2_with fail
      go_ret2
      rw [Hst.out]
      exact ⟨⟨_, rfl, World.ownsRow_nil _ _ _ _⟩, hB1.trans (((Below.refl _ _).alloc hB1.size _).trans (hb2.mono (by simp; have := hB1.size; omega)))⟩
  · obtain rfl : m = L.length := by omega
    rw [List.take_length] at hrow ht
    have hT := tell_ok ht.out
    have hTl := tell_len _ ht.out
    have Hp := hid (show pcs (Im.bitsOf mm) L = (join (tell (Im.bitsOf mm) L).1, 0) by rw [pcs, if_neg (by rw [ht.out]; simp)])
    have hin : ∀ x ∈ (tell (Im.bitsOf mm) L).1, -9223372036854775808 ≤ x.1 ∧ x.1 ≤ 9223372036854775807 := by
     intro x hx
     rw [hT.1] at hx
     obtain ⟨y, hy, rfl⟩ := List.mem_map.1 hx
     have := Hr.out y hy
     show -9223372036854775808 ≤ y.2.2 ∧ y.2.2 ≤ 9223372036854775807
     omega
    obtain ⟨A2, c2, rfl, _, _, _⟩ := own_slice hrow
    have hj := sp_join (tell (Im.bitsOf mm) L).1 A2 c2 (by rw [hTl]; have := Hlen.out; omega) hin wr (Cells.of_own hrow)
    rw [hTl] at hj
    have hB1 := (hB).trans (hb.mono (hB).size)
    clear hT hin ht hTl hfl
    generalize (tell (Im.bitsOf mm) L).1 = T at *
    go_wp2_with fail
    go_at_call 14
    refine hj.mono ?_
    rintro e w2 ⟨⟨v, rfl, hv⟩, hb2⟩
    go_wp2_with fail
    go_ret2
    rw [Hp.out]
    exact ⟨⟨_, rfl, own_base hv hB1.size⟩, bt hB1 hb2⟩
end Go.Proofs.YtlapjkbefkmohaaGreat
