/- Package super, its writing and reading; the document's. -/
import Derived.Test.YtkiokdphjfkocaaDoorSuperLaw
import Derived.Test.YtkiokdphjfkocaaDoorCrc3
import Derived.Test.YtkiokdphjfkocaaDoorTail
import Derived.Test.YtkiokdphjfkocaaDoorShelf
import Derived.Laws.EntriesVeiled
set_option linter.unusedVariables false
namespace Go.Proofs.YtkiokdphjfkocaaDoor
open Go.RowKit Go.Shelf
attribute [local go_sem] bs_mk bs_append bs_extract bs_size bs_toList bs_get
theorem mixed : Tryd.prog.follows .mixedOrders = true := by kernel_rfl
theorem ext1 {w : World} {g : Nat} {t : TypeId} {a : Value} (h : Blk w g t #[a]) (x : Ext w) : x.world.cell? ⟨g, 0, none⟩ = some a := x.cell (blk1 h)
theorem i64u64w {x : Int} (h0 : 0 ≤ x) (h1 : x < 9223372036854775808) : IntKind.wrap .u64 x = x := by
  simp [IntKind.wrap, IntKind.bits, IntKind.signed]; omega
set_option maxRecDepth 100000 in
theorem s_write (g h : Int) (w : World) : Calls Tryd.prog 18 #[gval g h] w fun e w' => e = .returned (.tuple #[.string (bs (writeW g h)), .int .i64 (writeE g h)]) ∧ Below w.heap.size w w' := by
  have hb := (Below.refl w.heap.size w).alloc (Nat.le_refl _) (.cells #[.int .i64 g, .int .i64 h] 23)
  have x0 := Blk.new w 23 #[.int .i64 g, .int .i64 h]
  have hf := fun W => s_fit g h W
  cases hk : geomOk g h with
  | false =>
    have Hw := hid (show writeW g h = [] ∧ writeE g h = 25 by simp [writeW, writeE, hk])
    rw [hk] at hf
    go_enter Tryd.func18, Tryd.ntmps18
    go_wp2_with fail
    go_at_call 10
    refine (hf _).mono ?_
    rintro e w1 ⟨rfl, hb1⟩
    go_wp2_with fail
    go_ret2
    rw [Hw.out.1, Hw.out.2]
    exact ⟨rfl, bt hb hb1⟩
  | true =>
    have hg := geomOk_iff.1 hk
    rw [hk] at hf
    obtain ⟨g, rfl⟩ := Int.eq_ofNat_of_zero_le (show 0 ≤ g by omega)
    obtain ⟨h, rfl⟩ := Int.eq_ofNat_of_zero_le (show 0 ≤ h by omega)
    have Hw := hid (show writeW g h = headOf g h ++ sumOf (headOf g h) ++ List.replicate 52 0 ∧ writeE g h = 0 by unfold writeW writeE; rw [if_pos hk, if_pos hk]; exact ⟨rfl, rfl⟩)
    have w1e := i64u64w (x := g) (by omega) (by omega)
    have w2e := i64u64w (x := h) (by omega) (by omega)
    have hh : headOf g h = 67 :: 79 :: 70 :: 49 :: (be 2 g ++ be 2 h) := rfl
    have hl := headOf_length g h
    have hsl := sumOf_length (headOf g h)
    have lg := be_length 2 g
    have lh := be_length 2 h
    go_enter Tryd.func18, Tryd.ntmps18
    go_wp2_with fail
    go_at_call 10
    refine (hf _).mono ?_
    rintro e w1 ⟨rfl, hb1⟩
    have b1 := bt hb hb1
    have x1 := x0.below hb1 x0.lt
    have K1 := ext2 x1
    have p1 := fun e : Ext w1 => put_ok g 2 (by omega) (by omega) (by omega) e.world
    have p2 := fun e : Ext w1 => put_ok h 2 (by omega) (by omega) (by omega) e.world
    go_wp2_with fail
    refine wp_region_ext mixed (by kernel_rfl) ?_
    repeat (go_big_quiet_step ((first | (go_at_call 23; with_reducible exact ext_of (p1 _)) | (go_at_call 23; with_reducible exact ext_of (p2 _)))))
    refine wpQuiet_nil ?_
    rintro w2 ⟨pq_, hpq_⟩
    have hb2 := pq_.below
    rw [← hpq_] at hb2
    clear hpq_ pq_
    rw [← hh]
    clear hh
    generalize headOf g h = H at *
    have hO := fun W => crc_of H (by omega) W
    have hB := fun W => crc_bytes (crcOf H) (crcMore_lt _ _) W
    have hsd : sumOf H = be 4 (crcOf H) := rfl
    rw [← hsd] at hB
    clear hsd
    generalize sumOf H = R at *
    have hP := fun W => pad_ok (H ++ R) (by rw [List.length_append, hl, hsl]; decide) 64 (by rw [List.length_append]; omega) (by omega) W
    rw [show ((64 : Int).toNat - (H ++ R).length) = 52 by rw [List.length_append, hl, hsl]; rfl] at hP
    generalize List.replicate 52 (0 : UInt8) = Zr at *
    rw [List.append_assoc] at hP
    go_wp2_with fail
    go_at_call 26
    refine (hO _).mono ?_
    rintro e w3 ⟨rfl, hb3⟩
    go_wp2_with fail
    go_at_call 25
    refine (hB _).mono ?_
    rintro e w4 ⟨rfl, hb4⟩
    go_wp2_with fail
    go_at_call 24
    refine (hP _).mono ?_
    rintro e w5 ⟨rfl, hb5⟩
    go_wp2_with fail
    go_ret2
    rw [Hw.out.1, Hw.out.2, List.append_assoc]
    exact ⟨rfl, bt (bt (bt (bt b1 hb2) hb3) hb4) hb5⟩
set_option maxRecDepth 100000 in
theorem r4_write (g h : Int) (w : World) : Calls Tryd.prog 19 #[gval g h] w fun e w' => e = .returned (.tuple #[.string (bs (writeW g h)), .int .i64 (writeE g h)]) ∧ Below w.heap.size w w' := by
  have hb := (Below.refl w.heap.size w).alloc (Nat.le_refl _) (.cells #[.int .i64 g, .int .i64 h] 23)
  have x0 := Blk.new w 23 #[.int .i64 g, .int .i64 h]
  have hf := fun W => r4_fit g h W
  cases hk : geomOk g h with
  | false =>
    have Hw := hid (show writeW g h = [] ∧ writeE g h = 25 by simp [writeW, writeE, hk])
    rw [hk] at hf
    go_enter Tryd.func19, Tryd.ntmps19
    go_wp2_with fail
    go_at_call 8
    refine (hf _).mono ?_
    rintro e w1 ⟨rfl, hb1⟩
    go_wp2_with fail
    go_ret2
    rw [Hw.out.1, Hw.out.2]
    exact ⟨rfl, bt hb hb1⟩
  | true =>
    have hg := geomOk_iff.1 hk
    rw [hk] at hf
    obtain ⟨g, rfl⟩ := Int.eq_ofNat_of_zero_le (show 0 ≤ g by omega)
    obtain ⟨h, rfl⟩ := Int.eq_ofNat_of_zero_le (show 0 ≤ h by omega)
    have Hw := hid (show writeW g h = headOf g h ++ sumOf (headOf g h) ++ List.replicate 52 0 ∧ writeE g h = 0 by unfold writeW writeE; rw [if_pos hk, if_pos hk]; exact ⟨rfl, rfl⟩)
    have w1e := i64u64w (x := g) (by omega) (by omega)
    have w2e := i64u64w (x := h) (by omega) (by omega)
    have hh : headOf g h = 67 :: 79 :: 70 :: 49 :: (be 2 g ++ be 2 h) := rfl
    have hl := headOf_length g h
    have hsl := sumOf_length (headOf g h)
    have lg := be_length 2 g
    have lh := be_length 2 h
    go_enter Tryd.func19, Tryd.ntmps19
    go_wp2_with fail
    go_at_call 8
    refine (hf _).mono ?_
    rintro e w1 ⟨rfl, hb1⟩
    have b1 := bt hb hb1
    have x1 := x0.below hb1 x0.lt
    have K1 := ext2 x1
    have p1 := fun e : Ext w1 => rput_ok g 2 (by omega) (by omega) (by omega) e.world
    have p2 := fun e : Ext w1 => rput_ok h 2 (by omega) (by omega) (by omega) e.world
    go_wp2_with fail
    refine wp_region_ext mixed (by kernel_rfl) ?_
    repeat (go_big_quiet_step ((first | (go_at_call 27; with_reducible exact ext_of (p1 _)) | (go_at_call 27; with_reducible exact ext_of (p2 _)))))
    refine wpQuiet_nil ?_
    rintro w2 ⟨pq_, hpq_⟩
    have hb2 := pq_.below
    rw [← hpq_] at hb2
    clear hpq_ pq_
    rw [← hh]
    clear hh
    generalize headOf g h = H at *
    have hO := fun W => r2_of H (by omega) W
    have hB := fun W => r2_bytes (crcOf H) (crcMore_lt _ _) W
    have hsd : sumOf H = be 4 (crcOf H) := rfl
    rw [← hsd] at hB
    clear hsd
    generalize sumOf H = R at *
    have hP := fun W => rpad_ok (H ++ R) (by rw [List.length_append, hl, hsl]; decide) 64 (by rw [List.length_append]; omega) (by omega) W
    rw [show ((64 : Int).toNat - (H ++ R).length) = 52 by rw [List.length_append, hl, hsl]; rfl] at hP
    generalize List.replicate 52 (0 : UInt8) = Zr at *
    rw [List.append_assoc] at hP
    go_wp2_with fail
    go_at_call 30
    refine (hO _).mono ?_
    rintro e w3 ⟨rfl, rfl⟩
    go_wp2_with fail
    go_at_call 29
    refine (hB _).mono ?_
    rintro e w4 ⟨rfl, hb4⟩
    go_wp2_with fail
    go_at_call 28
    refine (hP _).mono ?_
    rintro e w5 ⟨rfl, hb5⟩
    go_wp2_with fail
    go_ret2
    rw [Hw.out.1, Hw.out.2, List.append_assoc]
    exact ⟨rfl, bt (bt (bt b1 hb2) hb4) hb5⟩
theorem r4_sectors (g h : Int) (w : World) : Calls Tryd.prog 22 #[gval g h] w fun e w' => e = .returned (.int .i64 (if geomOk g h then 96 + 2 * h else 0)) ∧ Below w.heap.size w w' := by
  have hb := (Below.refl w.heap.size w).alloc (Nat.le_refl _) (.cells #[.int .i64 g, .int .i64 h] 23)
  have x0 := Blk.new w 23 #[.int .i64 g, .int .i64 h]
  have hf := fun W => r4_fit g h W
  cases hk : geomOk g h with
  | true =>
    rw [hk] at hf
    have hb' := geomOk_iff.1 hk
    go_enter Tryd.func22, Tryd.ntmps22
    go_wp2_with fail
    go_at_call 8
    refine (hf _).mono ?_
    rintro e w1 ⟨rfl, hb1⟩
    have y0 := (x0.below hb1 x0.lt).cell 1
    have y1 := (x0.below hb1 x0.lt).cell 0
    go_wp2_with fail
    go_ret
    exact ⟨rfl, bt hb hb1⟩
  | false =>
    rw [hk] at hf
    go_enter Tryd.func22, Tryd.ntmps22
    go_wp2_with fail
    go_at_call 8
    refine (hf _).mono ?_
    rintro e w1 ⟨rfl, hb1⟩
    go_wp2_with fail
    go_ret
    exact ⟨rfl, bt hb hb1⟩
end Go.Proofs.YtkiokdphjfkocaaDoor
