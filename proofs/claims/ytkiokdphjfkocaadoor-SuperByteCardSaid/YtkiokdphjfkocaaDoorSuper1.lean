/- Package super, function by function: its numbers; a first sector that is none. -/
import Derived.Test.YtkiokdphjfkocaaDoorBase
import Derived.Test.YtkiokdphjfkocaaDoorShelf
import Derived.Laws.EntriesVeiled
set_option linter.unusedVariables false
namespace Go.Proofs.YtkiokdphjfkocaaDoor
open Go.RowKit Go.Shelf
attribute [local go_sem] bs_mk bs_append bs_extract bs_size bs_toList bs_get

theorem kept_cell {w w' : World} {a : Addr} {v : Value} (hb : Below w.heap.size w w') (h : w.cell? a = some v) : w'.cell? a = some v := by
  have hl : a.block < w.heap.size := by
    rcases Nat.lt_or_ge a.block w.heap.size with h' | h'
    · exact h'
    · rw [World.cell?, Array.getElem?_eq_none h'] at h; cases h
  rw [hb.cell hl]; exact h
abbrev gval (g h : Int) : Value := .agg #[.int .i64 g, .int .i64 h]
def geomOk (g h : Int) : Bool := decide (0 < g) && (decide (g ≤ 64) && (decide (8 ≤ h) && decide (h ≤ 256)))
theorem geomOk_iff {g h : Int} : geomOk g h = true ↔ 0 < g ∧ g ≤ 64 ∧ 8 ≤ h ∧ h ≤ 256 := by simp [geomOk]
theorem s_fit (g h : Int) (w : World) : Calls Tryd.prog 10 #[gval g h] w fun e w' => e = .returned (.bool (geomOk g h)) ∧ Below w.heap.size w w' := by
  have hb := (Below.refl w.heap.size w).alloc (Nat.le_refl _) (.cells #[.int .i64 g, .int .i64 h] 23)
  by_cases h1 : 0 < g
  · by_cases h2 : g ≤ 64
    · by_cases h3 : 8 ≤ h
      · have Hw := hid (show geomOk g h = decide (h ≤ 256) by simp [geomOk, h1, h2, h3])
        go_enter Tryd.func10, Tryd.ntmps10
        go_wp2_with fail
        go_ret
        exact ⟨by rw [Hw.out]; rfl, hb⟩
      · have Hw := hid (show geomOk g h = false by simp [geomOk, h3])
        go_enter Tryd.func10, Tryd.ntmps10
        go_wp2_with fail
        go_ret
        exact ⟨by rw [Hw.out]; rfl, hb⟩
    · have Hw := hid (show geomOk g h = false by simp [geomOk, h2])
      go_enter Tryd.func10, Tryd.ntmps10
      go_wp2_with fail
      go_ret
      exact ⟨by rw [Hw.out]; rfl, hb⟩
  · have Hw := hid (show geomOk g h = false by simp [geomOk, h1])
    go_enter Tryd.func10, Tryd.ntmps10
    go_wp2_with fail
    go_ret
    exact ⟨by rw [Hw.out]; rfl, hb⟩
theorem r4_fit (g h : Int) (w : World) : Calls Tryd.prog 8 #[gval g h] w fun e w' => e = .returned (.bool (geomOk g h)) ∧ Below w.heap.size w w' := by
  have hb := (Below.refl w.heap.size w).alloc (Nat.le_refl _) (.cells #[.int .i64 g, .int .i64 h] 23)
  by_cases h1 : 1 ≤ g
  · have h1' : 0 < g := by omega
    by_cases h2 : g ≤ 64
    · by_cases h3 : 8 ≤ h
      · have Hw := hid (show geomOk g h = decide (h ≤ 256) by simp [geomOk, h1', h2, h3])
        go_enter Tryd.func8, Tryd.ntmps8
        go_wp2_with fail
        go_ret
        exact ⟨by rw [Hw.out]; rfl, hb⟩
      · have Hw := hid (show geomOk g h = false by simp [geomOk, h3])
        go_enter Tryd.func8, Tryd.ntmps8
        go_wp2_with fail
        go_ret
        exact ⟨by rw [Hw.out]; rfl, hb⟩
    · have Hw := hid (show geomOk g h = false by simp [geomOk, h2])
      go_enter Tryd.func8, Tryd.ntmps8
      go_wp2_with fail
      go_ret
      exact ⟨by rw [Hw.out]; rfl, hb⟩
  · have Hw := hid (show geomOk g h = false by simp [geomOk]; omega)
    go_enter Tryd.func8, Tryd.ntmps8
    go_wp2_with fail
    go_ret
    exact ⟨by rw [Hw.out]; rfl, hb⟩
theorem s_at (k : Int) (h0 : -1000000 ≤ k) (h1 : k ≤ 1000000) (w : World) : Calls Tryd.prog 12 #[.int .i64 k] w fun e w' => e = .returned (.int .i64 (96 + 2 * k)) ∧ Below w.heap.size w w' := by
  go_enter Tryd.func12, Tryd.ntmps12
  go_wp2_with fail
  go_ret
  exact ⟨rfl, Below.refl _ _⟩
theorem s_sectors (g h : Int) (w : World) : Calls Tryd.prog 11 #[gval g h] w fun e w' => e = .returned (.int .i64 (if geomOk g h then 96 + 2 * h else 0)) ∧ Below w.heap.size w w' := by
  have hb := (Below.refl w.heap.size w).alloc (Nat.le_refl _) (.cells #[.int .i64 g, .int .i64 h] 23)
  have x0 := Blk.new w 23 #[.int .i64 g, .int .i64 h]
  have hf := fun W => s_fit g h W
  cases hk : geomOk g h with
  | true =>
    rw [hk] at hf
    have hb' := geomOk_iff.1 hk
    go_enter Tryd.func11, Tryd.ntmps11
    go_wp2_with fail
    go_at_call 10
    refine (hf _).mono ?_
    rintro e w1 ⟨rfl, hb1⟩
    have y0 := (x0.below hb1 x0.lt).cell 1
    have y1 := (x0.below hb1 x0.lt).cell 0
    go_wp2_with fail
    go_at_call 12
    refine (s_at h (by omega) (by omega) _).mono ?_
    rintro e w2 ⟨rfl, hb2⟩
    go_wp2_with fail
    go_ret
    exact ⟨rfl, bt (bt hb hb1) hb2⟩
  | false =>
    rw [hk] at hf
    go_enter Tryd.func11, Tryd.ntmps11
    go_wp2_with fail
    go_at_call 10
    refine (hf _).mono ?_
    rintro e w1 ⟨rfl, hb1⟩
    go_wp2_with fail
    go_ret
    exact ⟨rfl, bt hb hb1⟩
theorem s_so (e : Int) (fn : FuncId) (caps : Array Value) (w : World) : Calls Tryd.prog 31 #[.int .i64 e, .func (.func fn) #[] caps] w fun x w' => x = .returned (.func (.func 32) #[] #[.pointer (some ⟨w.heap.size + 1, 0, none⟩), .pointer (some ⟨w.heap.size, 0, none⟩)]) ∧
    w' = (w.alloc (.cells #[.int .i64 e] 32)).alloc (.cells #[.func (.func fn) #[] caps] 25) := by
  go_enter Tryd.func31, Tryd.ntmps31
  go_wp2_with fail
  go_ret
  exact ⟨rfl, rfl⟩
theorem s_so' (e : Int) (fn : FuncId) (caps : Array Value) (w : World) : Calls Tryd.prog 31 #[.int .i64 e, .func (.func fn) #[] caps] w fun x w' => x = .returned (.func (.func 32) #[] #[.pointer (some ⟨w.heap.size + 1, 0, none⟩), .pointer (some ⟨w.heap.size, 0, none⟩)]) ∧
    Blk w' w.heap.size 32 #[.int .i64 e] ∧ Blk w' (w.heap.size + 1) 25 #[.func (.func fn) #[] caps] ∧ Below w.heap.size w w' := by
  refine (s_so e fn caps w).mono ?_
  rintro x w' ⟨rfl, rfl⟩
  refine ⟨rfl, (Blk.new w _ _).alloc _, ?_, ((Below.refl _ _).alloc (Nat.le_refl _) _).alloc (by simp) _⟩
  have := Blk.new (w.alloc (.cells #[.int .i64 e] 32)) 25 #[.func (.func fn) #[] caps]
  rwa [World.size_alloc] at this
theorem s_c3 (s : List UInt8) (hs : s.length ≤ 9223372036854775807) (B : Nat) (t : TypeId) (w : World) (hB : Blk w B t #[.string (bs s)]) : Calls Tryd.prog 36 #[.pointer (some ⟨B, 0, none⟩)] w fun x w' => x = .returned (.bool (decide (s.length = 64))) ∧ Below w.heap.size w w' := by
  have y0 := hB.cell 0
  go_enter Tryd.func36, Tryd.ntmps36
  go_wp2_with fail
  go_ret
  have e : ((s.length : Int) == 64) = decide (s.length = 64) := by rw [Bool.eq_iff_iff]; simp; omega
  refine ⟨?_, Below.refl _ _⟩
  show Ending.returned (.bool ((s.length : Int) == 64)) = _
  rw [e]
def magic4 : List UInt8 := [67, 79, 70, 49]
theorem s_c4 (s : List UInt8) (B : Nat) (t : TypeId) (w : World) (hB : Blk w B t #[.string (bs s)]) : Calls Tryd.prog 37 #[.pointer (some ⟨B, 0, none⟩)] w fun x w' => x = .returned (.bool (Lib.hasPrefix s magic4)) ∧ Below w.heap.size w w' := by
  have y0 := hB.cell 0
  have hp := fun W => Tryd.strings_HasPrefix (bs s) (bs magic4) W
  rw [bs_list, bs_list] at hp
  go_enter Tryd.func37, Tryd.ntmps37
  go_wp2_with fail
  go_at_call 38
  refine (hp _).mono ?_
  rintro e w1 ⟨rfl, rfl⟩
  go_wp2_with fail
  go_ret
  exact ⟨rfl, Below.refl _ _⟩
/-- A check that holds. -/
theorem s_check_ok (P E : Nat) (tp te : TypeId) (f : FuncId) (B : Nat) (er : Int) (w : World) (hP : Blk w P tp #[.func (.func f) #[] #[.pointer (some ⟨B, 0, none⟩)]])
    (hc : f = 36 ∨ f = 37) (hf : Calls Tryd.prog f #[.pointer (some ⟨B, 0, none⟩)] w fun x w' => x = .returned (.bool true) ∧ Below w.heap.size w w') :
    Calls Tryd.prog 32 #[.pointer (some ⟨P, 0, none⟩), .pointer (some ⟨E, 0, none⟩)] w fun x w' => x = .returned (.int .i64 0) ∧ Below w.heap.size w w' := by
  have y0 := hP.cell 0
  rcases hc with rfl | rfl
  · go_enter Tryd.func32, Tryd.ntmps32
    go_wp2_with fail
    refine hf.mono ?_
    rintro e w1 ⟨rfl, hb1⟩
    go_wp2_with fail
    go_ret
    exact ⟨rfl, hb1⟩
  · go_enter Tryd.func32, Tryd.ntmps32
    go_wp2_with fail
    refine hf.mono ?_
    rintro e w1 ⟨rfl, hb1⟩
    go_wp2_with fail
    go_ret
    exact ⟨rfl, hb1⟩
theorem s_check_no (P E : Nat) (tp te : TypeId) (f : FuncId) (B : Nat) (er : Int) (w : World) (hP : Blk w P tp #[.func (.func f) #[] #[.pointer (some ⟨B, 0, none⟩)]]) (hE : Blk w E te #[.int .i64 er])
    (hc : f = 36 ∨ f = 37) (hf : Calls Tryd.prog f #[.pointer (some ⟨B, 0, none⟩)] w fun x w' => x = .returned (.bool false) ∧ Below w.heap.size w w') :
    Calls Tryd.prog 32 #[.pointer (some ⟨P, 0, none⟩), .pointer (some ⟨E, 0, none⟩)] w fun x w' => x = .returned (.int .i64 er) ∧ Below w.heap.size w w' := by
  have y0 := hP.cell 0
  rcases hc with rfl | rfl
  · go_enter Tryd.func32, Tryd.ntmps32
    go_wp2_with fail
    refine hf.mono ?_
    rintro e w1 ⟨rfl, hb1⟩
    have y1 := (hE.below hb1 hE.lt).cell 0
    go_wp2_with fail
    go_ret
    exact ⟨rfl, hb1⟩
  · go_enter Tryd.func32, Tryd.ntmps32
    go_wp2_with fail
    refine hf.mono ?_
    rintro e w1 ⟨rfl, hb1⟩
    have y1 := (hE.below hb1 hE.lt).cell 0
    go_wp2_with fail
    go_ret
    exact ⟨rfl, hb1⟩
/-- Two checks ahead of others: the first one holds, the second one does not. -/
theorem s_first2 (s : List UInt8) (hs : s.length = 64) (hp : Lib.hasPrefix s magic4 = false) (B g P1 E1 P2 E2 : Nat) (ts tf te tc : TypeId) (n c : Nat) (hn : 2 ≤ n) (hn2 : n ≤ 100) (w : World) (hB : Blk w B ts #[.string (bs s)])
    (hP1 : Blk w P1 tf #[.func (.func 36) #[] #[.pointer (some ⟨B, 0, none⟩)]]) (hP2 : Blk w P2 tf #[.func (.func 37) #[] #[.pointer (some ⟨B, 0, none⟩)]]) (hE2 : Blk w E2 te #[.int .i64 14])
    (h0 : w.cell? ⟨g, 0, none⟩ = some (.func (.func 32) #[] #[.pointer (some ⟨P1, 0, none⟩), .pointer (some ⟨E1, 0, none⟩)]))
    (h1 : w.cell? ⟨g, 1, none⟩ = some (.func (.func 32) #[] #[.pointer (some ⟨P2, 0, none⟩), .pointer (some ⟨E2, 0, none⟩)])) :
    Calls Tryd.prog 35 #[.slice (some ⟨g, 0, none⟩) n c] w fun x w' => x = .returned (.int .i64 14) ∧ Below w.heap.size w w' := by
  have c1 := fun (W : World) (hb : Below w.heap.size w W) => s_check_ok P1 E1 tf te 36 B 0 W (hP1.below hb hP1.lt) (.inl rfl) (by
    have := s_c3 s (by omega) B ts W (hB.below hb hB.lt)
    rwa [decide_eq_true hs] at this)
  have c2 := fun (W : World) (hb : Below w.heap.size w W) => s_check_no P2 E2 tf te 37 B 14 W (hP2.below hb hP2.lt) (hE2.below hb hE2.lt) (.inr rfl) (by
    have := s_c4 s B ts W (hB.below hb hB.lt)
    rwa [hp] at this)
  go_enter Tryd.func35, Tryd.ntmps35
  go_wp2_with fail
  go_loopw [8] (fun x W => ∃ i : Nat, i ≤ 1 ∧ x = .int .i64 i ∧ Below w.heap.size w W) (fun x _ => 2 - (intOf x).toNat)
  case atStart => exact ⟨0, by omega, rfl, Below.refl _ _⟩
  case round =>
    obtain ⟨i, hi, rfl, hb⟩ := hrel
    have y0 := kept_cell hb h0
    have y1 := kept_cell hb h1
    by_cases h : i = 0
    · subst h
      go_wp2_with fail
      go_at_call 32
      refine (c1 _ hb).mono ?_
      rintro e w1 ⟨rfl, hb1⟩
      go_wp2_with fail
      go_roundw
      case rel => exact ⟨1, by omega, by go_num, bt hb hb1⟩
      case measure => simp [intOf]
    · obtain rfl : i = 1 := by omega
      go_wp2_with fail
      go_at_call 32
      refine (c2 _ hb).mono ?_
      rintro e w1 ⟨rfl, hb1⟩
      go_wp2_with fail
      go_ret
      exact ⟨rfl, bt hb hb1⟩
set_option maxRecDepth 100000 in
set_option maxHeartbeats 1000000 in
theorem s_read_form (s : List UInt8) (hs : s.length = 64) (hp : Lib.hasPrefix s magic4 = false) (w : World) :
    Calls Tryd.prog 20 #[.string (bs s)] w fun x w' => x = .returned (.tuple #[gval 0 0, .int .i64 14]) ∧ Below w.heap.size w w' := by
  have hso := s_so'
  have x0 := (((Blk.new w 9 #[.string (bs s)]).alloc (.cells #[.int .i64 0, .int .i64 0] 23)).alloc (.cells #[.int .i64 0, .int .i64 0] 23)).alloc (.cells #[.func (.func 33) #[] #[.pointer (some ⟨w.heap.size, 0, none⟩)]] 27)
  have z0 := ((Blk.new (w.alloc (.cells #[.string (bs s)] 9)) 23 #[.int .i64 0, .int .i64 0]).alloc (.cells #[.int .i64 0, .int .i64 0] 23)).alloc (.cells #[.func (.func 33) #[] #[.pointer (some ⟨w.heap.size, 0, none⟩)]] 27)
  have b0 := ((((Below.refl w.heap.size w).alloc (Nat.le_refl _) (.cells #[.string (bs s)] 9)).alloc (by simp) (.cells #[.int .i64 0, .int .i64 0] 23)).alloc (by simp; omega) (.cells #[.int .i64 0, .int .i64 0] 23)).alloc (by simp; omega) (.cells #[.func (.func 33) #[] #[.pointer (some ⟨w.heap.size, 0, none⟩)]] 27)
  simp only [World.size_alloc] at z0
  go_enter Tryd.func20, Tryd.ntmps20
  go_wp2_with fail
  generalize (((w.alloc (.cells #[.string (bs s)] 9)).alloc (.cells #[.int .i64 0, .int .i64 0] 23)).alloc (.cells #[.int .i64 0, .int .i64 0] 23)).alloc (.cells #[.func (.func 33) #[] #[.pointer (some ⟨w.heap.size, 0, none⟩)]] 27) = wa at *
  go_at_call 31
  refine (hso _ _ _ _).mono ?_
  rintro e w1 ⟨rfl, E1, P1, hb1⟩
  go_wp2_with fail
  go_at_call 31
  refine (hso _ _ _ _).mono ?_
  rintro e w2 ⟨rfl, E2, P2, hb2⟩
  go_wp2_with fail
  go_at_call 31
  refine (hso _ _ _ _).mono ?_
  rintro e w3 ⟨rfl, E3, P3, hb3⟩
  go_wp2_with fail
  go_at_call 31
  refine (hso _ _ _ _).mono ?_
  rintro e w4 ⟨rfl, E4, P4, hb4⟩
  go_wp2_with fail
  go_at_call 31
  refine (hso _ _ _ _).mono ?_
  rintro e w5 ⟨rfl, E5, P5, hb5⟩
  have x5 := ((((x0.below hb1 x0.lt).below hb2 (by have := (x0.below hb1 x0.lt).lt; exact this)).below hb3 ((x0.below hb1 x0.lt).below hb2 (x0.below hb1 x0.lt).lt).lt))
  have x6 := (x5.below hb4 x5.lt)
  have x7 := x6.below hb5 x6.lt
  have z1 := z0.below hb1 z0.lt
  have z2 := z1.below hb2 z1.lt
  have z3 := z2.below hb3 z2.lt
  have z4 := z3.below hb4 z3.lt
  have z5 := z4.below hb5 z4.lt
  have p2 := P1.below hb2 P1.lt
  have p3 := p2.below hb3 p2.lt
  have p4 := p3.below hb4 p3.lt
  have p5 := p4.below hb5 p4.lt
  have q3 := P2.below hb3 P2.lt
  have q4 := q3.below hb4 q3.lt
  have q5 := q4.below hb5 q4.lt
  have r3 := E2.below hb3 E2.lt
  have r4 := r3.below hb4 r3.lt
  have r5 := r4.below hb5 r4.lt
  have b1 := bt b0 hb1
  have b2 := bt b1 hb2
  have b3 := bt b2 hb3
  have b4 := bt b3 hb4
  have b5 := bt b4 hb5
  clear z0 z1 z2 z3 z4 p2 p3 p4 q3 q4 r3 r4 b0 b1 b2 b3 b4 hb1 hb2 hb3 hb4 hb5 x0 x5 x6 E1 E3 P3 E4 P4 E5 P5 P1 P2 E2
  go_wp2_with fail
  go_at_call 35
  refine (s_first2 s hs hp w.heap.size w5.heap.size (wa.heap.size + 1) wa.heap.size (w1.heap.size + 1) w1.heap.size _ _ _ 0 5 5 (by omega) (by omega) _ (x7.alloc _) (p5.alloc _) (q5.alloc _) (r5.alloc _) ((Blk.new w5 _ _).cell 0) ((Blk.new w5 _ _).cell 1)).mono ?_
  rintro e w8 ⟨rfl, hb8⟩
  have z8 := (z5.alloc _).below hb8 (z5.alloc _).lt
  have b8 := bt (b5.alloc b5.size _) hb8
  have y0 := z8.cell 0
  have y1 := z8.cell 1
  have y2 := z8.frozen
  go_wp2_with fail
  have zz : Blk ((w8.setCell ⟨w.heap.size + 1, 0, none⟩ (.int .i64 0)).setCell ⟨w.heap.size + 1, 1, none⟩ (.int .i64 0)) (w.heap.size + 1) 23 #[.int .i64 0, .int .i64 0] := by
    have := (z8.set 0 (.int .i64 0)).set 1 (.int .i64 0)
    simpa using this
  have yy0 := zz.cell 0
  have yy1 := zz.cell 1
  refine bodyPost_ret (v := .tuple #[gval 0 0, .int .i64 14]) (by simp [results, Tryd.results20, go_sem, yy0, yy1]) rfl ?_
  exact ⟨rfl, (b8.setCell (p := ⟨w.heap.size + 1, 0, none⟩) (by simp) _).setCell (p := ⟨w.heap.size + 1, 1, none⟩) (by simp) _⟩
theorem and31 : ∀ k : Fin 256, bits .and .i64 ((k.val : Nat) : Int) 31 = ((k.val % 32 : Nat) : Int) := by decide +kernel
theorem s_ref (k : Nat) (hk : k < 256) (w : World) : Calls Tryd.prog 13 #[.int .i64 k] w fun e w' => e = .returned (.tuple #[.int .i64 (87 + (k : Int) / 32), .int .i64 (2 * ((k % 32 : Nat) : Int))]) ∧ Below w.heap.size w w' := by
  have hb := and31 ⟨k, hk⟩
  simp only at hb
  have hr : k % 32 < 32 := by omega
  generalize k % 32 = r at *
  go_enter Tryd.func13, Tryd.ntmps13
  go_wp2_with fail
  go_ret2
  refine ⟨?_, Below.refl _ _⟩
  simp
  omega
theorem r4_ref (k : Nat) (hk : k < 256) (w : World) : Calls Tryd.prog 14 #[.int .i64 k] w fun e w' => e = .returned (.tuple #[.int .i64 (87 + (k : Int) / 32), .int .i64 (2 * ((k % 32 : Nat) : Int))]) ∧ Below w.heap.size w w' := by
  go_enter Tryd.func14, Tryd.ntmps14
  go_wp2_with fail
  go_ret2
  refine ⟨?_, Below.refl _ _⟩
  simp
theorem r4_at (k : Int) (h0 : -1000000 ≤ k) (h1 : k ≤ 1000000) (w : World) : Calls Tryd.prog 17 #[.int .i64 k] w fun e w' => e = .returned (.int .i64 (96 + 2 * k)) ∧ Below w.heap.size w w' := by
  go_enter Tryd.func17, Tryd.ntmps17
  go_wp2_with fail
  go_ret
  exact ⟨rfl, Below.refl _ _⟩
theorem s_journal (w : World) : Calls Tryd.prog 15 #[] w fun e w' => e = .returned (.tuple #[.int .i64 6, .int .i64 81]) ∧ Below w.heap.size w w' := by
  go_enter Tryd.func15, Tryd.ntmps15
  go_wp2_with fail
  go_ret2
  exact ⟨rfl, Below.refl _ _⟩
theorem r4_journal (w : World) : Calls Tryd.prog 16 #[] w fun e w' => e = .returned (.tuple #[.int .i64 6, .int .i64 81]) ∧ Below w.heap.size w w' := by
  go_enter Tryd.func16, Tryd.ntmps16
  go_wp2_with fail
  go_ret2
  exact ⟨rfl, Below.refl _ _⟩
def zs (i : Nat) : List UInt8 := List.replicate i 0
theorem zs_length (i : Nat) : (zs i).length = i := by simp [zs]
theorem zs_succ (i : Nat) : zs i ++ [0] = zs (i + 1) := by simp [zs, List.replicate_succ']
theorem zs_zero : zs 0 = [] := rfl
theorem zs_prefix : Lib.hasPrefix (zs 64) magic4 = false := by decide
attribute [local go_sem] zs_succ
set_option maxRecDepth 100000 in
theorem awake04 (w : World) : Calls Tryd.prog 9 #[] w fun e w' => e = .returned (.bool true) ∧ Below w.heap.size w w' := by
  have hr := s_ref 33 (by omega) w
  rw [show (87 : Int) + ((33 : Nat) : Int) / 32 = 88 by decide, show (2 : Int) * ((33 % 32 : Nat) : Int) = 2 by decide] at hr
  have hread := fun W => s_read_form (zs 64) (zs_length 64) zs_prefix W
  go_enter Tryd.func9, Tryd.ntmps9
  go_wp2_with fail
  go_at_call 13
  refine hr.mono ?_
  rintro e w1 ⟨rfl, hb1⟩
  go_wp2_with fail
  go_loopw [3, 10] (fun s x W => ∃ i : Nat, i ≤ 64 ∧ s = .string (bs (zs i)) ∧ x = .int .i64 i ∧ Below w.heap.size w W) (fun _ x _ => 64 - (intOf x).toNat)
  case atStart => exact ⟨0, by omega, by rw [zs_zero]; rfl, rfl, hb1⟩
  case round =>
    obtain ⟨i, hi, rfl, rfl, hB⟩ := hrel
    by_cases hlt : i < 64
    · have hxl : ¬ 9223372036854775807 < (zs i).length + 1 := by rw [zs_length]; omega
      go_wp2_with fail
      go_roundw
      case rel => exact ⟨i + 1, by omega, rfl, by go_num, hB⟩
      case measure => simp [intOf]; omega
    · obtain rfl : i = 64 := by omega
      generalize zs 64 = z at *
      go_wp2_with fail
      go_at_call 20
      refine (hread _).mono ?_
      rintro e w2 ⟨rfl, hb2⟩
      have B2 := bt hB hb2
      have B3 := B2.alloc B2.size (.cells #[.int .i64 0, .int .i64 0] 23)
      go_wp2_with fail
      go_at_call 11
      refine (s_sectors 1 8 _).mono ?_
      rintro e w4 ⟨rfl, hb4⟩
      rw [show (if geomOk 1 8 = true then (96 : Int) + 2 * 8 else 0) = 112 from rfl]
      go_wp2_with fail
      go_at_call 10
      refine (s_fit 64 256 _).mono ?_
      rintro e w5 ⟨rfl, hb5⟩
      rw [show geomOk 64 256 = true from rfl]
      go_wp2_with fail
      go_ret
      exact ⟨rfl, bt (bt B3 hb4) hb5⟩
end Go.Proofs.YtkiokdphjfkocaaDoor
