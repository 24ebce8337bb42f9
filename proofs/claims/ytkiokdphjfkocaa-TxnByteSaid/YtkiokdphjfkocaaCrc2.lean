/- Package crc: the table. -/
import Derived.Test.YtkiokdphjfkocaaCrc1
import Derived.WalkKit
import Derived.Laws.BitsAllLaws
import Derived.Laws.DeepNot64
import Derived.Lib.ConvBytes
import Derived.Lib.LazyBuf
set_option linter.unusedVariables false
namespace Go.Proofs.Ytkiokdphjfkocaa
open Go.RowKit Go.Shelf
attribute [local go_sem] bs_mk bs_append bs_extract bs_size bs_toList bs_get
theorem bytesWorld_row2 (w : World) (e : TypeId) (l : List UInt8) : Below w.heap.size w (Lib.bytesWorld w e (bs l)) ∧ RowB (Lib.bytesWorld w e (bs l)) w.heap.size l := by
  refine ⟨⟨rfl, rfl, rfl, by rw [Lib.bytesWorld_size]; omega, fun k hk => Lib.bytesWorld_at_old w e _ k hk⟩, fun j hj => ⟨?_, ?_⟩⟩
  · rw [Lib.bytesWorld_cell w e (bs l) j (by rw [bs_size]; exact hj), bs_list]
    simp [hj]
  · have hs : l.length ≤ (Lib.bytesCells w e (bs l)).size := by simp [Lib.bytesCells, bs]
    simp only [World.frozen?, Lib.bytesWorld_at_new]
    simp
    omega
theorem crcN_next (n : Nat) : ∀ c, crcN (n + 1) c = crc1 (crcN n c) := by
  induction n with
  | zero => intro c; rfl
  | succ n ih => intro c; rw [crcN, ih]; rfl
/-- A summer's cells: done, the lock's state, its number, the table. -/
def sumCells (d s : Int) (T : List Nat) : Array Value := ([Value.int .u32 d, .int .i32 s, .int .u32 0] ++ T.map (fun (n : Nat) => Value.int .u32 (n : Int))).toArray
theorem sumCells_done (d s : Int) (T : List Nat) : (sumCells d s T)[0]? = some (.int .u32 d) := by simp [sumCells]
theorem sumCells_state (d s : Int) (T : List Nat) : (sumCells d s T)[1]? = some (.int .i32 s) := by simp [sumCells]
theorem sumCells_tab (d s : Int) (T : List Nat) (i : Nat) (h : i < T.length) : (sumCells d s T)[3 + i]? = some (.int .u32 T[i]) := by
  simp only [sumCells, List.getElem?_toArray]
  rw [List.getElem?_append_right (by simp)]
  simp [h]
theorem sumCells_set (d s : Int) (T : List Nat) (i : Nat) (n : Nat) : (sumCells d s T).setIfInBounds (3 + i) (.int .u32 n) = sumCells d s (T.set i n) := by
  simp only [sumCells, List.setIfInBounds_toArray]
  rw [List.set_append_right _ _ (by simp)]
  simp [List.map_set]
theorem sumCells_set0 (d d' s : Int) (T : List Nat) : (sumCells d s T).setIfInBounds 0 (.int .u32 d') = sumCells d' s T := by simp [sumCells]
theorem sumCells_set1 (d s s' : Int) (T : List Nat) : (sumCells d s T).setIfInBounds 1 (.int .i32 s') = sumCells d s' T := by simp [sumCells]
def tabN (i : Nat) : List Nat := (List.range 256).map fun j => if j < i then crcN 8 j else 0
theorem tabN_length (i : Nat) : (tabN i).length = 256 := by simp [tabN]
theorem tabN_next (i : Nat) (h : i < 256) : (tabN i).set i (crcN 8 i) = tabN (i + 1) := by
  apply List.ext_getElem (by simp [tabN])
  intro j h1 h2
  simp only [tabN, List.getElem_set, List.getElem_map, List.getElem_range]
  by_cases e : i = j
  · subst e; simp
  · rw [if_neg e]
    by_cases hj : j < i
    · rw [if_pos hj, if_pos (by omega)]
    · rw [if_neg hj, if_neg (by omega)]
theorem tabN_get (i : Nat) (h : i < 256) : (tabN 256)[i]'(by rw [tabN_length]; exact h) = crcN 8 i := by simp [tabN, h]
theorem crc1_bits {c : Nat} (h : c < 4294967296) : bits .xor .u32 ((c : Int) / 2) (bits .and .u32 (c : Int) 1 * 2197175160 % 4294967296) = ((crc1 c : Nat) : Int) := by
  have e1 : bits .and .u32 (c : Int) 1 = (((c &&& 1 : Nat)) : Int) := u32_and_nat c 1 h (by omega)
  have e2 : ((c : Int) / (2 : Int)) = (((c >>> 1 : Nat)) : Int) := by rw [Nat.shiftRight_eq_div_pow]; omega
  have h1 : c &&& 1 ≤ 1 := by rw [Nat.and_one_is_mod]; omega
  have e3 : (((c &&& 1 : Nat)) : Int) * 2197175160 % 4294967296 = (((c &&& 1) * 2197175160 : Nat) : Int) := by
    rw [Int.emod_eq_of_lt (by omega) (by omega)]; omega
  rw [e1, e3, e2, u32_xor_nat _ _ (by rw [Nat.shiftRight_eq_div_pow]; omega) (by omega)]
  rfl
set_option maxRecDepth 100000 in
set_option maxHeartbeats 1000000 in
theorem fill_any (g : Nat) (t : TypeId) (d s : Int) (w : World) (hg : Blk w g t (sumCells d s (tabN 0))) :
    Calls Try.prog 66 #[.pointer (some ⟨g, 0, none⟩)] w fun e w' => e = .returned (.tuple #[]) ∧ Blk w' g t (sumCells d s (tabN 256)) ∧ Below g w w' := by
  go_enter Try.func66, Try.ntmps66
  go_wp2_with fail
  go_loopw [4] (fun u W => ∃ i : Nat, i ≤ 256 ∧ u = .int .i64 i ∧ Blk W g t (sumCells d s (tabN i)) ∧ Below g w W) (fun u _ => 256 - (intOf u).toNat)
  case atStart => exact ⟨0, by omega, rfl, hg, Below.refl _ _⟩
  case round =>
    obtain ⟨i, hi, rfl, hb, hw⟩ := hrel
    clear hg
    by_cases hlt : i < 256
    · go_wp2_with fail
      go_loopw [3, 9] (fun c u W => ∃ k : Nat, k ≤ 8 ∧ u = .int .i64 k ∧ c = .int .u32 (crcN k i) ∧ W = wr) (fun c u _ => 8 - (intOf u).toNat)
      case atStart => exact ⟨0, by omega, rfl, by simp [crcN], rfl⟩
      case round =>
        obtain ⟨k, hk, rfl, rfl, rfl⟩ := hrel
        have hcl := crcN_lt k (c := i) (by omega)
        have Hn := hid (crcN_next k i)
        obtain ⟨c, hc⟩ : ∃ c, crcN k i = c := ⟨_, rfl⟩
        rw [hc] at hcl Hn ⊢
        have Hc := hid hc
        clear hc
        by_cases hlk : k < 8
        · have He := hid (crc1_bits hcl)
          go_wp2_with fail
          refine ⟨⟨k + 1, by omega, by go_num, by rw [He.out, Hn.out], trivial⟩, ?_⟩
          simp [intOf]; omega
        · obtain rfl : k = 8 := by omega
          have hset := hb.set (3 + i) (.int .u32 (c : Int))
          have Hs := hid (show (sumCells d s (tabN i)).setIfInBounds (3 + i) (.int .u32 (c : Int)) = sumCells d s (tabN (i + 1)) by rw [sumCells_set, ← Hc.out, tabN_next _ hlt])
          have hc3 : wr.cell? ⟨g, 3 + i, none⟩ = some (.int .u32 ((tabN i)[i]'(by rw [tabN_length]; exact hlt) : Nat)) := by rw [hb.cell, sumCells_tab]
          have hf3 := hb.frozen (3 + i)
          go_wp2_with fail
          refine ⟨⟨i + 1, by omega, by go_num, by rw [← Hs.out]; exact hset, hw.setCell (p := ⟨g, 3 + i, none⟩) (Nat.le_refl _) _⟩, ?_⟩
          simp [intOf]; omega
    · obtain rfl : i = 256 := by omega
      go_wp2_with fail
      go_end0
      exact ⟨rfl, hb, hw⟩
theorem bool_load (a : Addr) (x : Int) (w : World) (hc : w.cell? a = some (.int .u32 x)) :
    Calls Try.prog 71 #[.pointer (some a)] w fun e w' => e = .returned (.bool (x != 0)) ∧ w' = w := by
  have hl := run_call_load (P := Try.prog) Try.func76 (by kernel_rfl) (by kernel_rfl) (by kernel_rfl) .u32 (by kernel_rfl) hc
  go_enter Try.func71, Try.ntmps71
  go_wp2
  go_ret
  exact ⟨rfl, rfl⟩
set_option maxRecDepth 100000 in
set_option maxHeartbeats 1600000 in
theorem slow_fill (g : Nat) (t : TypeId) (w : World) (hg : Blk w g t (sumCells 0 0 (tabN 0))) :
    Calls Try.prog 72 #[.pointer (some ⟨g, 0, none⟩), .func (.func 66) #[.pointer (some ⟨g, 0, none⟩)] #[]] w fun e w' => e = .returned (.tuple #[]) ∧
      Blk w' g t (sumCells 1 0 (tabN 256)) ∧ Below g w w' := by
  have hg1 : Blk (w.setCell ⟨g, 1, none⟩ (.int .i32 1)) g t (sumCells 0 1 (tabN 0)) := by
    have := hg.set 1 (.int .i32 1)
    rwa [sumCells_set1] at this
  have c1 : w.cell? ⟨g, 1, none⟩ = some (.int .i32 0) := by rw [hg.cell, sumCells_state]
  have f1 := hg.frozen 1
  have c0 : (w.setCell ⟨g, 1, none⟩ (.int .i32 1)).cell? ⟨g, 0, none⟩ = some (.int .u32 0) := by rw [hg1.cell, sumCells_done]
  have hb1 : Below g w (w.setCell ⟨g, 1, none⟩ (.int .i32 1)) := (Below.refl _ _).setCell (p := ⟨g, 1, none⟩) (Nat.le_refl _) _
  have hld := bool_load ⟨g, 0, none⟩ 0 _ c0
  have hnot : ∀ (x : Bool) (w : World), (Op.unary .not (.bool x)).run Try.prog w = .ok (.bool (!x)) w := fun _ _ => rfl
  have hfill := fill_any g t 0 1 _ hg1
  clear hg1 c0
  go_enter_defers Try.func72, Try.ntmps72
  go_wp2_with (first | (go_at_call 77; refine (lock_free ⟨g, 1, none⟩ _ c1 f1).mono ?_; rintro e w' ⟨rfl, rfl⟩) | (go_at_call 66; refine hfill.mono ?_; rintro e w2 ⟨rfl, hb2, hw2⟩) | (go_at_call 71; refine hld.mono ?_; rintro e w' ⟨rfl, rfl⟩))
  refine leaves_cons (f := 79) (args := #[.pointer (some ⟨g, 0, none⟩), .bool true]) (by simp) (by simp [go_sem]) ?_
  refine (store_deferred ⟨g, 0, none⟩ (.int .u32 0) .returning _ (by rw [hb2.cell, sumCells_done]) (hb2.frozen 0)).mono ?_
  rintro e u' w'' ⟨rfl, rfl, rfl⟩
  have hb3 : Blk (w2.drew.setCell ⟨g, 0, none⟩ (.int .u32 1)) g t (sumCells 1 1 (tabN 256)) := by
    have := hb2.drew.set 0 (.int .u32 1)
    rwa [sumCells_set0] at this
  refine leaves_cons (f := 78) (args := #[.pointer (some ⟨g, 1, none⟩)]) (by simp [settle]) (by simp [go_sem]) ?_
  refine (unlock_deferred ⟨g, 1, none⟩ _ _ (by rw [hb3.cell, sumCells_state]) (hb3.frozen 1)).mono ?_
  rintro e u' w'' ⟨rfl, rfl, rfl⟩
  have hb4 : Blk ((w2.drew.setCell ⟨g, 0, none⟩ (.int .u32 1)).setCell ⟨g, 1, none⟩ (.int .i32 0)) g t (sumCells 1 0 (tabN 256)) := by
    have := hb3.set 1 (.int .i32 0)
    rwa [sumCells_set1] at this
  have hbl : Below g w ((w2.drew.setCell ⟨g, 0, none⟩ (.int .u32 1)).setCell ⟨g, 1, none⟩ (.int .i32 0)) := ((hb1.trans hw2).drew.setCell (p := ⟨g, 0, none⟩) (Nat.le_refl _) _).setCell (p := ⟨g, 1, none⟩) (Nat.le_refl _) _
  simp [Leaves, settle, results, Try.results72]
  exact ⟨hb4, hbl⟩
set_option maxRecDepth 100000 in
set_option maxHeartbeats 1600000 in
theorem do_fill (g : Nat) (t : TypeId) (w : World) (hg : Blk w g t (sumCells 0 0 (tabN 0))) :
    Calls Try.prog 65 #[.pointer (some ⟨g, 0, none⟩), .func (.func 66) #[.pointer (some ⟨g, 0, none⟩)] #[]] w fun e w' => e = .returned (.tuple #[]) ∧
      Blk w' g t (sumCells 1 0 (tabN 256)) ∧ Below g w w' := by
  have hld := bool_load ⟨g, 0, none⟩ 0 w (by rw [hg.cell, sumCells_done])
  have hsl := slow_fill g t w hg
  have hnot : ∀ (x : Bool) (w : World), (Op.unary .not (.bool x)).run Try.prog w = .ok (.bool (!x)) w := fun _ _ => rfl
  clear hg
  go_enter Try.func65, Try.ntmps65
  go_wp2_with (first | (go_at_call 72; refine hsl.mono ?_; rintro e w2 ⟨rfl, hb2, hw2⟩) | (go_at_call 71; refine hld.mono ?_; rintro e w' ⟨rfl, rfl⟩))
  go_end0
  exact ⟨rfl, hb2, hw2⟩
set_option maxRecDepth 100000 in
set_option maxHeartbeats 1600000 in
theorem summer_more (g : Nat) (w : World) (hg : Blk w g 97 (sumCells 0 0 (tabN 0))) (c : Nat) (hc : c < 4294967296) (l : List UInt8) (hl : l.length ≤ 140737488355328) :
    Calls Try.prog 52 #[.pointer (some ⟨g, 0, none⟩), .int .u32 c, .string (bs l)] w fun e w' => e = .returned (.int .u32 (crcL c l : Nat)) ∧ Below g w w' := by
  have hdo := do_fill g 97 w hg
  have hcv := fun (W : World) => Lib.run_convert_string_bytes (P := Try.prog) W 9 43 5 (bs l) Try.underlying9 Try.underlying43 Try.underlying5
  simp only [bs_size] at hcv
  have hgl := hg.lt
  clear hg
  go_enter Try.func52, Try.ntmps52
  go_wp2_with (go_at_call 65; refine hdo.mono ?_; rintro e w2 ⟨rfl, hb2, hw2⟩)
  have hg2 : g < w2.heap.size := hb2.lt
  obtain ⟨q1, q2⟩ := bytesWorld_row2 w2 5 l
  have hcap : l.length ≤ grownCap w2 l.length 0 5 := grownCap_ge _ _ _ _
  have hb3 := hb2.below q1 hg2
  have hw3 := hw2.trans (q1.mono (by omega))
  generalize grownCap w2 l.length 0 5 = cap at *
  generalize Lib.bytesWorld w2 5 (bs l) = w3 at *
  clear q1 hcv hb2 hw2 hdo
  have Hct := hid (fun (x : Nat) (h : x < 256) => show w3.cell? ⟨g, 3 + x, none⟩ = some (.int .u32 ((crcN 8 x : Nat) : Int)) by
    rw [hb3.cell, sumCells_tab _ _ _ _ (by rw [tabN_length]; exact h), tabN_get x h])
  go_loopw [1, 18] (fun cc u W => ∃ i : Nat, i ≤ l.length ∧ u = .int .i64 i ∧ cc = .int .u32 (crcL c (l.take i) : Nat) ∧ W = w3) (fun cc u _ => l.length - (intOf u).toNat)
  case atStart => exact ⟨0, Nat.zero_le _, rfl, rfl, rfl⟩
  case round =>
    obtain ⟨i, hi, rfl, rfl, rfl⟩ := hrel
    have hcl := crcL_lt (l.take i) hc
    by_cases hlt : i < l.length
    · have Hn := hid (show crcL c (l.take (i + 1)) = crcB (crcL c (l.take i)) l[i] by rw [List.take_succ_eq_append_getElem hlt, crcL_snoc])
      obtain ⟨q3, _⟩ := q2 i hlt
      generalize crcL c (l.take i) = cc at *
      generalize l[i] = b at *
      have hbl : b.toNat < 256 := b.toNat_lt
      have hX : bits .xor .u8 ((cc : Int) % 256) (b.toNat : Int) = ((((cc % 256) ^^^ b.toNat : Nat)) : Int) := by
        have := u8_xor_nat (cc % 256) b.toNat (by omega) hbl
        rw [← this]; rfl
      have hm : (cc % 256) ^^^ b.toNat < 256 := Nat.xor_lt_two_pow (n := 8) (by omega) (by omega)
      have hB := crcB_table cc b
      obtain ⟨m, hme⟩ : ∃ m, (cc % 256) ^^^ b.toNat = m := ⟨_, rfl⟩
      rw [hme] at hX hm hB
      have Hn2 := hid (show crcL c (l.take (i + 1)) = crcN 8 m ^^^ (cc >>> 8) from Hn.out.trans hB)
      clear hme hB
      have ht := Hct.out m hm
      have hlt8 := crcN_lt 8 (c := m) (by omega)
      have He := hid (show bits .xor .u32 ((crcN 8 m : Nat) : Int) ((cc : Int) / 256) = ((crcN 8 m ^^^ (cc >>> 8) : Nat) : Int) by
        have := u32_xor_nat (crcN 8 m) (cc >>> 8) hlt8 (by rw [Nat.shiftRight_eq_div_pow]; omega)
        rw [← this]
        congr 1
        rw [Nat.shiftRight_eq_div_pow]; omega)
      go_wp2_with fail
      refine ⟨⟨i + 1, by omega, by go_num, by rw [He.out, Hn2.out], trivial⟩, ?_⟩
      simp [intOf]; omega
    · obtain rfl : i = l.length := by omega
      rw [List.take_length]
      go_wp2_with fail
      go_ret
      exact ⟨rfl, hw3⟩
end Go.Proofs.Ytkiokdphjfkocaa
