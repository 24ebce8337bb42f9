/- sync.Once, not yet done, one goroutine: the parts of its slow way, each a contract of its own. Package crc: the table. Package crc: sums, and their bytes; the document's own. -/
import Derived.Test.YtjhnaeomaigimaaGreatDoorPlain1
import Derived.Test.YtjhnaeomaigimaaGreatDoorProg
import Derived.Tactics
import Derived.Tactics2
import Derived.Defers
import Derived.Laws.Pointers
import Derived.Laws.LoneSync
import Derived.RegionTactic
import Derived.RegionCalls
import Derived.ChangeAlike
import Derived.Laws.NewBlocks
import Derived.WalkKit
import Derived.Laws.BitsAllLaws
import Derived.Laws.DeepNot64
import Derived.Lib.ConvBytes
import Derived.Lib.LazyBuf
set_option linter.unusedVariables false
namespace Go.Proofs.YtjhnaeomaigimaaGreatDoor
open Go.RowKit Go.Shelf
theorem race_disable (w : World) : (callFunc 243 #[]).run Tryz.prog w = .ok (.value (.tuple #[])) w := run_call_mark0 Tryz.func243 (by kernel_rfl) (by kernel_rfl) (by kernel_rfl) .disable (by kernel_rfl) w
theorem race_enable (w : World) : (callFunc 245 #[]).run Tryz.prog w = .ok (.value (.tuple #[])) w := run_call_mark0 Tryz.func245 (by kernel_rfl) (by kernel_rfl) (by kernel_rfl) .enable (by kernel_rfl) w
theorem race_acquire (a : Addr) (w : World) : (callFunc 246 #[.pointer (some a)]).run Tryz.prog w = .ok (.value (.tuple #[])) w := run_call_marked Tryz.func246 (by kernel_rfl) (by kernel_rfl) (by kernel_rfl) .acquire (by kernel_rfl) a w
theorem race_release (a : Addr) (w : World) : (callFunc 248 #[.pointer (some a)]).run Tryz.prog w = .ok (.value (.tuple #[])) w := run_call_marked Tryz.func248 (by kernel_rfl) (by kernel_rfl) (by kernel_rfl) .releaseMerge (by kernel_rfl) a w
theorem store_deferred (a : Addr) (x : Value) (u : FrameMode) (w : World) (hc : w.cell? a = some x) (hz : w.frozen? a = false) :
    CallsD Tryz.prog 229 #[.pointer (some a), .bool true] u w fun e u' w' => u' = u ∧ (e = .returned (.tuple #[]) ∧ w' = w.drew.setCell a (.int .u32 1)) := by
  have hc' : w.drew.cell? a = some x := by go_simp
  have hz' : w.drew.frozen? a = false := by go_simp
  have hst := run_call_store (P := Tryz.prog) Tryz.func237 (by kernel_rfl) (by kernel_rfl) (by kernel_rfl) (by kernel_rfl) (k := .u32) (y := 1) hc' hz'
  go_enter_d Tryz.func229, Tryz.ntmps229
  go_wp2
  go_region_calls
  all_goals (go_end0; exact ⟨rfl, rfl⟩)
set_option maxRecDepth 100000 in
theorem unlock_deferred (a : Addr) (u : FrameMode) (w : World) (hc : w.cell? a = some (.int .i32 1)) (hz : w.frozen? a = false) :
    CallsD Tryz.prog 228 #[.pointer (some a)] u w fun e u' w' => u' = u ∧ (e = .returned (.tuple #[]) ∧ w' = w.setCell a (.int .i32 0)) := by
  have hd := race_disable
  have he := race_enable
  have hr := race_release
  have hadd := run_call_add (P := Tryz.prog) Tryz.func249 (by kernel_rfl) (by kernel_rfl) (by kernel_rfl) .i32 (by kernel_rfl) (y := -1) (s := 0) hc hz (by simp [go_sem]; rfl)
  have hcv := run_convert_to_unsafe (P := Tryz.prog) (src := 320) (dst := 286) Tryz.underlying320 Tryz.underlying286 (by kernel_rfl) hc
  go_enter_d Tryz.func228, Tryz.ntmps228
  go_wp2
  go_end0
  go_wp2
  go_end0
  exact ⟨rfl, rfl⟩
set_option maxRecDepth 100000 in
theorem lock_free (a : Addr) (w : World) (hc : w.cell? a = some (.int .i32 0)) (hz : w.frozen? a = false) :
    Calls Tryz.prog 227 #[.pointer (some a)] w fun e w' => e = .returned (.tuple #[]) ∧ w' = w.setCell a (.int .i32 1) := by
  have hd := race_disable
  have he := race_enable
  have ha := race_acquire
  have hcas := run_call_cas_hit (P := Tryz.prog) Tryz.func244 (by kernel_rfl) (by kernel_rfl) (by kernel_rfl) .i32 (by kernel_rfl) (y := 1) hc hz
  have hc' : (w.setCell a (.int .i32 1)).cell? a = some (.int .i32 1) := World.cell?_setCell_same w a _ hc
  have hcv := run_convert_to_unsafe (P := Tryz.prog) (src := 320) (dst := 286) Tryz.underlying320 Tryz.underlying286 (by kernel_rfl) hc'
  go_enter Tryz.func227, Tryz.ntmps227
  go_wp2
  first | go_end0 | (simp only [Exit.inBlock, Exit.then]; refine bodyPost_ret (results_none rfl _ _ _) rfl ?_) | refine bodyPost_ret (results_none rfl _ _ _) rfl ?_
  go_wp2
  go_end0
  exact ⟨rfl, rfl⟩
end Go.Proofs.YtjhnaeomaigimaaGreatDoor
set_option linter.unusedVariables false
namespace Go.Proofs.YtjhnaeomaigimaaGreatDoor
open Go.RowKit Go.Shelf
attribute [local go_sem] bs_mk bs_append bs_extract bs_size bs_toList bs_get
theorem bytesWorld_row2 (w : World) (e : TypeId) (l : List UInt8) : Below w.heap.size w (Lib.bytesWorld w e (bs l)) ∧ RowB (Lib.bytesWorld w e (bs l)) w.heap.size l := by
  refine ⟨⟨rfl, rfl, rfl, by rw [Lib.bytesWorld_size]; omega, fun k hk => Lib.bytesWorld_at_old w e _ k hk⟩, fun j hj => ⟨?_, ?_⟩⟩
  · rw [Lib.bytesWorld_cell w e (bs l) j (by rw [bs_size]; exact hj), bs_list]
    simp [hj]
  · have hs : l.length ≤ (Lib.bytesCells w e (bs l)).size := by simp [Lib.bytesCells, bs]
    simp only [World.frozen?, Lib.bytesWorld_at_new]
    simp
    omega
theorem crcN_next (n : Nat) : ∀ c, crcN (n + 1) c = crc1 (crcN n c) := by
  induction n with
  | zero => intro c; rfl
  | succ n ih => intro c; rw [crcN, ih]; rfl
/-- A summer's cells: done, the lock's state, its number, the table. -/
def sumCells (d s : Int) (T : List Nat) : Array Value := ([Value.int .u32 d, .int .i32 s, .int .u32 0] ++ T.map (fun (n : Nat) => Value.int .u32 (n : Int))).toArray
theorem sumCells_done (d s : Int) (T : List Nat) : (sumCells d s T)[0]? = some (.int .u32 d) := by simp [sumCells]
theorem sumCells_state (d s : Int) (T : List Nat) : (sumCells d s T)[1]? = some (.int .i32 s) := by simp [sumCells]
theorem sumCells_tab (d s : Int) (T : List Nat) (i : Nat) (h : i < T.length) : (sumCells d s T)[3 + i]? = some (.int .u32 T[i]) := by
  simp only [sumCells, List.getElem?_toArray]
  rw [List.getElem?_append_right (by simp)]
  simp [h]
theorem sumCells_set (d s : Int) (T : List Nat) (i : Nat) (n : Nat) : (sumCells d s T).setIfInBounds (3 + i) (.int .u32 n) = sumCells d s (T.set i n) := by
  simp only [sumCells, List.setIfInBounds_toArray]
  rw [List.set_append_right _ _ (by simp)]
  simp [List.map_set]
theorem sumCells_set0 (d d' s : Int) (T : List Nat) : (sumCells d s T).setIfInBounds 0 (.int .u32 d') = sumCells d' s T := by simp [sumCells]
theorem sumCells_set1 (d s s' : Int) (T : List Nat) : (sumCells d s T).setIfInBounds 1 (.int .i32 s') = sumCells d s' T := by simp [sumCells]
def tabN (i : Nat) : List Nat := (List.range 256).map fun j => if j < i then crcN 8 j else 0
theorem tabN_length (i : Nat) : (tabN i).length = 256 := by simp [tabN]
theorem tabN_next (i : Nat) (h : i < 256) : (tabN i).set i (crcN 8 i) = tabN (i + 1) := by
  apply List.ext_getElem (by simp [tabN])
  intro j h1 h2
  simp only [tabN, List.getElem_set, List.getElem_map, List.getElem_range]
  by_cases e : i = j
  · subst e; simp
  · rw [if_neg e]
    by_cases hj : j < i
    · rw [if_pos hj, if_pos (by omega)]
    · rw [if_neg hj, if_neg (by omega)]
theorem tabN_get (i : Nat) (h : i < 256) : (tabN 256)[i]'(by rw [tabN_length]; exact h) = crcN 8 i := by simp [tabN, h]
theorem crc1_bits {c : Nat} (h : c < 4294967296) : bits .xor .u32 ((c : Int) / 2) (bits .and .u32 (c : Int) 1 * 2197175160 % 4294967296) = ((crc1 c : Nat) : Int) := by
  have e1 : bits .and .u32 (c : Int) 1 = (((c &&& 1 : Nat)) : Int) := u32_and_nat c 1 h (by omega)
  have e2 : ((c : Int) / (2 : Int)) = (((c >>> 1 : Nat)) : Int) := by rw [Nat.shiftRight_eq_div_pow]; omega
  have h1 : c &&& 1 ≤ 1 := by rw [Nat.and_one_is_mod]; omega
  have e3 : (((c &&& 1 : Nat)) : Int) * 2197175160 % 4294967296 = (((c &&& 1) * 2197175160 : Nat) : Int) := by
    rw [Int.emod_eq_of_lt (by omega) (by omega)]; omega
  rw [e1, e3, e2, u32_xor_nat _ _ (by rw [Nat.shiftRight_eq_div_pow]; omega) (by omega)]
  rfl
set_option maxRecDepth 100000 in
set_option maxHeartbeats 1000000 in
theorem fill_any (g : Nat) (t : TypeId) (d s : Int) (w : World) (hg : Blk w g t (sumCells d s (tabN 0))) :
    Calls Tryz.prog 184 #[.pointer (some ⟨g, 0, none⟩)] w fun e w' => e = .returned (.tuple #[]) ∧ Blk w' g t (sumCells d s (tabN 256)) ∧ Below g w w' := by
  go_enter Tryz.func184, Tryz.ntmps184
  go_wp2_with fail
  go_loopw [4] (fun u W => ∃ i : Nat, i ≤ 256 ∧ u = .int .i64 i ∧ Blk W g t (sumCells d s (tabN i)) ∧ Below g w W) (fun u _ => 256 - (intOf u).toNat)
  case atStart => exact ⟨0, by omega, rfl, hg, Below.refl _ _⟩
  case round =>
    obtain ⟨i, hi, rfl, hb, hw⟩ := hrel
    clear hg
    by_cases hlt : i < 256
    · go_wp2_with fail
      go_loopw [3, 9] (fun c u W => ∃ k : Nat, k ≤ 8 ∧ u = .int .i64 k ∧ c = .int .u32 (crcN k i) ∧ W = wr) (fun c u _ => 8 - (intOf u).toNat)
      case atStart => exact ⟨0, by omega, rfl, by simp [crcN], rfl⟩
      case round =>
        obtain ⟨k, hk, rfl, rfl, rfl⟩ := hrel
        have hcl := crcN_lt k (c := i) (by omega)
        have Hn := hid (crcN_next k i)
        obtain ⟨c, hc⟩ : ∃ c, crcN k i = c := ⟨_, rfl⟩
        rw [hc] at hcl Hn ⊢
        have Hc := hid hc
        clear hc
        by_cases hlk : k < 8
        · have He := hid (crc1_bits hcl)
          go_wp2_with fail
          refine ⟨⟨k + 1, by omega, by go_num, by rw [He.out, Hn.out], trivial⟩, ?_⟩
          simp [intOf]; omega
        · obtain rfl : k = 8 := by omega
          have hset := hb.set (3 + i) (.int .u32 (c : Int))
          have Hs := hid (show (sumCells d s (tabN i)).setIfInBounds (3 + i) (.int .u32 (c : Int)) = sumCells d s (tabN (i + 1)) by rw [sumCells_set, ← Hc.out, tabN_next _ hlt])
          have hc3 : wr.cell? ⟨g, 3 + i, none⟩ = some (.int .u32 ((tabN i)[i]'(by rw [tabN_length]; exact hlt) : Nat)) := by rw [hb.cell, sumCells_tab]
          have hf3 := hb.frozen (3 + i)
          go_wp2_with fail
          refine ⟨⟨i + 1, by omega, by go_num, by rw [← Hs.out]; exact hset, hw.setCell (p := ⟨g, 3 + i, none⟩) (Nat.le_refl _) _⟩, ?_⟩
          simp [intOf]; omega
    · obtain rfl : i = 256 := by omega
      go_wp2_with fail
      go_end0
      exact ⟨rfl, hb, hw⟩
theorem bool_load (a : Addr) (x : Int) (w : World) (hc : w.cell? a = some (.int .u32 x)) :
    Calls Tryz.prog 213 #[.pointer (some a)] w fun e w' => e = .returned (.bool (x != 0)) ∧ w' = w := by
  have hl := run_call_load (P := Tryz.prog) Tryz.func226 (by kernel_rfl) (by kernel_rfl) (by kernel_rfl) .u32 (by kernel_rfl) hc
  go_enter Tryz.func213, Tryz.ntmps213
  go_wp2
  go_ret
  exact ⟨rfl, rfl⟩
set_option maxRecDepth 100000 in
set_option maxHeartbeats 1600000 in
theorem slow_fill (g : Nat) (t : TypeId) (w : World) (hg : Blk w g t (sumCells 0 0 (tabN 0))) :
    Calls Tryz.prog 214 #[.pointer (some ⟨g, 0, none⟩), .func (.func 184) #[.pointer (some ⟨g, 0, none⟩)] #[]] w fun e w' => e = .returned (.tuple #[]) ∧
      Blk w' g t (sumCells 1 0 (tabN 256)) ∧ Below g w w' := by
  have hg1 : Blk (w.setCell ⟨g, 1, none⟩ (.int .i32 1)) g t (sumCells 0 1 (tabN 0)) := by
    have := hg.set 1 (.int .i32 1)
    rwa [sumCells_set1] at this
  have c1 : w.cell? ⟨g, 1, none⟩ = some (.int .i32 0) := by rw [hg.cell, sumCells_state]
  have f1 := hg.frozen 1
  have c0 : (w.setCell ⟨g, 1, none⟩ (.int .i32 1)).cell? ⟨g, 0, none⟩ = some (.int .u32 0) := by rw [hg1.cell, sumCells_done]
  have hb1 : Below g w (w.setCell ⟨g, 1, none⟩ (.int .i32 1)) := (Below.refl _ _).setCell (p := ⟨g, 1, none⟩) (Nat.le_refl _) _
  have hld := bool_load ⟨g, 0, none⟩ 0 _ c0
  have hnot : ∀ (x : Bool) (w : World), (Op.unary .not (.bool x)).run Tryz.prog w = .ok (.bool (!x)) w := fun _ _ => rfl
  have hfill := fill_any g t 0 1 _ hg1
  clear hg1 c0
  go_enter_defers Tryz.func214, Tryz.ntmps214
  go_wp2_with (first | (go_at_call 227; refine (lock_free ⟨g, 1, none⟩ _ c1 f1).mono ?_; rintro e w' ⟨rfl, rfl⟩) | (go_at_call 184; refine hfill.mono ?_; rintro e w2 ⟨rfl, hb2, hw2⟩) | (go_at_call 213; refine hld.mono ?_; rintro e w' ⟨rfl, rfl⟩))
  refine leaves_cons (f := 229) (args := #[.pointer (some ⟨g, 0, none⟩), .bool true]) (by simp) (by simp [go_sem]) ?_
  refine (store_deferred ⟨g, 0, none⟩ (.int .u32 0) .returning _ (by rw [hb2.cell, sumCells_done]) (hb2.frozen 0)).mono ?_
  rintro e u' w'' ⟨rfl, rfl, rfl⟩
  have hb3 : Blk (w2.drew.setCell ⟨g, 0, none⟩ (.int .u32 1)) g t (sumCells 1 1 (tabN 256)) := by
    have := hb2.drew.set 0 (.int .u32 1)
    rwa [sumCells_set0] at this
  refine leaves_cons (f := 228) (args := #[.pointer (some ⟨g, 1, none⟩)]) (by simp [settle]) (by simp [go_sem]) ?_
  refine (unlock_deferred ⟨g, 1, none⟩ _ _ (by rw [hb3.cell, sumCells_state]) (hb3.frozen 1)).mono ?_
  rintro e u' w'' ⟨rfl, rfl, rfl⟩
  have hb4 : Blk ((w2.drew.setCell ⟨g, 0, none⟩ (.int .u32 1)).setCell ⟨g, 1, none⟩ (.int .i32 0)) g t (sumCells 1 0 (tabN 256)) := by
    have := hb3.set 1 (.int .i32 0)
    rwa [sumCells_set1] at this
  have hbl : Below g w ((w2.drew.setCell ⟨g, 0, none⟩ (.int .u32 1)).setCell ⟨g, 1, none⟩ (.int .i32 0)) := ((hb1.trans hw2).drew.setCell (p := ⟨g, 0, none⟩) (Nat.le_refl _) _).setCell (p := ⟨g, 1, none⟩) (Nat.le_refl _) _
  simp [Leaves, settle, results, Tryz.results214]
  exact ⟨hb4, hbl⟩
set_option maxRecDepth 100000 in
set_option maxHeartbeats 1600000 in
theorem do_fill (g : Nat) (t : TypeId) (w : World) (hg : Blk w g t (sumCells 0 0 (tabN 0))) :
    Calls Tryz.prog 183 #[.pointer (some ⟨g, 0, none⟩), .func (.func 184) #[.pointer (some ⟨g, 0, none⟩)] #[]] w fun e w' => e = .returned (.tuple #[]) ∧
      Blk w' g t (sumCells 1 0 (tabN 256)) ∧ Below g w w' := by
  have hld := bool_load ⟨g, 0, none⟩ 0 w (by rw [hg.cell, sumCells_done])
  have hsl := slow_fill g t w hg
  have hnot : ∀ (x : Bool) (w : World), (Op.unary .not (.bool x)).run Tryz.prog w = .ok (.bool (!x)) w := fun _ _ => rfl
  clear hg
  go_enter Tryz.func183, Tryz.ntmps183
  go_wp2_with (first | (go_at_call 214; refine hsl.mono ?_; rintro e w2 ⟨rfl, hb2, hw2⟩) | (go_at_call 213; refine hld.mono ?_; rintro e w' ⟨rfl, rfl⟩))
  go_end0
  exact ⟨rfl, hb2, hw2⟩
set_option maxRecDepth 100000 in
set_option maxHeartbeats 1600000 in
theorem summer_more (g : Nat) (w : World) (hg : Blk w g 230 (sumCells 0 0 (tabN 0))) (c : Nat) (hc : c < 4294967296) (l : List UInt8) (hl : l.length ≤ 140737488355328) :
    Calls Tryz.prog 155 #[.pointer (some ⟨g, 0, none⟩), .int .u32 c, .string (bs l)] w fun e w' => e = .returned (.int .u32 (crcL c l : Nat)) ∧ Below g w w' := by
  have hdo := do_fill g 230 w hg
  have hcv := fun (W : World) => Lib.run_convert_string_bytes (P := Tryz.prog) W 9 151 5 (bs l) Tryz.underlying9 Tryz.underlying151 Tryz.underlying5
  simp only [bs_size] at hcv
  have hgl := hg.lt
  clear hg
  go_enter Tryz.func155, Tryz.ntmps155
  go_wp2_with (go_at_call 183; refine hdo.mono ?_; rintro e w2 ⟨rfl, hb2, hw2⟩)
  have hg2 : g < w2.heap.size := hb2.lt
  obtain ⟨q1, q2⟩ := bytesWorld_row2 w2 5 l
  have hcap : l.length ≤ grownCap w2 l.length 0 5 := grownCap_ge _ _ _ _
  have hb3 := hb2.below q1 hg2
  have hw3 := hw2.trans (q1.mono (by omega))
  generalize grownCap w2 l.length 0 5 = cap at *
  generalize Lib.bytesWorld w2 5 (bs l) = w3 at *
  clear q1 hcv hb2 hw2 hdo
  have Hct := hid (fun (x : Nat) (h : x < 256) => show w3.cell? ⟨g, 3 + x, none⟩ = some (.int .u32 ((crcN 8 x : Nat) : Int)) by
    rw [hb3.cell, sumCells_tab _ _ _ _ (by rw [tabN_length]; exact h), tabN_get x h])
  go_loopw [1, 18] (fun cc u W => ∃ i : Nat, i ≤ l.length ∧ u = .int .i64 i ∧ cc = .int .u32 (crcL c (l.take i) : Nat) ∧ W = w3) (fun cc u _ => l.length - (intOf u).toNat)
  case atStart => exact ⟨0, Nat.zero_le _, rfl, rfl, rfl⟩
  case round =>
    obtain ⟨i, hi, rfl, rfl, rfl⟩ := hrel
    have hcl := crcL_lt (l.take i) hc
    by_cases hlt : i < l.length
    · have Hn := hid (show crcL c (l.take (i + 1)) = crcB (crcL c (l.take i)) l[i] by rw [List.take_succ_eq_append_getElem hlt, crcL_snoc])
      obtain ⟨q3, _⟩ := q2 i hlt
      generalize crcL c (l.take i) = cc at *
      generalize l[i] = b at *
      have hbl : b.toNat < 256 := b.toNat_lt
      have hX : bits .xor .u8 ((cc : Int) % 256) (b.toNat : Int) = ((((cc % 256) ^^^ b.toNat : Nat)) : Int) := by
        have := u8_xor_nat (cc % 256) b.toNat (by omega) hbl
        rw [← this]; rfl
      have hm : (cc % 256) ^^^ b.toNat < 256 := Nat.xor_lt_two_pow (n := 8) (by omega) (by omega)
      have hB := crcB_table cc b
      obtain ⟨m, hme⟩ : ∃ m, (cc % 256) ^^^ b.toNat = m := ⟨_, rfl⟩
      rw [hme] at hX hm hB
      have Hn2 := hid (show crcL c (l.take (i + 1)) = crcN 8 m ^^^ (cc >>> 8) from Hn.out.trans hB)
      clear hme hB
      have ht := Hct.out m hm
      have hlt8 := crcN_lt 8 (c := m) (by omega)
      have He := hid (show bits .xor .u32 ((crcN 8 m : Nat) : Int) ((cc : Int) / 256) = ((crcN 8 m ^^^ (cc >>> 8) : Nat) : Int) by
        have := u32_xor_nat (crcN 8 m) (cc >>> 8) hlt8 (by rw [Nat.shiftRight_eq_div_pow]; omega)
        rw [← this]
        congr 1
        rw [Nat.shiftRight_eq_div_pow]; omega)
      go_wp2_with fail
      refine ⟨⟨i + 1, by omega, by go_num, by rw [He.out, Hn2.out], trivial⟩, ?_⟩
      simp [intOf]; omega
    · obtain rfl : i = l.length := by omega
      rw [List.take_length]
      go_wp2_with fail
      go_ret
      exact ⟨rfl, hw3⟩
end Go.Proofs.YtjhnaeomaigimaaGreatDoor
set_option linter.unusedVariables false
namespace Go.Proofs.YtjhnaeomaigimaaGreatDoor
open Go.RowKit Go.Shelf
attribute [local go_sem] bs_mk bs_append bs_extract bs_size bs_toList bs_get
theorem not32 (s : Nat) (h : s < 4294967296) : 4294967295 ^^^ s = 4294967295 - s := by
  have e := congrArg BitVec.toNat (BitVec.allOnes_xor (x := BitVec.ofNat 32 s))
  rw [BitVec.toNat_xor, BitVec.toNat_not, BitVec.toNat_allOnes, BitVec.toNat_ofNat, Nat.mod_eq_of_lt h] at e
  exact e
theorem not32_bits (s : Nat) (h : s < 4294967296) : bits .xor .u32 IntKind.u32.max (s : Int) = (((4294967295 - s : Nat)) : Int) := by
  rw [← not32 s h]
  exact u32_xor_nat 4294967295 s (by omega) h
theorem tabN_zero : tabN 0 = List.replicate 256 0 := by
  have e : (fun j => if j < 0 then crcN 8 j else 0) = fun _ => 0 := by funext j; rw [if_neg (Nat.not_lt_zero j)]
  rw [tabN, e, List.map_const', List.length_range]
theorem Tryz.summer_zero0 : Tryz.zeroCells230 = sumCells 0 0 (List.replicate 256 0) := by kernel_rfl
theorem Tryz.summer_zero : Tryz.zeroCells230 = sumCells 0 0 (tabN 0) := by rw [tabN_zero, Tryz.summer_zero0]
theorem Tryz.summer_new (w : World) : Blk (w.alloc (.cells Tryz.zeroCells230 230)) w.heap.size 230 (sumCells 0 0 (tabN 0)) :=
  Eq.subst (motive := fun c => Blk (w.alloc (.cells Tryz.zeroCells230 230)) w.heap.size 230 c) Tryz.summer_zero (Blk.new w 230 Tryz.zeroCells230)
set_option maxRecDepth 100000 in
set_option maxHeartbeats 1600000 in
theorem crc_more (s : Nat) (hs : s < 4294967296) (l : List UInt8) (hl : l.length ≤ 140737488355328) (w : World) :
    Calls Tryz.prog 111 #[.int .u32 s, .string (bs l)] w fun e w' => e = .returned (.int .u32 (crcMore s l : Nat)) ∧ Below w.heap.size w w' := by
  have hx := not32_bits s hs
  have hg := Tryz.summer_new w
  have hb := (Below.refl w.heap.size w).alloc (Nat.le_refl _) (.cells Tryz.zeroCells230 230)
  have hml : 4294967295 - s < 4294967296 := by omega
  have He := hid (show crcMore s l = 4294967295 - crcL (4294967295 - s) l from rfl)
  obtain ⟨m, hme⟩ : ∃ m, 4294967295 - s = m := ⟨_, rfl⟩
  rw [hme] at hx hml He
  have hm := summer_more w.heap.size _ hg m hml l hl
  have hlt := crcL_lt l (c := m) hml
  have hy := not32_bits (crcL m l) hlt
  obtain ⟨v, hv⟩ : ∃ v, crcL m l = v := ⟨_, rfl⟩
  rw [hv] at hm hy He
  obtain ⟨r, hr⟩ : ∃ r, 4294967295 - v = r := ⟨_, rfl⟩
  rw [hr] at hy He
  clear hg hme hv hr hlt hml
  have hsg : IntKind.u32.signed = false := rfl
  rw [He.out]
  go_enter Tryz.func111, Tryz.ntmps111
  go_wp2_with (go_at_call 155; refine hm.mono ?_; rintro e w2 ⟨rfl, hw2⟩)
  go_ret
  exact ⟨rfl, hb.trans hw2⟩
theorem crc_of (l : List UInt8) (hl : l.length ≤ 140737488355328) (w : World) :
    Calls Tryz.prog 67 #[.string (bs l)] w fun e w' => e = .returned (.int .u32 (crcOf l : Nat)) ∧ Below w.heap.size w w' := by
  have hm := crc_more 0 (by omega) l hl w
  unfold crcOf
  generalize crcMore 0 l = r at *
  go_enter Tryz.func67, Tryz.ntmps67
  go_wp2_with (go_at_call 111; refine hm.mono ?_; rintro e w2 ⟨rfl, hw2⟩)
  go_ret
  exact ⟨rfl, hw2⟩
theorem crcR_step {c : Nat} (h : c < 4294967296) : (c % 2 = 1 → bits .xor .u32 ((c : Int) / 2) 2197175160 = ((crc1 c : Nat) : Int)) ∧ (c % 2 = 0 → (c : Int) / 2 = ((crc1 c : Nat) : Int)) := by
  have e2 : ((c : Int) / (2 : Int)) = (((c >>> 1 : Nat)) : Int) := by rw [Nat.shiftRight_eq_div_pow]; omega
  constructor
  · intro h1
    rw [e2, show (2197175160 : Int) = ((2197175160 : Nat) : Int) by rfl, u32_xor_nat _ _ (by rw [Nat.shiftRight_eq_div_pow]; omega) (by omega)]
    rw [crc1, Nat.and_one_is_mod, h1, Nat.one_mul]
  · intro h0
    rw [e2, crc1, Nat.and_one_is_mod, h0, Nat.zero_mul, Nat.xor_zero]
set_option maxRecDepth 100000 in
set_option maxHeartbeats 1600000 in
theorem r2_more (s : Nat) (hs : s < 4294967296) (l : List UInt8) (hl : l.length ≤ 140737488355328) (w : World) :
    Calls Tryz.prog 108 #[.int .u32 s, .string (bs l)] w fun e w' => e = .returned (.int .u32 (crcMore s l : Nat)) ∧ w = w' := by
  have hx := not32_bits s hs
  have hml : 4294967295 - s < 4294967296 := by omega
  have He := hid (show crcMore s l = 4294967295 - crcL (4294967295 - s) l from rfl)
  obtain ⟨m, hme⟩ : ∃ m, 4294967295 - s = m := ⟨_, rfl⟩
  rw [hme] at hx hml He
  have hsg : IntKind.u32.signed = false := rfl
  have hy := not32_bits (crcL m l) (crcL_lt l hml)
  obtain ⟨v, hv⟩ : ∃ v, crcL m l = v := ⟨_, rfl⟩
  rw [hv] at hy He
  obtain ⟨r, hr⟩ : ∃ r, 4294967295 - v = r := ⟨_, rfl⟩
  rw [hr] at hy He
  have Hv := hid hv
  have Hy := hid hy
  rw [He.out]
  clear hme He hv hr hy
  go_enter Tryz.func108, Tryz.ntmps108
  go_wp2_with fail
  go_loop [5, 6] (fun c u => ∃ i : Nat, i ≤ l.length ∧ u = .int .i64 i ∧ c = .int .u32 (crcL m (l.take i) : Nat)) (fun c u => l.length - (intOf u).toNat)
  case atStart => exact ⟨0, Nat.zero_le _, rfl, rfl⟩
  case round =>
    obtain ⟨i, hi, rfl, rfl⟩ := hrel
    have hcl := crcL_lt (l.take i) hml
    clear hx
    by_cases hlt : i < l.length
    · have Hn := hid (show crcL m (l.take (i + 1)) = crcB (crcL m (l.take i)) l[i] by rw [List.take_succ_eq_append_getElem hlt, crcL_snoc])
      generalize crcL m (l.take i) = cc at *
      have hbl : l[i].toNat < 256 := l[i].toNat_lt
      have hX : bits .xor .u32 (cc : Int) (l[i].toNat : Int) = (((cc ^^^ l[i].toNat : Nat)) : Int) := u32_xor_nat cc _ hcl (by omega)
      have hm2 : cc ^^^ l[i].toNat < 4294967296 := Nat.xor_lt_two_pow (n := 32) hcl (by omega)
      have Hn2 := hid (show crcL m (l.take (i + 1)) = crcN 8 (cc ^^^ l[i].toNat) from Hn.out)
      generalize cc ^^^ l[i].toNat = y at *
      clear Hn
      go_wp2_with fail
      go_loop [5, 7] (fun c u => ∃ k : Nat, k ≤ 8 ∧ u = .int .i64 k ∧ c = .int .u32 (crcN k y : Nat)) (fun c u => 8 - (intOf u).toNat)
      case atStart => exact ⟨0, by omega, rfl, rfl⟩
      case round =>
        obtain ⟨k, hk, rfl, rfl⟩ := hrel
        clear hX
        have hkl := crcN_lt k hm2
        have Hk := hid (crcN_next k y)
        by_cases hlk : k < 8
        · obtain ⟨s1, s0⟩ := crcR_step hkl
          obtain ⟨z, hz⟩ : ∃ z, crcN k y = z := ⟨_, rfl⟩
          rw [hz] at hkl Hk s1 s0 ⊢
          clear hz
          rcases Nat.mod_two_eq_zero_or_one z with h | h
          · have S := hid (s0 h)
            have hz2 : ((((z : Int) % 2) == 1) = false) := by simp; omega
            clear s1 s0 h
            go_wp2_with fail
            refine ⟨⟨k + 1, by omega, by go_num, by rw [S.out, Hk.out]⟩, ?_⟩
            simp [intOf]; omega
          · have S := hid (s1 h)
            have hz2 : ((((z : Int) % 2) == 1) = true) := by simp; omega
            clear s1 s0 h
            go_wp2_with fail
            refine ⟨⟨k + 1, by omega, by go_num, by rw [S.out, Hk.out]⟩, ?_⟩
            simp [intOf]; omega
        · obtain rfl : k = 8 := by omega
          clear Hk
          go_wp2_with fail
          refine ⟨⟨i + 1, by omega, by go_num, by rw [Hn2.out]⟩, ?_⟩
          simp [intOf]; omega
    · obtain rfl : i = l.length := by omega
      rw [List.take_length, Hv.out]
      have hy := Hy.out
      go_wp2_with fail
      go_ret
      exact ⟨rfl, rfl⟩
theorem r2_of (l : List UInt8) (hl : l.length ≤ 140737488355328) (w : World) :
    Calls Tryz.prog 60 #[.string (bs l)] w fun e w' => e = .returned (.int .u32 (crcOf l : Nat)) ∧ w = w' := by
  have hm := r2_more 0 (by omega) l hl w
  unfold crcOf
  generalize crcMore 0 l = r at *
  go_enter Tryz.func60, Tryz.ntmps60
  go_wp2_with (go_at_call 108; refine hm.mono ?_; rintro e w2 ⟨rfl, rfl⟩)
  go_ret
  exact ⟨rfl, rfl⟩
theorem be4 (s : Nat) : be 4 s = [UInt8.ofNat (s / 16777216), UInt8.ofNat (s / 65536), UInt8.ofNat (s / 256), UInt8.ofNat s] := by
  simp [be]
theorem u8cell (n : Nat) : Value.int .u8 ((UInt8.ofNat n).toNat : Int) = .int .u8 ((n : Int) % 256) := by
  congr 1
def crcCells (s : Nat) (i : Nat) : Array Value := #[.int .u8 (if 0 < i then (s : Int) / 16777216 else 0), .int .u8 (if 1 < i then (s : Int) / 65536 % 256 else 0), .int .u8 (if 2 < i then (s : Int) / 256 % 256 else 0), .int .u8 (if 3 < i then (s : Int) % 256 else 0)]
theorem crcCells_be {s : Nat} (hs : s < 4294967296) : crcCells s 4 = byteCells (be 4 s) := by
  simp only [crcCells, byteCells, be4, List.map_cons, List.map_nil, u8cell]
  simp
  omega
set_option maxRecDepth 100000 in
set_option maxHeartbeats 1600000 in
theorem crc_bytes (s : Nat) (hs : s < 4294967296) (w : World) :
    Calls Tryz.prog 66 #[.int .u32 s] w fun e w' => e = .returned (.string (bs (be 4 s))) ∧ Below w.heap.size w w' := by
  have h0 := Blk.new w 156 (crcCells s 0)
  have hb0 := (Below.refl w.heap.size w).alloc (Nat.le_refl _) (.cells (crcCells s 0) 156)
  simp only [crcCells, Nat.lt_irrefl, Nat.not_lt_zero, if_false] at h0 hb0
  go_enter Tryz.func66, Tryz.ntmps66
  go_wp2_with fail
  go_loopw [5] (fun u W => ∃ i : Nat, i ≤ 4 ∧ u = .int .i64 i ∧ Blk W w.heap.size 156 (crcCells s i) ∧ Below w.heap.size w W) (fun u _ => 4 - (intOf u).toNat)
  case atStart => exact ⟨0, by omega, rfl, h0, hb0⟩
  case round =>
    obtain ⟨i, hi, rfl, hk, hb⟩ := hrel
    clear h0 hb0
    have f0 := hk.frozen
    obtain rfl | rfl | rfl | rfl | rfl : i = 0 ∨ i = 1 ∨ i = 2 ∨ i = 3 ∨ i = 4 := by omega
    · have c0 : wr.cell? ⟨w.heap.size, 0, none⟩ = some (.int .u8 0) := hk.cell 0
      go_wp2_with fail
      refine ⟨⟨1, by omega, rfl, ?_, hb.setCell (Nat.le_refl _) _⟩, by decide⟩
      have hs1 := hk.set 0 (.int .u8 ((s : Int) / 16777216))
      simpa [crcCells] using hs1
    · have c0 : wr.cell? ⟨w.heap.size, 1, none⟩ = some (.int .u8 0) := hk.cell 1
      go_wp2_with fail
      refine ⟨⟨2, by omega, rfl, ?_, hb.setCell (Nat.le_refl _) _⟩, by decide⟩
      have hs1 := hk.set 1 (.int .u8 ((s : Int) / 65536 % 256))
      simpa [crcCells] using hs1
    · have c0 : wr.cell? ⟨w.heap.size, 2, none⟩ = some (.int .u8 0) := hk.cell 2
      go_wp2_with fail
      refine ⟨⟨3, by omega, rfl, ?_, hb.setCell (Nat.le_refl _) _⟩, by decide⟩
      have hs1 := hk.set 2 (.int .u8 ((s : Int) / 256 % 256))
      simpa [crcCells] using hs1
    · have c0 : wr.cell? ⟨w.heap.size, 3, none⟩ = some (.int .u8 0) := hk.cell 3
      go_wp2_with fail
      refine ⟨⟨4, by omega, rfl, ?_, hb.setCell (Nat.le_refl _) _⟩, by decide⟩
      have hs1 := hk.set 3 (.int .u8 ((s : Int) % 256))
      simpa [crcCells] using hs1
    · have hcell : ∀ j (hj : j < (be 4 s).length), wr.cell? ((⟨w.heap.size, 0, none⟩ : Addr).add j) = some (.int .u8 ((be 4 s)[j].toNat : Int)) := fun j hj => by
        rw [add_at, hk.cell, crcCells_be hs, Nat.zero_add]
        simp [byteCells, hj]
      have hcv := run_convert_bytes_back (P := Tryz.prog) wr 151 9 5 ⟨w.heap.size, 0, none⟩ 4 (be 4 s) Tryz.underlying151 Tryz.underlying5 Tryz.underlying9 hcell
      rw [be_length] at hcv
      clear hcell hk
      go_wp2_with fail
      go_ret
      exact ⟨rfl, hb⟩
set_option maxRecDepth 100000 in
set_option maxHeartbeats 1600000 in
theorem r2_bytes (s : Nat) (hs : s < 4294967296) (w : World) :
    Calls Tryz.prog 59 #[.int .u32 s] w fun e w' => e = .returned (.string (bs (be 4 s))) ∧ Below w.heap.size w w' := by
  have hk := Blk.new w 5 (crcCells s 4)
  have hcell : ∀ j (hj : j < (be 4 s).length), (w.alloc (.cells (crcCells s 4) 5)).cell? ((⟨w.heap.size, 0, none⟩ : Addr).add j) = some (.int .u8 ((be 4 s)[j].toNat : Int)) := fun j hj => by
    rw [add_at, hk.cell, crcCells_be hs, Nat.zero_add]
    simp [byteCells, hj]
  have hcv := run_convert_bytes_back (P := Tryz.prog) (w.alloc (.cells (crcCells s 4) 5)) 151 9 5 ⟨w.heap.size, 0, none⟩ 4 (be 4 s) Tryz.underlying151 Tryz.underlying5 Tryz.underlying9 hcell
  rw [be_length] at hcv
  simp only [crcCells, Nat.reduceLT, if_true] at hcv
  clear hcell hk
  go_enter Tryz.func59, Tryz.ntmps59
  go_wp2_with fail
  go_ret
  exact ⟨rfl, (Below.refl w.heap.size w).alloc (Nat.le_refl _) _⟩
end Go.Proofs.YtjhnaeomaigimaaGreatDoor
