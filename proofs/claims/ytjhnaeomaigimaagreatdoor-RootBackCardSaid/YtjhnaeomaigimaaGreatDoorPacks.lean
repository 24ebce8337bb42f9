/- 'slices.Backward' over bytes, and 'pack.Put': a number as bytes, the highest first. Package pack, function by function: what each hands back; nothing that lay in memory has turned. 'pack.Take', and the document's answers 'Put', 'Take', 'Pad'. -/
import Derived.Test.YtjhnaeomaigimaaGreatDoorPackLaw
import Derived.Test.YtjhnaeomaigimaaGreatDoorRows
import Derived.Test.YtjhnaeomaigimaaGreatDoorShelf
import Derived.Lib.ConvBytes
set_option linter.unusedVariables false
namespace Go.Proofs.YtjhnaeomaigimaaGreatDoor
open Go.RowKit Go.Shelf
attribute [local go_sem] Oper.semAt_some

/-- The slice's cells are bytes. -/
def BytesIn (g off len : Nat) (W : World) : Prop := ∀ j, j < len → ∃ v : UInt8, W.cell? ⟨g, off + j, none⟩ = some (.int .u8 v.toNat)
/-- What a round keeps. -/
def BackK (Bs : Nat) (sv : Value) (g off len : Nat) (W W' : World) : Prop :=
  (W.cell? ⟨Bs, 0, none⟩ = some sv → W'.cell? ⟨Bs, 0, none⟩ = some sv) ∧ (BytesIn g off len W → BytesIn g off len W')
theorem BackK.t {Bs : Nat} {sv : Value} {g off len : Nat} {A B C : World} (h : BackK Bs sv g off len A B) (k : BackK Bs sv g off len B C) : BackK Bs sv g off len A C :=
  ⟨fun x => k.1 (h.1 x), fun x => k.2 (h.2 x)⟩
theorem BackK.b {Bs : Nat} {sv : Value} {g off len : Nat} {w : World} (W : World) (l : Nat) (o o' : Obj) (_ : w.heap.size ≤ l) (h : W.heap[l]? = some o) (hc : o.isCells = false) (_ : o.isWalk = false) : BackK Bs sv g off len W (W.putObj l o') :=
  ⟨fun x => cell_kept x (grownBy_putObj' W l o') (fun r e => by cases e; exact ⟨_, h, hc⟩),
   fun x j hj => by obtain ⟨v, hv⟩ := x j hj; exact ⟨v, cell_kept hv (grownBy_putObj' W l o') (fun r e => by cases e; exact ⟨_, h, hc⟩)⟩⟩
def backEnc (len : Nat) (x : Fin len × UInt8) : Array Value := #[.int .i64 (x.1.val : Int), .int .u8 x.2.toNat]

set_option maxRecDepth 100000 in
set_option maxHeartbeats 2000000 in
theorem back1_in (F : Fence) (n : Nat) (h7 : F.fn 178) (hro : F.round = none) (hn : 1 ≤ n) (l Bs g off len cap : Nat) (hreach : len ≤ 140737488351232)
    (J Jx : List (Fin len × UInt8) → World → Prop)
    (hY : ∀ pre x W, J pre W → pre.length < len → YieldAt F (n - 1) Tryz.prog l (backEnc len x) W fun e W' =>
      (e = .returned (.bool true) ∧ J (pre ++ [x]) W' ∧ BackK Bs (.slice (some ⟨g, off, none⟩) len cap) g off len W W') ∨ (e = .returned (.bool false) ∧ Jx (pre ++ [x]) W'))
    (W : World) (hBs : W.cell? ⟨Bs, 0, none⟩ = some (.slice (some ⟨g, off, none⟩) len cap)) (hc : BytesIn g off len W) (h0 : J [] W) :
    CallsIn F n Tryz.prog 178 #[.func (.yield l) #[] #[], .pointer (some ⟨Bs, 0, none⟩)] W fun e W' => (∃ v, e = .returned v) ∧
      ((∃ ys, ys.map (fun y => y.1.val) = (List.range len).reverse ∧ J ys W') ∨ (∃ pre, True ∧ Jx pre W')) := by
  refine callsIn_of_wp Tryz.func178 rfl h7 ?_ hro
  simp only [Tryz.ntmps178, List.size_toArray, List.length_cons, List.length_nil, Nat.reduceAdd, Nat.reduceSub, Array.replicate_succ, Array.replicate_zero, List.push_toArray, List.append_toArray, List.nil_append, List.cons_append]
  gi_wp2
  gi_loopw [3] (fun i wr => ∃ (pre : List (Fin len × UInt8)), pre.length ≤ len ∧ i = .int .i64 ((len : Int) - 1 - pre.length) ∧ Hid (pre.map (fun y => y.1.val) = ((List.range len).reverse).take pre.length) ∧ J pre wr ∧ BytesIn g off len wr ∧ wr.cell? ⟨Bs, 0, none⟩ = some (.slice (some ⟨g, off, none⟩) len cap))
    (fun i _ => (intOf i + 1).toNat)
  case atStart => exact ⟨[], Nat.zero_le _, by simp, Lib.hid rfl, h0, hc, hBs⟩
  case round =>
    obtain ⟨pre, hk, rfl, hpm, hJs, hby, hbx⟩ := hrel
    by_cases hlt : pre.length < len
    · obtain ⟨v, hv⟩ := hby (len - 1 - pre.length) (by omega)
      have hv' : wr.cell? ⟨g, off + ((len : Int) - 1 - pre.length).toNat, none⟩ = some (.int .u8 v.toNat) := by rw [← hv]; congr 2; omega
      obtain ⟨fn, tmps, assign, body, hy, hR⟩ := hY pre (⟨len - 1 - pre.length, by omega⟩, v) wr hJs (by omega)
      simp only [backEnc] at hy
      rw [show ((len - 1 - pre.length : Nat) : Int) = (len : Int) - 1 - pre.length by omega] at hy
      gi_wp2
      refine hR.mono ?_
      rintro e W3 (⟨rfl, hJ3, hk3⟩ | ⟨rfl, hJx3⟩)
      · have hb3 := hk3.1 hbx
        have hy3 := hk3.2 hby
        gi_wp2
        go_roundw
        case rel => exact ⟨pre ++ [(⟨len - 1 - pre.length, by omega⟩, v)], by simp; omega, by simp; omega, Lib.hid (by
          rw [List.map_append, hpm.out]; simp only [List.length_append, List.map_cons, List.map_nil, List.length_singleton]
          rw [List.take_succ_eq_append_getElem (by simpa using hlt)]; simp), hJ3, hy3, hb3⟩
        case measure => simp [intOf]; omega
      · gi_wp2
        refine bodyPost_ret (results_none rfl _ _ _) rfl ?_
        exact ⟨⟨_, rfl⟩, .inr ⟨_, trivial, hJx3⟩⟩
    · have hle : len ≤ pre.length := by omega
      gi_wp2
      go_end0
      exact ⟨⟨_, rfl⟩, .inl ⟨pre, by rw [hpm.out, List.take_of_length_le (by simpa using hle)], hJs⟩⟩

theorem Tryz.infoByte : (Tryz.prog.info? 5).map (fun i => (i.zero, i.size, i.bytes)) = some (some (.int .u8 0), 1, 1) := by kernel_rfl
theorem back_in (F : Fence) (n : Nat) (h5 : F.fn 148) (hro : F.round = none) (a : Option Addr) (len cap : Nat) (w : World) :
    CallsIn F n Tryz.prog 148 #[.slice a len cap] w fun e w' => e = .returned (.func (.func 178) #[] #[.pointer (some ⟨w.heap.size, 0, none⟩)]) ∧ w' = w.alloc (.cells #[.slice a len cap] 151) := by
  refine callsIn_of_wp Tryz.func148 rfl h5 ?_ hro
  simp only [Tryz.ntmps148, List.size_toArray, List.length_cons, List.length_nil, Nat.reduceAdd, Nat.reduceSub, Array.replicate_succ, Array.replicate_zero, List.push_toArray, List.append_toArray, List.nil_append, List.cons_append]
  gi_wp2
  go_ret
  exact ⟨rfl, rfl⟩

theorem back_stops (F : Fence) (n : Nat) (h7 : F.fn 178) (hro : F.round = none) (hn : 1 ≤ n) (Bs g off len cap : Nat) (hreach : len ≤ 140737488351232) (w : World) (hB : Bs < w.heap.size) (hg : g < w.heap.size)
    (hBs : w.cell? ⟨Bs, 0, none⟩ = some (.slice (some ⟨g, off, none⟩) len cap)) (hc : BytesIn g off len w) :
    SeqStopsK F n Tryz.prog 178 #[.pointer (some ⟨Bs, 0, none⟩)] (backEnc len) (BackK Bs (.slice (some ⟨g, off, none⟩) len cap) g off len) (fun ys => ys.map (fun y => y.1.val) = (List.range len).reverse) (fun _ => True) len w := fun l J Jx W hW _ _ hY h0 =>
  back1_in F n h7 hro hn l Bs g off len cap hreach J Jx hY W ((hW.cell (p := ⟨Bs, 0, none⟩) hB).trans hBs)
    (fun j hj => by obtain ⟨v, hv⟩ := hc j hj; exact ⟨v, (hW.cell (p := ⟨g, off + j, none⟩) hg).trans hv⟩) h0


set_option maxRecDepth 100000 in
set_option maxHeartbeats 2000000 in
theorem put_in (F : Fence) (n : Nat) (h6 : F.fn 98) (h14 : F.fn 148) (h17 : F.fn 178) (hro : F.round = none) (hn : 3 ≤ n) (x size : Nat) (hx : x < 18446744073709551616) (hs : 1 ≤ size) (hs8 : size ≤ 8) (w : World) :
    CallsIn F n Tryz.prog 98 #[.int .u64 x, .int .i64 size] w fun e w' => (∃ ys : List (Fin size × UInt8), ys.map (fun y => y.1.val) = (List.range size).reverse ∧ e = .returned (.string ⟨(putSt size x ys).1.toArray⟩)) ∧ Below w.heap.size w w' := by
  have h1 : 1 ≤ n := by omega
  refine callsIn_of_wp_marks Tryz.func98 rfl h6 ?_ hro
  simp only [Tryz.ntmps98, List.size_toArray, List.length_cons, List.length_nil, Nat.reduceAdd, Nat.reduceSub, Array.replicate_succ, Array.replicate_zero, List.push_toArray, List.append_toArray, List.nil_append, List.cons_append]
  obtain ⟨i0, hi, hz0, hz1, hz2⟩ := info_parts Tryz.infoByte
  have hmk := fun W => run_make_rowN (P := Tryz.prog) 151 5 i0 (.int .u8 0) Tryz.underlying151 hi hz0 .i64 .i64 size size (Nat.le_refl _) (by rw [hz2]; omega) (by omega) W
  rw [hz1, Nat.mul_one] at hmk
  gi_wp2_with (gi_at_call 148; refine (back_in F (n - 1) h14 hro _ _ _ _).mono ?_; rintro e w' ⟨rfl, rfl⟩)
  have b0 := Blk.new w 71 #[Value.int .u64 (x : Int)]
  have b1 := Blk.new (w.alloc (.cells #[.int .u64 x] 71)) 5 (madeCells #[.int .u8 0] size)
  have b2 := Blk.new ((w.alloc (.cells #[.int .u64 x] 71)).alloc (.cells (madeCells #[.int .u8 0] size) 5)) 151 #[.slice (some ⟨w.heap.size + 1, 0, none⟩) size size]
  have b3 := Blk.new (((w.alloc (.cells #[.int .u64 x] 71)).alloc (.cells (madeCells #[.int .u8 0] size) 5)).alloc (.cells #[.slice (some ⟨w.heap.size + 1, 0, none⟩) size size] 151)) 151 #[.slice (some ⟨w.heap.size + 1, 0, none⟩) size size]
  simp only [World.size_alloc] at b1 b2 b3
  have hmade : madeCells #[.int .u8 0] size = byteCells (List.replicate size 0) := by
    apply Array.toList_inj.1
    rw [toList_madeCells_one]; simp [byteCells]
  rw [hmade] at b1 b2 b3 ⊢
  have hB0 := ((((Below.refl w.heap.size w).alloc (Nat.le_refl _) (.cells #[.int .u64 x] 71)).alloc (by simp) (.cells (byteCells (List.replicate size 0)) 5)).alloc (by simp; omega) (.cells #[.slice (some ⟨w.heap.size + 1, 0, none⟩) size size] 151)).alloc (by simp; omega) (.cells #[.slice (some ⟨w.heap.size + 1, 0, none⟩) size size] 151)
  refine wpIn_rangeFunc_ownG hro h1 (gf := 178) (lb := #[.pointer (some ⟨w.heap.size + 1 + 1 + 1, 0, none⟩)]) rfl h17 (enters_of Tryz.func178 (by kernel_rfl) rfl)
    (back_stops F (n - 1) h17 hro (by omega) (w.heap.size + 1 + 1 + 1) (w.heap.size + 1) 0 size size (by omega) _ (by simp) (by simp) (by rw [b3.cell]; rfl) ?hby) BackK.t (fun W l o o' q1 q2 q3 q4 => BackK.b (w := w) W l o o' (by simp at q1; omega) q2 q3 q4) (Below.refl _ _) (fun _ => rfl)
    (fun pre W => (Blk W w.heap.size 71 #[.int .u64 (putSt size x pre).2] ∧ Blk W (w.heap.size + 1) 5 (byteCells (putSt size x pre).1) ∧ Blk W (w.heap.size + 1 + 1) 151 #[.slice (some ⟨w.heap.size + 1, 0, none⟩) size size] ∧ Blk W (w.heap.size + 1 + 1 + 1) 151 #[.slice (some ⟨w.heap.size + 1, 0, none⟩) size size]) ∧ Below w.heap.size w W)
    (fun _ _ _ => False)
    (OwnFrom.and (Own.from (Own.and (blk_own _ _ _) (Own.and (blk_own _ _ _) (Own.and (blk_own _ _ _) (blk_own _ _ _)))) _) (ownFrom_below (Nat.le_refl _) (by simp; omega)))
    (fun _ _ _ _ _ hs _ _ => hs)
    ?h0
    (fun y => { tmps := #[.int .u64 x, .int .i64 size, .pointer (some ⟨w.heap.size, 0, none⟩), undef, .string ⟨#[]⟩, .pointer (some ⟨w.heap.size + 1 + 1, 0, none⟩), .int .i64 (y.1.val : Int), .int .i64 size, .bool (decide ((size : Int) < 1)), .bool (decide ((size : Int) < 1)), .int .i64 size, .bool (decide ((8 : Int) < size)), .bool (decide ((size : Int) < 1) || decide ((8 : Int) < size)), .int .i64 size, .slice (some ⟨w.heap.size + 1, 0, none⟩) size size, .slice (some ⟨w.heap.size + 1, 0, none⟩) size size, .func (.func 178) #[] #[.pointer (some ⟨w.heap.size + 1 + 1 + 1, 0, none⟩)], .int .i64 (y.1.val : Int), .int .u8 y.2.toNat, undef, undef, undef, undef, undef, undef, undef, undef, undef], defers := [] }) ?assign ?body ?done ?stop
  case hby => exact fun j hj => ⟨0, by rw [((b1.alloc _).alloc _).cell]; simp [byteCells, hj]⟩
  case h0 => exact ⟨⟨((b0.alloc _).alloc _).alloc _, (b1.alloc _).alloc _, b2.alloc _, b3⟩, hB0⟩
  case assign =>
    intro l y W K hK
    dsimp only [backEnc]
    gi_wp2
    exact hK
  case body =>
    rintro l pre ⟨i, v⟩ W ⟨⟨h1, h2, h3, h4⟩, hB⟩ hpl
    have c1 := h1.cell 0
    have c3 := h3.cell 0
    simp at c1 c3
    have f1 := h1.frozen 0
    have f2 := h2.frozen i.val
    have hi := i.isLt
    obtain ⟨v2, c2⟩ : ∃ v2, W.cell? ⟨w.heap.size + 1, i.val, none⟩ = some v2 := by
      rw [h2.cell]; exact ⟨_, Array.getElem?_eq_getElem (by simp [byteCells, putSt_len])⟩
    gi_wp2
    have hv : Value.int .u8 ((putSt size x pre).2 % 256 : Int) = .int .u8 (UInt8.ofNat (putSt size x pre).2).toNat := by simp
    have hB' := (hB.setCell (p := ⟨w.heap.size + 1, i.val, none⟩) (by simp) (.int .u8 ((putSt size x pre).2 % 256 : Int))).setCell (p := ⟨w.heap.size, 0, none⟩) (Nat.le_refl _) (.int .u64 ((putSt size x pre).2 / 256 : Int))
    have h1' := (h1.other (a := ⟨w.heap.size + 1, i.val, none⟩) (by simp) (.int .u8 ((putSt size x pre).2 % 256 : Int))).set 0 (.int .u64 ((putSt size x pre).2 / 256 : Int))
    have h2' := (h2.set i.val (.int .u8 ((putSt size x pre).2 % 256 : Int))).other (a := ⟨w.heap.size, 0, none⟩) (by simp; try omega) (.int .u64 ((putSt size x pre).2 / 256 : Int))
    have h3' := (h3.other (a := ⟨w.heap.size + 1, i.val, none⟩) (by simp; try omega) (.int .u8 ((putSt size x pre).2 % 256 : Int))).other (a := ⟨w.heap.size, 0, none⟩) (by simp; try omega) (.int .u64 ((putSt size x pre).2 / 256 : Int))
    have h4' := (h4.other (a := ⟨w.heap.size + 1, i.val, none⟩) (by simp; try omega) (.int .u8 ((putSt size x pre).2 % 256 : Int))).other (a := ⟨w.heap.size, 0, none⟩) (by simp; try omega) (.int .u64 ((putSt size x pre).2 / 256 : Int))
    refine ⟨((KeepsOthers.setCell _ _ _).trans (KeepsOthers.setCell _ _ _)).from _, ⟨fun _ => by rw [h4'.cell]; rfl, fun _ j hj => ?_⟩, ⟨?_, ?_, h3', h4'⟩, hB'⟩
    · refine ⟨((putSt size x pre).1.set i.val (UInt8.ofNat (putSt size x pre).2))[j]'(by simpa [putSt_len] using hj), ?_⟩
      rw [h2'.cell, hv]
      simp [byteCells, putSt_len, hj, List.getElem_set]
      split <;> simp_all
    · simpa [putSt_snoc, putStep] using h1'
    · have e : byteCells (putSt size x (pre ++ [(i, v)])).1 = (byteCells (putSt size x pre).1).setIfInBounds i.val (.int .u8 ((putSt size x pre).2 % 256 : Int)) := by
        rw [putSt_snoc, hv]; simp [putStep, byteCells, List.map_set]
      rw [e]; exact h2'
  case done =>
    rintro D ys W hD hys ⟨⟨h1, h2, h3, h4⟩, hB⟩ hK
    have c3 := h3.cell 0
    simp at c3
    have hcv := run_convert_bytes_back (P := Tryz.prog) W 151 9 5 ⟨w.heap.size + 1, 0, none⟩ size (putSt size x ys).1 Tryz.underlying151 Tryz.underlying5 Tryz.underlying9 (fun j hj => by
      have e : (Addr.add ⟨w.heap.size + 1, 0, none⟩ j) = ⟨w.heap.size + 1, j, none⟩ := by simp only [Addr.add]; split <;> simp_all
      rw [e, h2.cell j]; simp [byteCells, hj])
    rw [putSt_len] at hcv
    gi_wp2
    refine ⟨by simp, .inl ⟨_, _, rfl, run_takeDeferred hK, ?_⟩⟩
    exact ⟨_, results_tmp rfl _ _ _, ⟨ys, hys, rfl⟩, hB.trans (belowK_b (w := w) (Nat.le_refl _) W D _ _ (by simp at hD; omega) hK rfl rfl)⟩
  case stop =>
    rintro D c pre W _ _ h _
    exact h.elim
end Go.Proofs.YtjhnaeomaigimaaGreatDoor
set_option linter.unusedVariables false
namespace Go.Proofs.YtjhnaeomaigimaaGreatDoor
open Go.RowKit Go.Shelf
attribute [local go_sem] bs_mk bs_append bs_extract bs_size bs_toList bs_get

theorem put_bad (x size : Int) (w : World) (h : size < 1 ∨ 8 < size) :
    Calls Tryz.prog 98 #[.int .u64 x, .int .i64 size] w fun e w' => e = .returned (.string (bs [])) ∧ Below w.heap.size w w' := by
  rcases h with h | h
  · go_enter Tryz.func98, Tryz.ntmps98
    go_wp2
    go_ret
    exact ⟨rfl, (Below.refl _ _).alloc (Nat.le_refl _) _⟩
  · by_cases h0 : size < 1
    · omega
    · go_enter Tryz.func98, Tryz.ntmps98
      go_wp2
      go_ret
      exact ⟨rfl, (Below.refl _ _).alloc (Nat.le_refl _) _⟩
theorem put_ok (x size : Nat) (hx : x < 18446744073709551616) (hs : 1 ≤ size) (hs8 : size ≤ 8) (w : World) :
    Calls Tryz.prog 98 #[.int .u64 x, .int .i64 size] w fun e w' => e = .returned (.string (bs (be size x))) ∧ Below w.heap.size w w' :=
  (callsIn_wide (n := 3)).1 ((put_in .wide 3 trivial trivial trivial rfl (by omega) x size hx hs hs8 w).mono fun e w' ⟨⟨ys, hy, he⟩, hb⟩ => ⟨by rw [he, putSt_done _ _ _ hy]; rfl, hb⟩)
def putS (x : Nat) (size : Int) : List UInt8 := if 1 ≤ size ∧ size ≤ 8 then be size.toNat x else []
theorem put_any (x size : Int) (h0 : 0 ≤ x) (hx : x < 18446744073709551616) (w : World) :
    Calls Tryz.prog 98 #[.int .u64 x, .int .i64 size] w fun e w' => e = .returned (.string (bs (putS x.toNat size))) ∧ Below w.heap.size w w' := by
  obtain ⟨x, rfl⟩ := Int.eq_ofNat_of_zero_le h0
  by_cases h : 1 ≤ size ∧ size ≤ 8
  · obtain ⟨k, rfl⟩ := Int.eq_ofNat_of_zero_le (show 0 ≤ size by omega)
    refine (put_ok x k (by omega) (by omega) (by omega) w).mono ?_
    rintro e w' ⟨rfl, hb⟩
    exact ⟨by rw [putS, if_pos h]; simp, hb⟩
  · refine (put_bad x size w (by omega)).mono ?_
    rintro e w' ⟨rfl, hb⟩
    exact ⟨by rw [putS, if_neg h], hb⟩
theorem over_bad (s t : List UInt8) (k : Int) (w : World) (hs : s.length ≤ maxLen) (ht : t.length ≤ maxLen) (h : k < 0 ∨ (s.length : Int) - t.length < k) :
    Calls Tryz.prog 104 #[.string (bs s), .int .i64 k, .string (bs t)] w fun e w' => e = .returned (.tuple #[.string (bs []), .int .i64 10]) ∧ w = w' := by
  unfold maxLen at hs ht
  rcases h with h | h
  · go_enter Tryz.func104, Tryz.ntmps104
    go_wp2
    go_ret2
    exact ⟨rfl, rfl⟩
  · by_cases h0 : k < 0
    · go_enter Tryz.func104, Tryz.ntmps104
      go_wp2
      go_ret2
      exact ⟨rfl, rfl⟩
    · go_enter Tryz.func104, Tryz.ntmps104
      go_wp2
      go_ret2
      exact ⟨rfl, rfl⟩
theorem over_ok (s t : List UInt8) (k : Int) (w : World) (hs : s.length ≤ maxLen) (ht : t.length ≤ maxLen) (h0 : 0 ≤ k) (h : k ≤ (s.length : Int) - t.length) :
    Calls Tryz.prog 104 #[.string (bs s), .int .i64 k, .string (bs t)] w fun e w' => e = .returned (.tuple #[.string (bs (over s k.toNat t)), .int .i64 0]) ∧ Below w.heap.size w w' := by
  unfold maxLen at hs ht
  obtain ⟨n, rfl⟩ := Int.eq_ofNat_of_zero_le h0
  go_enter Tryz.func104, Tryz.ntmps104
  go_wp2
  go_quiet (fail)
  go_wp2
  go_ret2
  exact ⟨by simp [over], drewN_below _ _⟩
theorem badRune_at (w : World) : PredAt Tryz.prog 164 #[] encR badRune w := fun W r _ => by
  unfold FnGives
  by_cases h1 : (r : Int) < 33
  · have h2 : badRune r = true := by simp [badRune]; omega
    go_enter Tryz.func164, Tryz.ntmps164
    go_wp2
    go_ret
    exact ⟨by first | rfl | (rw [h2]; rfl), 0, rfl⟩
  · by_cases h3 : (126 : Int) < r
    · have h2 : badRune r = true := by simp [badRune]; omega
      go_enter Tryz.func164, Tryz.ntmps164
      go_wp2
      go_ret
      exact ⟨by first | rfl | (rw [h2]; rfl), 0, rfl⟩
    · have h2 : badRune r = false := by simp [badRune]; omega
      go_enter Tryz.func164, Tryz.ntmps164
      go_wp2
      go_ret
      exact ⟨by first | rfl | (rw [h2]; rfl), 0, rfl⟩
theorem named_any (l : List UInt8) (hl : l.length ≤ maxLen) (w : World) :
    Calls Tryz.prog 132 #[.string (bs l)] w fun e w' => e = .returned (.bool (nameOk l)) ∧ Below w.heap.size w w' := by
  unfold maxLen at hl
  by_cases h1 : l = []
  · subst h1
    have hk : nameOk [] = false := rfl
    go_enter Tryz.func132, Tryz.ntmps132
    go_wp2
    go_ret
    exact ⟨rfl, Below.refl _ _⟩
  · have h1' : l.isEmpty = false := by simpa using h1
    by_cases h2 : l.length ≤ 8
    · have h2' : decide ((l.length : Int) ≤ 8) = true := by simp; omega
      go_enter Tryz.func132, Tryz.ntmps132
      go_wp2_with (go_at_call 163; refine (Tryz.strings_IndexFunc 164 #[] (enters_of Tryz.func164 (by kernel_rfl) rfl) badRune _ _ (badRune_at _)).mono ?_; rintro e w' ⟨rfl, hb⟩)
      go_ret
      refine ⟨?_, hb⟩
      have hidx := idx_all l
      refine congrArg (fun b => Ending.returned (.bool b)) ?_
      simp only [nameOk, h1', Bool.not_false, Bool.true_and, h2, decide_true]
      rw [Bool.eq_iff_iff]
      simpa using hidx
    · have h2' : decide ((l.length : Int) ≤ 8) = false := by simp; omega
      have hk : nameOk l = false := by simp [nameOk, h2]
      go_enter Tryz.func132, Tryz.ntmps132
      go_wp2
      go_ret
      exact ⟨by rw [hk]; rfl, Below.refl _ _⟩
theorem repeat0 (c : Nat) : Lib.repeatL [0] c = List.replicate c 0 := by
  induction c with
  | zero => simp [Lib.repeatL]
  | succ c ih => simp [Lib.repeatL, ih, List.replicate_succ]
theorem pad_bad (l : List UInt8) (hl : l.length ≤ maxLen) (k : Int) (h : k < l.length ∨ 65536 < k) (w : World) :
    Calls Tryz.prog 99 #[.string (bs l), .int .i64 k] w fun e w' => e = .returned (.tuple #[.string (bs []), .int .i64 11]) ∧ w = w' := by
  unfold maxLen at hl
  rcases h with h | h
  · go_enter Tryz.func99, Tryz.ntmps99
    go_wp2
    go_ret2
    exact ⟨rfl, rfl⟩
  · by_cases h0 : k < l.length
    · go_enter Tryz.func99, Tryz.ntmps99
      go_wp2
      go_ret2
      exact ⟨rfl, rfl⟩
    · go_enter Tryz.func99, Tryz.ntmps99
      go_wp2
      go_ret2
      exact ⟨rfl, rfl⟩
theorem pad_ok (l : List UInt8) (hl : l.length ≤ maxLen) (k : Int) (h : (l.length : Int) ≤ k) (h2 : k ≤ 65536) (w : World) :
    Calls Tryz.prog 99 #[.string (bs l), .int .i64 k] w fun e w' => e = .returned (.tuple #[.string (bs (l ++ List.replicate (k.toNat - l.length) 0)), .int .i64 0]) ∧ Below w.heap.size w w' := by
  unfold maxLen at hl
  obtain ⟨k, rfl⟩ := Int.eq_ofNat_of_zero_le (show 0 ≤ k by omega)
  have hrep := fun W => Tryz.strings_Repeat (bs [0]) (k - l.length) W (by omega) (by rw [bs_size]; simp; omega)
  rw [show ((k - l.length : Nat) : Int) = (k : Int) - l.length by omega, bs_list, repeat0, bs_mk] at hrep
  go_enter Tryz.func99, Tryz.ntmps99
  go_wp2_with (go_at_call 93; refine (hrep _).mono ?_; rintro e w' ⟨rfl, hb⟩)
  go_ret2
  refine ⟨?_, hb⟩
  simp
theorem name_ok (l : List UInt8) (h : nameOk l = true) (w : World) :
    Calls Tryz.prog 79 #[.string (bs l)] w fun e w' => e = .returned (.tuple #[.string (bs (l ++ List.replicate (8 - l.length) 0)), .int .i64 0]) ∧ Below w.heap.size w w' := by
  have hl : l.length ≤ 8 := by simp [nameOk] at h; exact h.1.2
  have hm : l.length ≤ maxLen := by unfold maxLen; omega
  go_enter Tryz.func79, Tryz.ntmps79
  go_wp2_with (first | (go_at_call 132; refine (named_any l hm _).mono ?_; rintro e w' ⟨rfl, hb⟩; rw [h]) | (go_at_call 99; refine (pad_ok l hm 8 (by omega) (by omega) _).mono ?_; rintro e w2 ⟨rfl, hb2⟩))
  go_ret2
  exact ⟨rfl, bt hb hb2⟩
theorem name_bad (l : List UInt8) (hm : l.length ≤ maxLen) (h : nameOk l = false) (w : World) :
    Calls Tryz.prog 79 #[.string (bs l)] w fun e w' => e = .returned (.tuple #[.string (bs []), .int .i64 19]) ∧ Below w.heap.size w w' := by
  go_enter Tryz.func79, Tryz.ntmps79
  go_wp2_with (go_at_call 132; refine (named_any l hm _).mono ?_; rintro e w' ⟨rfl, hb⟩; rw [h])
  go_ret2
  exact ⟨rfl, hb⟩
end Go.Proofs.YtjhnaeomaigimaaGreatDoor
set_option linter.unusedVariables false
namespace Go.Proofs.YtjhnaeomaigimaaGreatDoor
open Go.RowKit Go.Shelf
attribute [local go_sem] bs_mk bs_append bs_extract bs_size bs_toList bs_get

/-- The world behind '[]byte(s)'. -/
theorem bytesWorld_facts (w : World) (e : TypeId) (l : List UInt8) : Below w.heap.size w (Lib.bytesWorld w e (bs l)) ∧ (Lib.bytesWorld w e (bs l)).heap.size = w.heap.size + 1 ∧
    ∀ j (hj : j < l.length), (Lib.bytesWorld w e (bs l)).cell? ⟨w.heap.size, j, none⟩ = some (.int .u8 l[j].toNat) := by
  refine ⟨⟨rfl, rfl, rfl, by rw [Lib.bytesWorld_size]; omega, fun k hk => Lib.bytesWorld_at_old w e _ k hk⟩, Lib.bytesWorld_size w e _, fun j hj => ?_⟩
  rw [Lib.bytesWorld_cell w e (bs l) j (by rw [bs_size]; exact hj), bs_list]
  simp [hj]
def takeR (l : List UInt8) (k : Int) : Nat × List UInt8 × Int := if k < 1 ∨ 8 < k then (0, [], 25) else if (l.length : Int) < k then (0, [], 22) else (un (l.take k.toNat), l.drop k.toNat, 0)
def padR (l : List UInt8) (k : Int) : List UInt8 × Int := if k < l.length ∨ 65536 < k then ([], 11) else (l ++ List.replicate (k.toNat - l.length) 0, 0)
theorem un_bound (l : List UInt8) (k : Nat) (hk : k ≤ 8) : un (l.take k) < 256 ^ k := by
  refine Nat.lt_of_lt_of_le (un_lt _) (Nat.pow_le_pow_right (by omega) (by simp; omega))
theorem un_take_succ (l : List UInt8) (j : Nat) (h : j < l.length) : un (l.take (j + 1)) = un (l.take j) * 256 + l[j].toNat := by
  rw [List.take_succ_eq_append_getElem h, un_snoc]
theorem un_byte (l : List UInt8) (j : Nat) (hj : j < 8) : un (l.take j) < 72057594037927936 := by
  refine Nat.lt_of_lt_of_le (un_bound l j (by omega)) ?_
  refine Nat.le_trans (Nat.pow_le_pow_right (by omega) (show j ≤ 7 by omega)) (by omega)
theorem bits_or8 (a b : Nat) (ha : a < 72057594037927936) (hb : b < 256) : bits .or .u64 ((a : Int) * 256) (b : Int) = ((a * 256 + b : Nat) : Int) := by
  have e : (a : Int) * 256 = ((a * 256 : Nat) : Int) := by omega
  rw [e, u64_or_nat _ _ (by omega) (by omega)]
  have := Nat.two_pow_add_eq_or_of_lt (i := 8) (b := b) (by omega) a
  rw [Nat.mul_comm] at this
  simp only [Nat.reducePow] at this
  rw [← this]
theorem take_bad (l : List UInt8) (hl : l.length ≤ maxLen) (k : Int) (h : k < 1 ∨ 8 < k) (w : World) :
    Calls Tryz.prog 112 #[.string (bs l), .int .i64 k] w fun e w' => e = .returned (.tuple #[.int .u64 0, .string (bs []), .int .i64 25]) ∧ w = w' := by
  unfold maxLen at hl
  rcases h with h | h
  · go_enter Tryz.func112, Tryz.ntmps112
    go_wp2
    go_ret3
    exact ⟨rfl, rfl⟩
  · have h0 : ¬ k < 1 := by omega
    go_enter Tryz.func112, Tryz.ntmps112
    go_wp2
    go_ret3
    exact ⟨rfl, rfl⟩
theorem take_short (l : List UInt8) (hl : l.length ≤ maxLen) (k : Int) (h1 : 1 ≤ k) (h2 : k ≤ 8) (h : (l.length : Int) < k) (w : World) :
    Calls Tryz.prog 112 #[.string (bs l), .int .i64 k] w fun e w' => e = .returned (.tuple #[.int .u64 0, .string (bs []), .int .i64 22]) ∧ w = w' := by
  unfold maxLen at hl
  go_enter Tryz.func112, Tryz.ntmps112
  go_wp2
  go_ret3
  exact ⟨rfl, rfl⟩
set_option maxHeartbeats 400000 in
theorem take_ok (l : List UInt8) (hl : l.length ≤ maxLen) (k : Int) (h1 : 1 ≤ k) (h2 : k ≤ 8) (h : k ≤ (l.length : Int)) (w : World) :
    Calls Tryz.prog 112 #[.string (bs l), .int .i64 k] w fun e w' => e = .returned (.tuple #[.int .u64 (un (l.take k.toNat)), .string (bs (l.drop k.toNat)), .int .i64 0]) ∧ Below w.heap.size w w' := by
  unfold maxLen at hl
  obtain ⟨k, rfl⟩ := Int.eq_ofNat_of_zero_le (show 0 ≤ k by omega)
  rw [Int.toNat_natCast]
  have hcv := fun (W : World) => Lib.run_convert_string_bytes (P := Tryz.prog) W 9 151 5 (bs (l.take k)) Tryz.underlying9 Tryz.underlying151 Tryz.underlying5
  simp only [bs_size, List.length_take, Nat.min_eq_left (show k ≤ l.length by omega)] at hcv
  obtain ⟨hb1, hsz, hcell⟩ := bytesWorld_facts w 5 (l.take k)
  have Hcell := hid hcell; clear hcell
  have Hsz := hid hsz; clear hsz
  go_enter Tryz.func112, Tryz.ntmps112
  go_wp2_with fail
  generalize Lib.bytesWorld w 5 (bs (l.take k)) = w1 at *
  clear hcv
  go_loop [7, 27] (fun n i => ∃ j : Nat, j ≤ k ∧ i = .int .i64 j ∧ n = .int .u64 (un (l.take j))) (fun _ i => k - (intOf i).toNat)
  case atStart => exact ⟨0, by omega, rfl, rfl⟩
  case round =>
    obtain ⟨j, hj, rfl, rfl⟩ := hrel
    by_cases hlt : j < k
    · have hc := Hcell.out j (by simp; omega)
      simp only [List.getElem_take] at hc
      have hu := un_byte l j (by omega)
      have hby := (l[j]'(by omega)).toNat_lt
      have Hun := hid (un_take_succ l j (by omega))
      go_wp2_with fail
      go_round
      case rel => exact ⟨j + 1, by omega, by go_num, by rw [Hun.out, bits_or8 _ _ hu hby]⟩
      case measure => simp [intOf]; omega
    · obtain rfl : j = k := by omega
      go_wp2_with fail
      go_quiet (fail)
      go_wp2
      go_ret3
      exact ⟨rfl, below_drewN hb1 _⟩
theorem rtake_bad (l : List UInt8) (hl : l.length ≤ maxLen) (k : Int) (h : k < 1 ∨ 8 < k) (w : World) :
    Calls Tryz.prog 61 #[.string (bs l), .int .i64 k] w fun e w' => e = .returned (.tuple #[.int .u64 0, .string (bs []), .int .i64 25]) ∧ w = w' := by
  unfold maxLen at hl
  rcases h with h | h
  · go_enter Tryz.func61, Tryz.ntmps61
    go_wp2
    go_ret3
    exact ⟨rfl, rfl⟩
  · have h0 : ¬ k < 1 := by omega
    go_enter Tryz.func61, Tryz.ntmps61
    go_wp2
    go_ret3
    exact ⟨rfl, rfl⟩
theorem rtake_short (l : List UInt8) (hl : l.length ≤ maxLen) (k : Int) (h1 : 1 ≤ k) (h2 : k ≤ 8) (h : (l.length : Int) < k) (w : World) :
    Calls Tryz.prog 61 #[.string (bs l), .int .i64 k] w fun e w' => e = .returned (.tuple #[.int .u64 0, .string (bs []), .int .i64 22]) ∧ w = w' := by
  unfold maxLen at hl
  go_enter Tryz.func61, Tryz.ntmps61
  go_wp2
  go_ret3
  exact ⟨rfl, rfl⟩
set_option maxHeartbeats 400000 in
theorem rtake_ok (l : List UInt8) (hl : l.length ≤ maxLen) (k : Int) (h1 : 1 ≤ k) (h2 : k ≤ 8) (h : k ≤ (l.length : Int)) (w : World) :
    Calls Tryz.prog 61 #[.string (bs l), .int .i64 k] w fun e w' => e = .returned (.tuple #[.int .u64 (un (l.take k.toNat)), .string (bs (l.drop k.toNat)), .int .i64 0]) ∧ Below w.heap.size w w' := by
  unfold maxLen at hl
  obtain ⟨k, rfl⟩ := Int.eq_ofNat_of_zero_le (show 0 ≤ k by omega)
  rw [Int.toNat_natCast]
  go_enter Tryz.func61, Tryz.ntmps61
  go_wp2_with fail
  go_loop [7, 8] (fun n i => ∃ j : Nat, j ≤ k ∧ i = .int .i64 j ∧ n = .int .u64 (un (l.take j))) (fun _ i => k - (intOf i).toNat)
  case atStart => exact ⟨0, by omega, rfl, rfl⟩
  case round =>
    obtain ⟨j, hj, rfl, rfl⟩ := hrel
    by_cases hlt : j < k
    · have hu := un_byte l j (by omega)
      have hjl : j < l.length := by omega
      have hby := (l[j]'(by omega)).toNat_lt
      have Hun := hid (un_take_succ l j (by omega))
      go_wp2_with fail
      go_round
      case rel => exact ⟨j + 1, by omega, by go_num, by rw [Hun.out]; go_num⟩
      case measure => simp [intOf]; omega
    · obtain rfl : j = k := by omega
      go_wp2_with fail
      try go_quiet (fail)
      go_wp2
      go_ret3
      exact ⟨by simp, drewN_below _ _⟩
theorem rpad_bad (l : List UInt8) (hl : l.length ≤ maxLen) (k : Int) (h : k < l.length ∨ 65536 < k) (w : World) :
    Calls Tryz.prog 101 #[.string (bs l), .int .i64 k] w fun e w' => e = .returned (.tuple #[.string (bs []), .int .i64 11]) ∧ w = w' := by
  unfold maxLen at hl
  rcases h with h | h
  · go_enter Tryz.func101, Tryz.ntmps101
    go_wp2
    go_ret2
    exact ⟨rfl, rfl⟩
  · by_cases h0 : k < l.length
    · go_enter Tryz.func101, Tryz.ntmps101
      go_wp2
      go_ret2
      exact ⟨rfl, rfl⟩
    · go_enter Tryz.func101, Tryz.ntmps101
      go_wp2
      go_ret2
      exact ⟨rfl, rfl⟩
set_option maxRecDepth 100000 in
theorem rpad_ok (l : List UInt8) (hl : l.length ≤ maxLen) (k : Int) (h : (l.length : Int) ≤ k) (h2 : k ≤ 65536) (w : World) :
    Calls Tryz.prog 101 #[.string (bs l), .int .i64 k] w fun e w' => e = .returned (.tuple #[.string (bs (l ++ List.replicate (k.toNat - l.length) 0)), .int .i64 0]) ∧ Below w.heap.size w w' := by
  unfold maxLen at hl
  obtain ⟨k, rfl⟩ := Int.eq_ofNat_of_zero_le (show 0 ≤ k by omega)
  rw [Int.toNat_natCast]
  obtain ⟨i0, hi, hz0, hz1, hz2⟩ := info_parts Tryz.infoByte
  have hmk := fun W => run_make_rowN (P := Tryz.prog) 151 5 i0 (.int .u8 0) Tryz.underlying151 hi hz0 .i64 .i64 (k - l.length) (k - l.length) (Nat.le_refl _) (by rw [hz2]; omega) (by omega) W
  rw [hz1, Nat.mul_one, show ((k - l.length : Nat) : Int) = (k : Int) - l.length by omega] at hmk
  have hcv := run_convert_bytes_back (P := Tryz.prog) (w.alloc (.cells (madeCells #[.int .u8 0] (k - l.length)) 5)) 151 9 5 ⟨w.heap.size, 0, none⟩ (k - l.length) (List.replicate (k - l.length) 0) Tryz.underlying151 Tryz.underlying5 Tryz.underlying9 (fun j hj => by
    have hj' : j < k - l.length := by simpa using hj
    have e : (Addr.add ⟨w.heap.size, 0, none⟩ j) = ⟨w.heap.size, j, none⟩ := by simp only [Addr.add]; split <;> simp_all
    rw [e, (Blk.new w _ _).cell j, ← Array.getElem?_toList, toList_madeCells_one]; simp [hj'])
  rw [List.length_replicate, bs_mk] at hcv
  go_enter Tryz.func101, Tryz.ntmps101
  go_wp2_with fail
  try go_quiet (fail)
  try go_wp2
  go_ret2
  exact ⟨by simp, (Below.refl _ _).alloc (Nat.le_refl _) _⟩
theorem rput_bad (x size : Int) (w : World) (h : size < 1 ∨ 8 < size) :
    Calls Tryz.prog 100 #[.int .u64 x, .int .i64 size] w fun e w' => e = .returned (.string (bs [])) ∧ w = w' := by
  rcases h with h | h
  · go_enter Tryz.func100, Tryz.ntmps100
    go_wp2
    go_ret
    exact ⟨rfl, rfl⟩
  · have h0 : ¬ size < 1 := by omega
    go_enter Tryz.func100, Tryz.ntmps100
    go_wp2
    go_ret
    exact ⟨rfl, rfl⟩
set_option maxRecDepth 100000 in
theorem rput_ok (x k : Nat) (hx : x < 18446744073709551616) (h1 : 1 ≤ k) (h2 : k ≤ 8) (w : World) :
    Calls Tryz.prog 100 #[.int .u64 x, .int .i64 k] w fun e w' => e = .returned (.string (bs (be k x))) ∧ Below w.heap.size w w' := by
  obtain ⟨i0, hi, hz0, hz1, hz2⟩ := info_parts Tryz.infoByte
  have hmk := fun W => run_make_rowN (P := Tryz.prog) 151 5 i0 (.int .u8 0) Tryz.underlying151 hi hz0 .i64 .i64 k k (Nat.le_refl _) (by rw [hz2]; omega) (by omega) W
  rw [hz1, Nat.mul_one] at hmk
  go_enter Tryz.func100, Tryz.ntmps100
  go_wp2_with fail
  have b1 := Blk.new w 5 (madeCells #[.int .u8 0] k)
  have hB0 := (Below.refl w.heap.size w).alloc (Nat.le_refl _) (.cells (madeCells #[.int .u8 0] k) 5)
  have hmade : madeCells #[.int .u8 0] k = byteCells (List.replicate k 0) := by
    apply Array.toList_inj.1
    rw [toList_madeCells_one]; simp [byteCells]
  rw [hmade] at b1 hB0
  simp only [Value.cells] at *
  rw [hmade]
  go_loopw [6] (fun i W => ∃ j : Nat, j ≤ k ∧ i = .int .i64 j ∧ Blk W w.heap.size 5 (byteCells (List.replicate (k - j) 0 ++ be j x)) ∧ Below w.heap.size w W) (fun i _ => k - (intOf i).toNat)
  case atStart => exact ⟨0, by omega, rfl, by simpa [be] using b1, hB0⟩
  case round =>
    obtain ⟨j, hj, rfl, hblk, hB⟩ := hrel
    by_cases hlt : j < k
    · have f2 := hblk.frozen (k - 1 - j)
      have c2 : ∃ v2, wr.cell? ⟨w.heap.size, k - 1 - j, none⟩ = some v2 := by
        rw [hblk.cell]; exact ⟨_, Array.getElem?_eq_getElem (by simp [byteCells, be_length]; omega)⟩
      obtain ⟨v2, c2⟩ := c2
      clear b1 hB0 hmade hmk
      go_wp2_with fail
      go_roundw
      case rel =>
        refine ⟨j + 1, by omega, by go_num, ?_, hB.setCell (p := ⟨w.heap.size, k - 1 - j, none⟩) (Nat.le_refl _) _⟩
        have h := hblk.set (k - 1 - j) (.int .u8 ((x : Int) / 2 ^ (8 * j) % 256))
        have e : (byteCells (List.replicate (k - j) 0 ++ be j x)).setIfInBounds (k - 1 - j) (.int .u8 ((x : Int) / 2 ^ (8 * j) % 256)) = byteCells (List.replicate (k - (j + 1)) 0 ++ be (j + 1) x) := by
          have e1 : k - j = (k - (j + 1)) + 1 := by omega
          have e2 : Value.int .u8 ((x : Int) / 2 ^ (8 * j) % 256) = Value.int .u8 (UInt8.ofNat (x / 256 ^ j)).toNat := by
            have e0 : (2 : Int) ^ (8 * j) = ((256 ^ j : Nat) : Int) := by
              rw [show (256 : Nat) = 2 ^ 8 from rfl, ← Nat.pow_mul, Int.natCast_pow]; rfl
            rw [e0, ← Int.natCast_ediv]
            simp
          rw [e2, e1, List.replicate_succ', be, byteCells, byteCells, List.append_assoc, List.map_append, List.setIfInBounds_toArray, List.set_append_right _ _ (by simp; omega)]
          have e3 : k - 1 - j - (List.map (fun b : UInt8 => Value.int .u8 b.toNat) (List.replicate (k - (j + 1)) 0)).length = 0 := by rw [List.length_map, List.length_replicate]; omega
          rw [e3]
          simp
        rw [e] at h
        exact h
      case measure => simp [intOf]; omega
    · obtain rfl : j = k := by omega
      have hcv := run_convert_bytes_back (P := Tryz.prog) wr 151 9 5 ⟨w.heap.size, 0, none⟩ j (be j x) Tryz.underlying151 Tryz.underlying5 Tryz.underlying9 (fun i hi => by
        have e : (Addr.add ⟨w.heap.size, 0, none⟩ i) = ⟨w.heap.size, i, none⟩ := by simp only [Addr.add]; split <;> simp_all
        rw [e, hblk.cell i]; simp [byteCells, hi])
      rw [be_length, bs_mk] at hcv
      go_wp2_with fail
      go_ret
      exact ⟨rfl, hB⟩
theorem take_any (l : List UInt8) (hl : l.length ≤ maxLen) (k : Int) (w : World) :
    Calls Tryz.prog 112 #[.string (bs l), .int .i64 k] w fun e w' => e = .returned (.tuple #[.int .u64 (takeR l k).1, .string (bs (takeR l k).2.1), .int .i64 (takeR l k).2.2]) ∧ Below w.heap.size w w' := by
  by_cases h : k < 1 ∨ 8 < k
  · refine (take_bad l hl k h w).mono ?_
    rintro e w' ⟨rfl, rfl⟩
    exact ⟨by rw [takeR, if_pos h]; rfl, Below.refl _ _⟩
  · by_cases h2 : (l.length : Int) < k
    · refine (take_short l hl k (by omega) (by omega) h2 w).mono ?_
      rintro e w' ⟨rfl, rfl⟩
      exact ⟨by rw [takeR, if_neg h, if_pos h2]; rfl, Below.refl _ _⟩
    · refine (take_ok l hl k (by omega) (by omega) (by omega) w).mono ?_
      rintro e w' ⟨rfl, hb⟩
      exact ⟨by rw [takeR, if_neg h, if_neg h2], hb⟩
theorem pad_any (l : List UInt8) (hl : l.length ≤ maxLen) (k : Int) (w : World) :
    Calls Tryz.prog 99 #[.string (bs l), .int .i64 k] w fun e w' => e = .returned (.tuple #[.string (bs (padR l k).1), .int .i64 (padR l k).2]) ∧ Below w.heap.size w w' := by
  by_cases h : k < l.length ∨ 65536 < k
  · refine (pad_bad l hl k h w).mono ?_
    rintro e w' ⟨rfl, rfl⟩
    exact ⟨by rw [padR, if_pos h], Below.refl _ _⟩
  · refine (pad_ok l hl k (by omega) (by omega) w).mono ?_
    rintro e w' ⟨rfl, hb⟩
    exact ⟨by rw [padR, if_neg h], hb⟩
theorem rtake_any (l : List UInt8) (hl : l.length ≤ maxLen) (k : Int) (w : World) :
    Calls Tryz.prog 61 #[.string (bs l), .int .i64 k] w fun e w' => e = .returned (.tuple #[.int .u64 (takeR l k).1, .string (bs (takeR l k).2.1), .int .i64 (takeR l k).2.2]) ∧ Below w.heap.size w w' := by
  by_cases h : k < 1 ∨ 8 < k
  · refine (rtake_bad l hl k h w).mono ?_
    rintro e w' ⟨rfl, rfl⟩
    exact ⟨by rw [takeR, if_pos h]; rfl, Below.refl _ _⟩
  · by_cases h2 : (l.length : Int) < k
    · refine (rtake_short l hl k (by omega) (by omega) h2 w).mono ?_
      rintro e w' ⟨rfl, rfl⟩
      exact ⟨by rw [takeR, if_neg h, if_pos h2]; rfl, Below.refl _ _⟩
    · refine (rtake_ok l hl k (by omega) (by omega) (by omega) w).mono ?_
      rintro e w' ⟨rfl, hb⟩
      exact ⟨by rw [takeR, if_neg h, if_neg h2], hb⟩
theorem rpad_any (l : List UInt8) (hl : l.length ≤ maxLen) (k : Int) (w : World) :
    Calls Tryz.prog 101 #[.string (bs l), .int .i64 k] w fun e w' => e = .returned (.tuple #[.string (bs (padR l k).1), .int .i64 (padR l k).2]) ∧ Below w.heap.size w w' := by
  by_cases h : k < l.length ∨ 65536 < k
  · refine (rpad_bad l hl k h w).mono ?_
    rintro e w' ⟨rfl, rfl⟩
    exact ⟨by rw [padR, if_pos h], Below.refl _ _⟩
  · refine (rpad_ok l hl k (by omega) (by omega) w).mono ?_
    rintro e w' ⟨rfl, hb⟩
    exact ⟨by rw [padR, if_neg h], hb⟩
theorem rput_any (x size : Int) (h0 : 0 ≤ x) (hx : x < 18446744073709551616) (w : World) :
    Calls Tryz.prog 100 #[.int .u64 x, .int .i64 size] w fun e w' => e = .returned (.string (bs (putS x.toNat size))) ∧ Below w.heap.size w w' := by
  obtain ⟨x, rfl⟩ := Int.eq_ofNat_of_zero_le h0
  by_cases h : 1 ≤ size ∧ size ≤ 8
  · obtain ⟨k, rfl⟩ := Int.eq_ofNat_of_zero_le (show 0 ≤ size by omega)
    refine (rput_ok x k (by omega) (by omega) (by omega) w).mono ?_
    rintro e w' ⟨rfl, hb⟩
    exact ⟨by rw [putS, if_pos h]; simp, hb⟩
  · refine (rput_bad x size w (by omega)).mono ?_
    rintro e w' ⟨rfl, rfl⟩
    exact ⟨by rw [putS, if_neg h], Below.refl _ _⟩
end Go.Proofs.YtjhnaeomaigimaaGreatDoor
