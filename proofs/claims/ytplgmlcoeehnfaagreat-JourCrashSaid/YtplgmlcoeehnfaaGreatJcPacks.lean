/- 'slices.Backward' over bytes, and 'pack.Put': a number as bytes, the highest first. Package pack, function by function: what each hands back; nothing that lay in memory has turned. 'pack.Take', and the document's answers 'Put', 'Take', 'Pad'. -/
import Derived.Test.YtplgmlcoeehnfaaGreatJcPackLaw
import Derived.Test.YtplgmlcoeehnfaaGreatRows
import Derived.Test.YtplgmlcoeehnfaaGreatShelf
import Derived.Lib.ConvBytes
set_option linter.unusedVariables false
namespace Go.Proofs.YtplgmlcoeehnfaaGreat
open Go.RowKit Go.Shelf
attribute [local go_sem] Oper.semAt_some

/-- The slice's cells are bytes. -/
def BytesIn (g off len : Nat) (W : World) : Prop := ∀ j, j < len → ∃ v : UInt8, W.cell? ⟨g, off + j, none⟩ = some (.int .u8 v.toNat)
/-- What a round keeps. -/
def BackK (Bs : Nat) (sv : Value) (g off len : Nat) (W W' : World) : Prop :=
  (W.cell? ⟨Bs, 0, none⟩ = some sv → W'.cell? ⟨Bs, 0, none⟩ = some sv) ∧ (BytesIn g off len W → BytesIn g off len W')
theorem BackK.t {Bs : Nat} {sv : Value} {g off len : Nat} {A B C : World} (h : BackK Bs sv g off len A B) (k : BackK Bs sv g off len B C) : BackK Bs sv g off len A C :=
  ⟨fun x => k.1 (h.1 x), fun x => k.2 (h.2 x)⟩
theorem BackK.b {Bs : Nat} {sv : Value} {g off len : Nat} {w : World} (W : World) (l : Nat) (o o' : Obj) (_ : w.heap.size ≤ l) (h : W.heap[l]? = some o) (hc : o.isCells = false) (_ : o.isWalk = false) : BackK Bs sv g off len W (W.putObj l o') :=
  ⟨fun x => cell_kept x (grownBy_putObj' W l o') (fun r e => by cases e; exact ⟨_, h, hc⟩),
   fun x j hj => by obtain ⟨v, hv⟩ := x j hj; exact ⟨v, cell_kept hv (grownBy_putObj' W l o') (fun r e => by cases e; exact ⟨_, h, hc⟩)⟩⟩
def backEnc (len : Nat) (x : Fin len × UInt8) : Array Value := #[.int .i64 (x.1.val : Int), .int .u8 x.2.toNat]

set_option maxRecDepth 100000 in
set_option maxHeartbeats 2000000 in
theorem back1_in (F : Fence) (n : Nat) (h7 : F.fn 221) (hro : F.round = none) (hn : 1 ≤ n) (l Bs g off len cap : Nat) (hreach : len ≤ 140737488351232)
    (J Jx : List (Fin len × UInt8) → World → Prop)
    (hY : ∀ pre x W, J pre W → pre.length < len → YieldAt F (n - 1) Tryz.prog l (backEnc len x) W fun e W' =>
      (e = .returned (.bool true) ∧ J (pre ++ [x]) W' ∧ BackK Bs (.slice (some ⟨g, off, none⟩) len cap) g off len W W') ∨ (e = .returned (.bool false) ∧ Jx (pre ++ [x]) W'))
    (W : World) (hBs : W.cell? ⟨Bs, 0, none⟩ = some (.slice (some ⟨g, off, none⟩) len cap)) (hc : BytesIn g off len W) (h0 : J [] W) :
    CallsIn F n Tryz.prog 221 #[.func (.yield l) #[] #[], .pointer (some ⟨Bs, 0, none⟩)] W fun e W' => (∃ v, e = .returned v) ∧
      ((∃ ys, ys.map (fun y => y.1.val) = (List.range len).reverse ∧ J ys W') ∨ (∃ pre, True ∧ Jx pre W')) := by
  refine callsIn_of_wp Tryz.func221 rfl h7 ?_ hro
  simp only [Tryz.ntmps221, List.size_toArray, List.length_cons, List.length_nil, Nat.reduceAdd, Nat.reduceSub, Array.replicate_succ, Array.replicate_zero, List.push_toArray, List.append_toArray, List.nil_append, List.cons_append]
  gi_wp2
  gi_loopw [3] (fun i wr => ∃ (pre : List (Fin len × UInt8)), pre.length ≤ len ∧ i = .int .i64 ((len : Int) - 1 - pre.length) ∧ Hid (pre.map (fun y => y.1.val) = ((List.range len).reverse).take pre.length) ∧ J pre wr ∧ BytesIn g off len wr ∧ wr.cell? ⟨Bs, 0, none⟩ = some (.slice (some ⟨g, off, none⟩) len cap))
    (fun i _ => (intOf i + 1).toNat)
  case atStart => exact ⟨[], Nat.zero_le _, by simp, Lib.hid rfl, h0, hc, hBs⟩
  case round =>
    obtain ⟨pre, hk, rfl, hpm, hJs, hby, hbx⟩ := hrel
    by_cases hlt : pre.length < len
    · obtain ⟨v, hv⟩ := hby (len - 1 - pre.length) (by omega)
      have hv' : wr.cell? ⟨g, off + ((len : Int) - 1 - pre.length).toNat, none⟩ = some (.int .u8 v.toNat) := by rw [← hv]; congr 2; omega
      obtain ⟨fn, tmps, assign, body, hy, hR⟩ := hY pre (⟨len - 1 - pre.length, by omega⟩, v) wr hJs (by omega)
      simp only [backEnc] at hy
      rw [show ((len - 1 - pre.length : Nat) : Int) = (len : Int) - 1 - pre.length by omega] at hy
      gi_wp2
      refine hR.mono ?_
      rintro e W3 (⟨rfl, hJ3, hk3⟩ | ⟨rfl, hJx3⟩)
      · have hb3 := hk3.1 hbx
        have hy3 := hk3.2 hby
        gi_wp2
        go_roundw
        case rel => exact ⟨pre ++ [(⟨len - 1 - pre.length, by omega⟩, v)], by simp; omega, by simp; omega, Lib.hid (by
          rw [List.map_append, hpm.out]; simp only [List.length_append, List.map_cons, List.map_nil, List.length_singleton]
          rw [List.take_succ_eq_append_getElem (by simpa using hlt)]; simp), hJ3, hy3, hb3⟩
        case measure => simp [intOf]; omega
      · gi_wp2
        refine bodyPost_ret (results_none rfl _ _ _) rfl ?_
        exact ⟨⟨_, rfl⟩, .inr ⟨_, trivial, hJx3⟩⟩
    · have hle : len ≤ pre.length := by omega
      gi_wp2
      go_end0
      exact ⟨⟨_, rfl⟩, .inl ⟨pre, by rw [hpm.out, List.take_of_length_le (by simpa using hle)], hJs⟩⟩

theorem Tryz.infoByte : (Tryz.prog.info? 5).map (fun i => (i.zero, i.size, i.bytes)) = some (some (.int .u8 0), 1, 1) := by kernel_rfl
theorem back_in (F : Fence) (n : Nat) (h5 : F.fn 208) (hro : F.round = none) (a : Option Addr) (len cap : Nat) (w : World) :
    CallsIn F n Tryz.prog 208 #[.slice a len cap] w fun e w' => e = .returned (.func (.func 221) #[] #[.pointer (some ⟨w.heap.size, 0, none⟩)]) ∧ w' = w.alloc (.cells #[.slice a len cap] 170) := by
  refine callsIn_of_wp Tryz.func208 rfl h5 ?_ hro
  simp only [Tryz.ntmps208, List.size_toArray, List.length_cons, List.length_nil, Nat.reduceAdd, Nat.reduceSub, Array.replicate_succ, Array.replicate_zero, List.push_toArray, List.append_toArray, List.nil_append, List.cons_append]
  gi_wp2
  go_ret
  exact ⟨rfl, rfl⟩

theorem back_stops (F : Fence) (n : Nat) (h7 : F.fn 221) (hro : F.round = none) (hn : 1 ≤ n) (Bs g off len cap : Nat) (hreach : len ≤ 140737488351232) (w : World) (hB : Bs < w.heap.size) (hg : g < w.heap.size)
    (hBs : w.cell? ⟨Bs, 0, none⟩ = some (.slice (some ⟨g, off, none⟩) len cap)) (hc : BytesIn g off len w) :
    SeqStopsK F n Tryz.prog 221 #[.pointer (some ⟨Bs, 0, none⟩)] (backEnc len) (BackK Bs (.slice (some ⟨g, off, none⟩) len cap) g off len) (fun ys => ys.map (fun y => y.1.val) = (List.range len).reverse) (fun _ => True) len w := fun l J Jx W hW _ _ hY h0 =>
  back1_in F n h7 hro hn l Bs g off len cap hreach J Jx hY W ((hW.cell (p := ⟨Bs, 0, none⟩) hB).trans hBs)
    (fun j hj => by obtain ⟨v, hv⟩ := hc j hj; exact ⟨v, (hW.cell (p := ⟨g, off + j, none⟩) hg).trans hv⟩) h0


set_option maxRecDepth 100000 in
set_option maxHeartbeats 2000000 in
theorem put_in (F : Fence) (n : Nat) (h6 : F.fn 177) (h14 : F.fn 208) (h17 : F.fn 221) (hro : F.round = none) (hn : 3 ≤ n) (x size : Nat) (hx : x < 18446744073709551616) (hs : 1 ≤ size) (hs8 : size ≤ 8) (w : World) :
    CallsIn F n Tryz.prog 177 #[.int .u64 x, .int .i64 size] w fun e w' => (∃ ys : List (Fin size × UInt8), ys.map (fun y => y.1.val) = (List.range size).reverse ∧ e = .returned (.string ⟨(putSt size x ys).1.toArray⟩)) ∧ Below w.heap.size w w' := by
  have h1 : 1 ≤ n := by omega
  refine callsIn_of_wp_marks Tryz.func177 rfl h6 ?_ hro
  simp only [Tryz.ntmps177, List.size_toArray, List.length_cons, List.length_nil, Nat.reduceAdd, Nat.reduceSub, Array.replicate_succ, Array.replicate_zero, List.push_toArray, List.append_toArray, List.nil_append, List.cons_append]
  obtain ⟨i0, hi, hz0, hz1, hz2⟩ := info_parts Tryz.infoByte
  have hmk := fun W => run_make_rowN (P := Tryz.prog) 170 5 i0 (.int .u8 0) Tryz.underlying170 hi hz0 .i64 .i64 size size (Nat.le_refl _) (by rw [hz2]; omega) (by omega) W
  rw [hz1, Nat.mul_one] at hmk
  gi_wp2_with (gi_at_call 208; refine (back_in F (n - 1) h14 hro _ _ _ _).mono ?_; rintro e w' ⟨rfl, rfl⟩)
  have b0 := Blk.new w 70 #[Value.int .u64 (x : Int)]
  have b1 := Blk.new (w.alloc (.cells #[.int .u64 x] 70)) 5 (madeCells #[.int .u8 0] size)
  have b2 := Blk.new ((w.alloc (.cells #[.int .u64 x] 70)).alloc (.cells (madeCells #[.int .u8 0] size) 5)) 170 #[.slice (some ⟨w.heap.size + 1, 0, none⟩) size size]
  have b3 := Blk.new (((w.alloc (.cells #[.int .u64 x] 70)).alloc (.cells (madeCells #[.int .u8 0] size) 5)).alloc (.cells #[.slice (some ⟨w.heap.size + 1, 0, none⟩) size size] 170)) 170 #[.slice (some ⟨w.heap.size + 1, 0, none⟩) size size]
  simp only [World.size_alloc] at b1 b2 b3
  have hmade : madeCells #[.int .u8 0] size = byteCells (List.replicate size 0) := by
    apply Array.toList_inj.1
    rw [toList_madeCells_one]; simp [byteCells]
  rw [hmade] at b1 b2 b3 ⊢
  have hB0 := ((((Below.refl w.heap.size w).alloc (Nat.le_refl _) (.cells #[.int .u64 x] 70)).alloc (by simp) (.cells (byteCells (List.replicate size 0)) 5)).alloc (by simp; omega) (.cells #[.slice (some ⟨w.heap.size + 1, 0, none⟩) size size] 170)).alloc (by simp; omega) (.cells #[.slice (some ⟨w.heap.size + 1, 0, none⟩) size size] 170)
  refine wpIn_rangeFunc_ownG hro h1 (gf := 221) (lb := #[.pointer (some ⟨w.heap.size + 1 + 1 + 1, 0, none⟩)]) rfl h17 (enters_of Tryz.func221 (by kernel_rfl) rfl)
    (back_stops F (n - 1) h17 hro (by omega) (w.heap.size + 1 + 1 + 1) (w.heap.size + 1) 0 size size (by omega) _ (by simp) (by simp) (by rw [b3.cell]; rfl) ?hby) BackK.t (fun W l o o' q1 q2 q3 q4 => BackK.b (w := w) W l o o' (by simp at q1; omega) q2 q3 q4) (Below.refl _ _) (fun _ => rfl)
    (fun pre W => (Blk W w.heap.size 70 #[.int .u64 (putSt size x pre).2] ∧ Blk W (w.heap.size + 1) 5 (byteCells (putSt size x pre).1) ∧ Blk W (w.heap.size + 1 + 1) 170 #[.slice (some ⟨w.heap.size + 1, 0, none⟩) size size] ∧ Blk W (w.heap.size + 1 + 1 + 1) 170 #[.slice (some ⟨w.heap.size + 1, 0, none⟩) size size]) ∧ Below w.heap.size w W)
    (fun _ _ _ => False)
    (OwnFrom.and (Own.from (Own.and (blk_own _ _ _) (Own.and (blk_own _ _ _) (Own.and (blk_own _ _ _) (blk_own _ _ _)))) _) (ownFrom_below (Nat.le_refl _) (by simp; omega)))
    (fun _ _ _ _ _ hs _ _ => hs)
    ?h0
    (fun y => { tmps := #[.int .u64 x, .int .i64 size, .pointer (some ⟨w.heap.size, 0, none⟩), undef, .string ⟨#[]⟩, .pointer (some ⟨w.heap.size + 1 + 1, 0, none⟩), .int .i64 (y.1.val : Int), .int .i64 size, .bool (decide ((size : Int) < 1)), .bool (decide ((size : Int) < 1)), .int .i64 size, .bool (decide ((8 : Int) < size)), .bool (decide ((size : Int) < 1) || decide ((8 : Int) < size)), .int .i64 size, .slice (some ⟨w.heap.size + 1, 0, none⟩) size size, .slice (some ⟨w.heap.size + 1, 0, none⟩) size size, .func (.func 221) #[] #[.pointer (some ⟨w.heap.size + 1 + 1 + 1, 0, none⟩)], .int .i64 (y.1.val : Int), .int .u8 y.2.toNat, undef, undef, undef, undef, undef, undef, undef, undef, undef], defers := [] }) ?assign ?body ?done ?stop
  case hby => exact fun j hj => ⟨0, by rw [((b1.alloc _).alloc _).cell]; simp [byteCells, hj]⟩
  case h0 => exact ⟨⟨((b0.alloc _).alloc _).alloc _, (b1.alloc _).alloc _, b2.alloc _, b3⟩, hB0⟩
  case assign =>
    intro l y W K hK
    dsimp only [backEnc]
    gi_wp2
    exact hK
  case body =>
    rintro l pre ⟨i, v⟩ W ⟨⟨h1, h2, h3, h4⟩, hB⟩ hpl
    have c1 := h1.cell 0
    have c3 := h3.cell 0
    simp at c1 c3
    have f1 := h1.frozen 0
    have f2 := h2.frozen i.val
    have hi := i.isLt
    obtain ⟨v2, c2⟩ : ∃ v2, W.cell? ⟨w.heap.size + 1, i.val, none⟩ = some v2 := by
      rw [h2.cell]; exact ⟨_, Array.getElem?_eq_getElem (by simp [byteCells, putSt_len])⟩
    gi_wp2
    have hv : Value.int .u8 ((putSt size x pre).2 % 256 : Int) = .int .u8 (UInt8.ofNat (putSt size x pre).2).toNat := by simp
    have hB' := (hB.setCell (p := ⟨w.heap.size + 1, i.val, none⟩) (by simp) (.int .u8 ((putSt size x pre).2 % 256 : Int))).setCell (p := ⟨w.heap.size, 0, none⟩) (Nat.le_refl _) (.int .u64 ((putSt size x pre).2 / 256 : Int))
    have h1' := (h1.other (a := ⟨w.heap.size + 1, i.val, none⟩) (by simp) (.int .u8 ((putSt size x pre).2 % 256 : Int))).set 0 (.int .u64 ((putSt size x pre).2 / 256 : Int))
    have h2' := (h2.set i.val (.int .u8 ((putSt size x pre).2 % 256 : Int))).other (a := ⟨w.heap.size, 0, none⟩) (by simp; try omega) (.int .u64 ((putSt size x pre).2 / 256 : Int))
    have h3' := (h3.other (a := ⟨w.heap.size + 1, i.val, none⟩) (by simp; try omega) (.int .u8 ((putSt size x pre).2 % 256 : Int))).other (a := ⟨w.heap.size, 0, none⟩) (by simp; try omega) (.int .u64 ((putSt size x pre).2 / 256 : Int))
    have h4' := (h4.other (a := ⟨w.heap.size + 1, i.val, none⟩) (by simp; try omega) (.int .u8 ((putSt size x pre).2 % 256 : Int))).other (a := ⟨w.heap.size, 0, none⟩) (by simp; try omega) (.int .u64 ((putSt size x pre).2 / 256 : Int))
    refine ⟨((KeepsOthers.setCell _ _ _).trans (KeepsOthers.setCell _ _ _)).from _, ⟨fun _ => by rw [h4'.cell]; rfl, fun _ j hj => ?_⟩, ⟨?_, ?_, h3', h4'⟩, hB'⟩
    · refine ⟨((putSt size x pre).1.set i.val (UInt8.ofNat (putSt size x pre).2))[j]'(by simpa [putSt_len] using hj), ?_⟩
      rw [h2'.cell, hv]
      simp [byteCells, putSt_len, hj, List.getElem_set]
      split <;> simp_all
    · simpa [putSt_snoc, putStep] using h1'
    · have e : byteCells (putSt size x (pre ++ [(i, v)])).1 = (byteCells (putSt size x pre).1).setIfInBounds i.val (.int .u8 ((putSt size x pre).2 % 256 : Int)) := by
        rw [putSt_snoc, hv]; simp [putStep, byteCells, List.map_set]
      rw [e]; exact h2'
  case done =>
    rintro D ys W hD hys ⟨⟨h1, h2, h3, h4⟩, hB⟩ hK
    have c3 := h3.cell 0
    simp at c3
    have hcv := run_convert_bytes_back (P := Tryz.prog) W 170 9 5 ⟨w.heap.size + 1, 0, none⟩ size (putSt size x ys).1 Tryz.underlying170 Tryz.underlying5 Tryz.underlying9 (fun j hj => by
      have e : (Addr.add ⟨w.heap.size + 1, 0, none⟩ j) = ⟨w.heap.size + 1, j, none⟩ := by simp only [Addr.add]; split <;> simp_all
      rw [e, h2.cell j]; simp [byteCells, hj])
    rw [putSt_len] at hcv
    gi_wp2
    refine ⟨by simp, .inl ⟨_, _, rfl, run_takeDeferred hK, ?_⟩⟩
    exact ⟨_, results_tmp rfl _ _ _, ⟨ys, hys, rfl⟩, hB.trans (belowK_b (w := w) (Nat.le_refl _) W D _ _ (by simp at hD; omega) hK rfl rfl)⟩
  case stop =>
    rintro D c pre W _ _ h _
    exact h.elim
end Go.Proofs.YtplgmlcoeehnfaaGreat
set_option linter.unusedVariables false
namespace Go.Proofs.YtplgmlcoeehnfaaGreat
open Go.RowKit Go.Shelf
attribute [local go_sem] bs_mk bs_append bs_extract bs_size bs_toList bs_get

theorem put_ok (x size : Nat) (hx : x < 18446744073709551616) (hs : 1 ≤ size) (hs8 : size ≤ 8) (w : World) :
    Calls Tryz.prog 177 #[.int .u64 x, .int .i64 size] w fun e w' => e = .returned (.string (bs (be size x))) ∧ Below w.heap.size w w' :=
  (callsIn_wide (n := 3)).1 ((put_in .wide 3 trivial trivial trivial rfl (by omega) x size hx hs hs8 w).mono fun e w' ⟨⟨ys, hy, he⟩, hb⟩ => ⟨by rw [he, putSt_done _ _ _ hy]; rfl, hb⟩)
theorem repeat0 (c : Nat) : Lib.repeatL [0] c = List.replicate c 0 := by
  induction c with
  | zero => simp [Lib.repeatL]
  | succ c ih => simp [Lib.repeatL, ih, List.replicate_succ]
theorem pad_ok (l : List UInt8) (hl : l.length ≤ maxLen) (k : Int) (h : (l.length : Int) ≤ k) (h2 : k ≤ 65536) (w : World) :
    Calls Tryz.prog 193 #[.string (bs l), .int .i64 k] w fun e w' => e = .returned (.tuple #[.string (bs (l ++ List.replicate (k.toNat - l.length) 0)), .int .i64 0]) ∧ Below w.heap.size w w' := by
  unfold maxLen at hl
  obtain ⟨k, rfl⟩ := Int.eq_ofNat_of_zero_le (show 0 ≤ k by omega)
  have hrep := fun W => Tryz.strings_Repeat (bs [0]) (k - l.length) W (by omega) (by rw [bs_size]; simp; omega)
  rw [show ((k - l.length : Nat) : Int) = (k : Int) - l.length by omega, bs_list, repeat0, bs_mk] at hrep
  go_enter Tryz.func193, Tryz.ntmps193
  go_wp2_with (go_at_call 130; refine (hrep _).mono ?_; rintro e w' ⟨rfl, hb⟩)
  go_ret2
  refine ⟨?_, hb⟩
  simp
end Go.Proofs.YtplgmlcoeehnfaaGreat
set_option linter.unusedVariables false
namespace Go.Proofs.YtplgmlcoeehnfaaGreat
open Go.RowKit Go.Shelf
attribute [local go_sem] bs_mk bs_append bs_extract bs_size bs_toList bs_get

/-- The world behind '[]byte(s)'. -/
theorem bytesWorld_facts (w : World) (e : TypeId) (l : List UInt8) : Below w.heap.size w (Lib.bytesWorld w e (bs l)) ∧ (Lib.bytesWorld w e (bs l)).heap.size = w.heap.size + 1 ∧
    ∀ j (hj : j < l.length), (Lib.bytesWorld w e (bs l)).cell? ⟨w.heap.size, j, none⟩ = some (.int .u8 l[j].toNat) := by
  refine ⟨⟨rfl, rfl, rfl, by rw [Lib.bytesWorld_size]; omega, fun k hk => Lib.bytesWorld_at_old w e _ k hk⟩, Lib.bytesWorld_size w e _, fun j hj => ?_⟩
  rw [Lib.bytesWorld_cell w e (bs l) j (by rw [bs_size]; exact hj), bs_list]
  simp [hj]
theorem un_bound (l : List UInt8) (k : Nat) (hk : k ≤ 8) : un (l.take k) < 256 ^ k := by
  refine Nat.lt_of_lt_of_le (un_lt _) (Nat.pow_le_pow_right (by omega) (by simp; omega))
theorem un_take_succ (l : List UInt8) (j : Nat) (h : j < l.length) : un (l.take (j + 1)) = un (l.take j) * 256 + l[j].toNat := by
  rw [List.take_succ_eq_append_getElem h, un_snoc]
theorem un_byte (l : List UInt8) (j : Nat) (hj : j < 8) : un (l.take j) < 72057594037927936 := by
  refine Nat.lt_of_lt_of_le (un_bound l j (by omega)) ?_
  refine Nat.le_trans (Nat.pow_le_pow_right (by omega) (show j ≤ 7 by omega)) (by omega)
theorem bits_or8 (a b : Nat) (ha : a < 72057594037927936) (hb : b < 256) : bits .or .u64 ((a : Int) * 256) (b : Int) = ((a * 256 + b : Nat) : Int) := by
  have e : (a : Int) * 256 = ((a * 256 : Nat) : Int) := by omega
  rw [e, u64_or_nat _ _ (by omega) (by omega)]
  have := Nat.two_pow_add_eq_or_of_lt (i := 8) (b := b) (by omega) a
  rw [Nat.mul_comm] at this
  simp only [Nat.reducePow] at this
  rw [← this]
set_option maxHeartbeats 400000 in
theorem take_ok (l : List UInt8) (hl : l.length ≤ maxLen) (k : Int) (h1 : 1 ≤ k) (h2 : k ≤ 8) (h : k ≤ (l.length : Int)) (w : World) :
    Calls Tryz.prog 173 #[.string (bs l), .int .i64 k] w fun e w' => e = .returned (.tuple #[.int .u64 (un (l.take k.toNat)), .string (bs (l.drop k.toNat)), .int .i64 0]) ∧ Below w.heap.size w w' := by
  unfold maxLen at hl
  obtain ⟨k, rfl⟩ := Int.eq_ofNat_of_zero_le (show 0 ≤ k by omega)
  rw [Int.toNat_natCast]
  have hcv := fun (W : World) => Lib.run_convert_string_bytes (P := Tryz.prog) W 9 170 5 (bs (l.take k)) Tryz.underlying9 Tryz.underlying170 Tryz.underlying5
  simp only [bs_size, List.length_take, Nat.min_eq_left (show k ≤ l.length by omega)] at hcv
  obtain ⟨hb1, hsz, hcell⟩ := bytesWorld_facts w 5 (l.take k)
  have Hcell := hid hcell; clear hcell
  have Hsz := hid hsz; clear hsz
  go_enter Tryz.func173, Tryz.ntmps173
  go_wp2_with fail
  generalize Lib.bytesWorld w 5 (bs (l.take k)) = w1 at *
  clear hcv
  go_loop [7, 27] (fun n i => ∃ j : Nat, j ≤ k ∧ i = .int .i64 j ∧ n = .int .u64 (un (l.take j))) (fun _ i => k - (intOf i).toNat)
  case atStart => exact ⟨0, by omega, rfl, rfl⟩
  case round =>
    obtain ⟨j, hj, rfl, rfl⟩ := hrel
    by_cases hlt : j < k
    · have hc := Hcell.out j (by simp; omega)
      simp only [List.getElem_take] at hc
      have hu := un_byte l j (by omega)
      have hby := (l[j]'(by omega)).toNat_lt
      have Hun := hid (un_take_succ l j (by omega))
      go_wp2_with fail
      go_round
      case rel => exact ⟨j + 1, by omega, by go_num, by rw [Hun.out, bits_or8 _ _ hu hby]⟩
      case measure => simp [intOf]; omega
    · obtain rfl : j = k := by omega
      go_wp2_with fail
      go_quiet (fail)
      go_wp2
      go_ret3
      exact ⟨rfl, below_drewN hb1 _⟩
set_option maxHeartbeats 400000 in
theorem rtake_ok (l : List UInt8) (hl : l.length ≤ maxLen) (k : Int) (h1 : 1 ≤ k) (h2 : k ≤ 8) (h : k ≤ (l.length : Int)) (w : World) :
    Calls Tryz.prog 61 #[.string (bs l), .int .i64 k] w fun e w' => e = .returned (.tuple #[.int .u64 (un (l.take k.toNat)), .string (bs (l.drop k.toNat)), .int .i64 0]) ∧ Below w.heap.size w w' := by
  unfold maxLen at hl
  obtain ⟨k, rfl⟩ := Int.eq_ofNat_of_zero_le (show 0 ≤ k by omega)
  rw [Int.toNat_natCast]
  go_enter Tryz.func61, Tryz.ntmps61
  go_wp2_with fail
  go_loop [7, 8] (fun n i => ∃ j : Nat, j ≤ k ∧ i = .int .i64 j ∧ n = .int .u64 (un (l.take j))) (fun _ i => k - (intOf i).toNat)
  case atStart => exact ⟨0, by omega, rfl, rfl⟩
  case round =>
    obtain ⟨j, hj, rfl, rfl⟩ := hrel
    by_cases hlt : j < k
    · have hu := un_byte l j (by omega)
      have hjl : j < l.length := by omega
      have hby := (l[j]'(by omega)).toNat_lt
      have Hun := hid (un_take_succ l j (by omega))
      go_wp2_with fail
      go_round
      case rel => exact ⟨j + 1, by omega, by go_num, by rw [Hun.out]; go_num⟩
      case measure => simp [intOf]; omega
    · obtain rfl : j = k := by omega
      go_wp2_with fail
      try go_quiet (fail)
      go_wp2
      go_ret3
      exact ⟨by simp, drewN_below _ _⟩
set_option maxRecDepth 100000 in
theorem rpad_ok (l : List UInt8) (hl : l.length ≤ maxLen) (k : Int) (h : (l.length : Int) ≤ k) (h2 : k ≤ 65536) (w : World) :
    Calls Tryz.prog 105 #[.string (bs l), .int .i64 k] w fun e w' => e = .returned (.tuple #[.string (bs (l ++ List.replicate (k.toNat - l.length) 0)), .int .i64 0]) ∧ Below w.heap.size w w' := by
  unfold maxLen at hl
  obtain ⟨k, rfl⟩ := Int.eq_ofNat_of_zero_le (show 0 ≤ k by omega)
  rw [Int.toNat_natCast]
  obtain ⟨i0, hi, hz0, hz1, hz2⟩ := info_parts Tryz.infoByte
  have hmk := fun W => run_make_rowN (P := Tryz.prog) 170 5 i0 (.int .u8 0) Tryz.underlying170 hi hz0 .i64 .i64 (k - l.length) (k - l.length) (Nat.le_refl _) (by rw [hz2]; omega) (by omega) W
  rw [hz1, Nat.mul_one, show ((k - l.length : Nat) : Int) = (k : Int) - l.length by omega] at hmk
  have hcv := run_convert_bytes_back (P := Tryz.prog) (w.alloc (.cells (madeCells #[.int .u8 0] (k - l.length)) 5)) 170 9 5 ⟨w.heap.size, 0, none⟩ (k - l.length) (List.replicate (k - l.length) 0) Tryz.underlying170 Tryz.underlying5 Tryz.underlying9 (fun j hj => by
    have hj' : j < k - l.length := by simpa using hj
    have e : (Addr.add ⟨w.heap.size, 0, none⟩ j) = ⟨w.heap.size, j, none⟩ := by simp only [Addr.add]; split <;> simp_all
    rw [e, (Blk.new w _ _).cell j, ← Array.getElem?_toList, toList_madeCells_one]; simp [hj'])
  rw [List.length_replicate, bs_mk] at hcv
  go_enter Tryz.func105, Tryz.ntmps105
  go_wp2_with fail
  try go_quiet (fail)
  try go_wp2
  go_ret2
  exact ⟨by simp, (Below.refl _ _).alloc (Nat.le_refl _) _⟩
set_option maxRecDepth 100000 in
theorem rput_ok (x k : Nat) (hx : x < 18446744073709551616) (h1 : 1 ≤ k) (h2 : k ≤ 8) (w : World) :
    Calls Tryz.prog 104 #[.int .u64 x, .int .i64 k] w fun e w' => e = .returned (.string (bs (be k x))) ∧ Below w.heap.size w w' := by
  obtain ⟨i0, hi, hz0, hz1, hz2⟩ := info_parts Tryz.infoByte
  have hmk := fun W => run_make_rowN (P := Tryz.prog) 170 5 i0 (.int .u8 0) Tryz.underlying170 hi hz0 .i64 .i64 k k (Nat.le_refl _) (by rw [hz2]; omega) (by omega) W
  rw [hz1, Nat.mul_one] at hmk
  go_enter Tryz.func104, Tryz.ntmps104
  go_wp2_with fail
  have b1 := Blk.new w 5 (madeCells #[.int .u8 0] k)
  have hB0 := (Below.refl w.heap.size w).alloc (Nat.le_refl _) (.cells (madeCells #[.int .u8 0] k) 5)
  have hmade : madeCells #[.int .u8 0] k = byteCells (List.replicate k 0) := by
    apply Array.toList_inj.1
    rw [toList_madeCells_one]; simp [byteCells]
  rw [hmade] at b1 hB0
  simp only [Value.cells] at *
  rw [hmade]
  go_loopw [6] (fun i W => ∃ j : Nat, j ≤ k ∧ i = .int .i64 j ∧ Blk W w.heap.size 5 (byteCells (List.replicate (k - j) 0 ++ be j x)) ∧ Below w.heap.size w W) (fun i _ => k - (intOf i).toNat)
  case atStart => exact ⟨0, by omega, rfl, by simpa [be] using b1, hB0⟩
  case round =>
    obtain ⟨j, hj, rfl, hblk, hB⟩ := hrel
    by_cases hlt : j < k
    · have f2 := hblk.frozen (k - 1 - j)
      have c2 : ∃ v2, wr.cell? ⟨w.heap.size, k - 1 - j, none⟩ = some v2 := by
        rw [hblk.cell]; exact ⟨_, Array.getElem?_eq_getElem (by simp [byteCells, be_length]; omega)⟩
      obtain ⟨v2, c2⟩ := c2
      clear b1 hB0 hmade hmk
      go_wp2_with fail
      go_roundw
      case rel =>
        refine ⟨j + 1, by omega, by go_num, ?_, hB.setCell (p := ⟨w.heap.size, k - 1 - j, none⟩) (Nat.le_refl _) _⟩
        have h := hblk.set (k - 1 - j) (.int .u8 ((x : Int) / 2 ^ (8 * j) % 256))
        have e : (byteCells (List.replicate (k - j) 0 ++ be j x)).setIfInBounds (k - 1 - j) (.int .u8 ((x : Int) / 2 ^ (8 * j) % 256)) = byteCells (List.replicate (k - (j + 1)) 0 ++ be (j + 1) x) := by
          have e1 : k - j = (k - (j + 1)) + 1 := by omega
          have e2 : Value.int .u8 ((x : Int) / 2 ^ (8 * j) % 256) = Value.int .u8 (UInt8.ofNat (x / 256 ^ j)).toNat := by
            have e0 : (2 : Int) ^ (8 * j) = ((256 ^ j : Nat) : Int) := by
              rw [show (256 : Nat) = 2 ^ 8 from rfl, ← Nat.pow_mul, Int.natCast_pow]; rfl
            rw [e0, ← Int.natCast_ediv]
            simp
          rw [e2, e1, List.replicate_succ', be, byteCells, byteCells, List.append_assoc, List.map_append, List.setIfInBounds_toArray, List.set_append_right _ _ (by simp; omega)]
          have e3 : k - 1 - j - (List.map (fun b : UInt8 => Value.int .u8 b.toNat) (List.replicate (k - (j + 1)) 0)).length = 0 := by rw [List.length_map, List.length_replicate]; omega
          rw [e3]
          simp
        rw [e] at h
        exact h
      case measure => simp [intOf]; omega
    · obtain rfl : j = k := by omega
      have hcv := run_convert_bytes_back (P := Tryz.prog) wr 170 9 5 ⟨w.heap.size, 0, none⟩ j (be j x) Tryz.underlying170 Tryz.underlying5 Tryz.underlying9 (fun i hi => by
        have e : (Addr.add ⟨w.heap.size, 0, none⟩ i) = ⟨w.heap.size, i, none⟩ := by simp only [Addr.add]; split <;> simp_all
        rw [e, hblk.cell i]; simp [byteCells, hi])
      rw [be_length, bs_mk] at hcv
      go_wp2_with fail
      go_ret
      exact ⟨rfl, hB⟩
end Go.Proofs.YtplgmlcoeehnfaaGreat
