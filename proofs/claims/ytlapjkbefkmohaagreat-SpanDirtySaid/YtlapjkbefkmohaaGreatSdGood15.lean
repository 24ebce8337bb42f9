/- Package cofferdamlaw01: what its statements share. Package ref13: which images can be. Package cofferdamlaw15: which images its statements ask for. -/
import Derived.Test.YtlapjkbefkmohaaGreatSdDev2
import Derived.Test.YtlapjkbefkmohaaGreatSdPlain1
import Derived.Lib.ConvBytes
import Derived.Lib.LazyBuf
import Derived.StillTailTactics
import Derived.Test.YtlapjkbefkmohaaGreatSdRef01b
import Derived.Test.YtlapjkbefkmohaaGreatSdOpens4
import Derived.Test.YtlapjkbefkmohaaGreatSdRoot3
import Derived.Test.YtlapjkbefkmohaaGreatSdImg9
import Derived.BigQuiet
set_option linter.unusedVariables false
namespace Go.Proofs.YtlapjkbefkmohaaGreat
open Go.RowKit Go.Shelf
attribute [local go_sem] bs_mk bs_append bs_extract bs_size bs_toList bs_get

theorem r1_fit (D : Dk) (p q : Pl) (w : World) (hD : IsDk w D p q) (hc : D.cache.length ≤ 4398046511104) :
 Calls Tryz.prog 43 #[dval D p q] w fun e w' => e = .returned (.bool D.fit) ∧ Below w.heap.size w w' := by
 by_cases h : D.sz < 1 ∨ 1024 < D.sz ∨ D.data.length % 64 ≠ 0 ∨ 4096 < D.cache.length
 · exact r1_fit_head D p q hD.data hc h w
 · exact r1_fit_rest D p q w hD (by omega) (by omega) (by omega) (by omega)
end Go.Proofs.YtlapjkbefkmohaaGreat

set_option linter.unusedVariables false
namespace Go.Proofs.YtlapjkbefkmohaaGreat
open Go.RowKit Go.Shelf
attribute [local go_sem] bs_mk bs_append bs_extract bs_size bs_toList bs_get
theorem dmRows_key : ∀ (l : List Dm), (∀ m ∈ l, m.bits.length = 64) → ∀ (j : Nat) (hj : j < l.length) (k : Nat) (v : Value), (dmCells l[j])[k]? = some v → (dmRows l)[j * 66 + k]? = some v := fun l => by
 induction l with
 | nil => intro _ j hj; simp at hj
 | cons x l ih =>
  intro hl j hj k v hv
  have hx := dmCells_length (hl x (by simp))
  show (dmCells x ++ dmRows l)[j * 66 + k]? = some v
  cases j with
  | zero =>
   have hk : k < (dmCells x).length := (List.getElem?_eq_some_iff.1 hv).1
   rw [Nat.zero_mul, Nat.zero_add, List.getElem?_append_left hk]; exact hv
  | succ j =>
   rw [List.getElem?_append_right (by omega), hx, show (j + 1) * 66 + k - 66 = j * 66 + k by omega]
   exact ih (fun m hm => hl m (by simp [hm])) j (by simpa using hj) k v hv
/-- A row of bitmaps: names, whether in use, bits. -/
theorem IsMs.cells {w : World} {l : List Dm} {r : Pl} (h : IsMs w l r) (h0 : 0 < l.length) : ∃ b off, r.a = some ⟨b, off, none⟩ ∧ b < w.heap.size ∧ ∀ j (hj : j < l.length), w.cell? ⟨b, off + j * 66, none⟩ = some (.string (bs l[j].name)) ∧ w.cell? ⟨b, off + j * 66 + 1, none⟩ = some (.bool l[j].use) ∧
 ∀ k (hk : k < l[j].bits.length), w.cell? ⟨b, off + j * 66 + (2 + k), none⟩ = some (.bool l[j].bits[k]) := by
 rcases h.row with h1 | ⟨b, off, e, hc⟩
 · have := congrArg List.length h1; rw [dmRows_length h.bits] at this; simp at this; omega
 · have hk := dmRows_key l h.bits
   refine ⟨b, off, e, ?_, fun j hj => ⟨?_, ?_, fun k hk' => ?_⟩⟩
   · exact World.block_lt_of_cell? _ _ (hc _ _ (hk 0 h0 0 _ rfl))
   · have := hc _ _ (hk j hj 0 _ rfl)
     simpa using this
   · have := hc _ _ (hk j hj 1 _ rfl)
     rwa [← Nat.add_assoc] at this
   · have := hc _ _ (hk j hj (2 + k) _ (dmCells_bit _ k hk'))
     rwa [← Nat.add_assoc] at this
def okAt (l : List Dm) (i : Nat) : Bool := nameOk (l.getD i Dm.zero).name && ((l.getD i Dm.zero).use && (decide (i = 0) || decide ((l.getD 0 Dm.zero).name ≠ (l.getD i Dm.zero).name)))
theorem nameds_iff (l : List Dm) : Im.nameds l = true ↔ ∀ i, i < l.length → okAt l i = true := by
 cases l with
 | nil => simp [Im.nameds]
 | cons m r =>
  simp only [Im.nameds, Bool.and_eq_true, List.all_eq_true, decide_eq_true_eq]
  constructor
  · rintro ⟨h1, h2, h3⟩ i hi
    cases i with
    | zero => simp [okAt, h1, h2]
    | succ i =>
     have hi' : i < r.length := by simpa using hi
     have := h3 r[i] (List.getElem_mem hi')
     simp [okAt, List.getD, hi', this]
  · intro h
    have h0 := h 0 (by simp)
    simp [okAt] at h0
    refine ⟨h0.1, h0.2, fun o ho => ?_⟩
    obtain ⟨i, hi, rfl⟩ := List.getElem_of_mem ho
    have := h (i + 1) (by simpa using hi)
    simpa [okAt, List.getD, hi] using this
theorem getD_dm (l : List Dm) {i : Nat} (h : i < l.length) : l.getD i Dm.zero = l[i] := by simp [List.getD, h]
def fitI (D : Dk) (g h : Int) (j : Jr) (maps : List Dm) : Bool := geomOk g h && (D.fit && (decide ((D.sz : Int) = 96 + 2 * h) && (jrFit j && Im.nameds maps)))
set_option maxRecDepth 100000 in
set_option maxHeartbeats 2000000 in
theorem r13_fit (D : Dk) (g h : Int) (j : Jr) (maps : List Dm) (br : Bool) (p q r : Pl) (w : World) (hI : IsIm0 w D g h j maps p q r) (hc : D.cache.length ≤ 300) (hl : maps.length ≤ 2) :
 Calls Tryz.prog 18 #[imval0 D g h j maps br p q r] w fun e w' => e = .returned (.bool (fitI D g h j maps)) ∧ Below w.heap.size w w' := by
 have hD := hI.d.full (by omega) hI.bad hI.data
 have c1 := fun (W : World) => r4_fit g h W
 have c2 := fun (W : World) (hb : Below w.heap.size w W) => r1_fit D p q W (hD.below hb) (by omega)
 have c3 := fun (W : World) => r1_size D p q hI.data W
 have c4 := fun (W : World) => r4_sectors g h W
 have c5 := fun (W : World) => r7_fit j hI.seq hI.pos W
 have Hf := hid (show fitI D g h j maps = (geomOk g h && (D.fit && (decide ((D.sz : Int) = 96 + 2 * h) && (jrFit j && Im.nameds maps)))) from rfl)
 have hM := hI.m
 have hls : maps.length ≤ 2 := hl
 have l0 : ¬ (2 : Int) < (maps.length : Int) := by omega
 have hg2 := hid (fun (e : geomOk g h = true) => (geomOk_iff.1 e))
 clear hD hI
 obtain ⟨sq, pos⟩ := j
 obtain ⟨A1, a1⟩ := p
 obtain ⟨A2, a2⟩ := q
 obtain ⟨A3, a3⟩ := r
 have hB := Below.refl w.heap.size w
 have x := Blk.new w 33 #[.string (bs D.data), .slice A1 D.cache.length a1, .int .i64 D.fuse, .bool D.off, .slice A2 D.bad.length a2, .int .i64 g, .int .i64 h, .int .u64 sq, .int .i64 pos, .slice A3 maps.length a3, .bool br]
 have xk := blk11 x
 have hB_1 := hB.alloc hB.size (.cells #[.string (bs D.data), .slice A1 D.cache.length a1, .int .i64 D.fuse, .bool D.off, .slice A2 D.bad.length a2, .int .i64 g, .int .i64 h, .int .u64 sq, .int .i64 pos, .slice A3 maps.length a3, .bool br] 33)
 go_enter Tryz.func18, Tryz.ntmps18
 go_wp2_with fail
 generalize (w.alloc (.cells #[.string (bs D.data), .slice A1 D.cache.length a1, .int .i64 D.fuse, .bool D.off, .slice A2 D.bad.length a2, .int .i64 g, .int .i64 h, .int .u64 sq, .int .i64 pos, .slice A3 maps.length a3, .bool br] 33)) = V at hB_1 x xk ⊢
 clear hB
 have hB := hB_1
 clear hB_1
 have X := ext11 x
 have e1 := fun e : Ext V => c1 e.world
 have e2 := fun e : Ext V => c2 e.world (bt hB e.below)
 have e3 := fun e : Ext V => c3 e.world
 have e4 := fun e : Ext V => c4 e.world
 have e5 := fun e : Ext V => c5 e.world
 clear c1 c2 c3 c4 c5
 cases h1 : geomOk g h with
 | false =>
  have Hr := hid (show fitI D g h ⟨sq, pos⟩ maps = false by rw [Hf.out, h1]; rfl)
  rw [h1] at e1
  refine wp_region_ext mixed (by kernel_rfl) ?_
  repeat (go_big_quiet_step ((first | (go_at_call 42; with_reducible exact ext_of (e1 _)))))
  refine wpQuiet_nil ?_
  rintro W ⟨pq_, hpq_⟩
  have hW := pq_.below
  rw [← hpq_] at hW
  clear hpq_ pq_
  go_wp2_with fail
  go_ret
  rw [Hr.out]
  exact ⟨rfl, bt hB hW⟩
 | true =>
 rw [h1] at e1 e4
 rw [if_pos rfl] at e4
 cases h2 : D.fit with
 | false =>
  have Hr := hid (show fitI D g h ⟨sq, pos⟩ maps = false by rw [Hf.out, h1, h2]; rfl)
  rw [h2] at e2
  refine wp_region_ext mixed (by kernel_rfl) ?_
  repeat (go_big_quiet_step ((first | (go_at_call 42; with_reducible exact ext_of (e1 _)) | (go_at_call 43; with_reducible exact ext_of (e2 _)))))
  refine wpQuiet_nil ?_
  rintro W ⟨pq_, hpq_⟩
  have hW := pq_.below
  rw [← hpq_] at hW
  clear hpq_ pq_
  go_wp2_with fail
  go_ret
  rw [Hr.out]
  exact ⟨rfl, bt hB hW⟩
 | true =>
 rw [h2] at e2
 by_cases h3 : (D.sz : Int) = 96 + 2 * h
 rotate_left
 · have Hr := hid (show fitI D g h ⟨sq, pos⟩ maps = false by rw [Hf.out, h1, h2, decide_eq_false h3]; rfl)
   have n3 : (((D.sz : Nat) : Int) != 96 + 2 * h) = true := by simpa using h3
   refine wp_region_ext mixed (by kernel_rfl) ?_
   repeat (go_big_quiet_step ((first | (go_at_call 42; with_reducible exact ext_of (e1 _)) | (go_at_call 43; with_reducible exact ext_of (e2 _)) | (go_at_call 44; with_reducible exact ext_of (e3 _)) | (go_at_call 45; with_reducible exact ext_of (e4 _)))))
   refine wpQuiet_nil ?_
   rintro W ⟨pq_, hpq_⟩
   have hW := pq_.below
   rw [← hpq_] at hW
   clear hpq_ pq_
   go_wp2_with fail
   go_ret
   rw [Hr.out]
   exact ⟨rfl, bt hB hW⟩
 have n3 : (((D.sz : Nat) : Int) != 96 + 2 * h) = false := by simpa using h3
 cases h5 : jrFit ⟨sq, pos⟩ with
 | false =>
  have Hr := hid (show fitI D g h ⟨sq, pos⟩ maps = false by rw [Hf.out, h1, h2, decide_eq_true h3, h5]; rfl)
  rw [h5] at e5
  replace h3 := hid h3
  refine wp_region_ext mixed (by kernel_rfl) ?_
  repeat (go_big_quiet_step ((first | (go_at_call 42; with_reducible exact ext_of (e1 _)) | (go_at_call 43; with_reducible exact ext_of (e2 _)) | (go_at_call 44; with_reducible exact ext_of (e3 _)) | (go_at_call 45; with_reducible exact ext_of (e4 _)) | (go_at_call 46; with_reducible exact ext_of (e5 _)))))
  refine wpQuiet_nil ?_
  rintro W ⟨pq_, hpq_⟩
  have hW := pq_.below
  rw [← hpq_] at hW
  clear hpq_ pq_
  go_wp2_with fail
  go_ret
  rw [Hr.out]
  exact ⟨rfl, bt hB hW⟩
 | true =>
 have Hr := hid (show fitI D g h ⟨sq, pos⟩ maps = Im.nameds maps by rw [Hf.out, h1, h2, decide_eq_true h3, h5]; rfl)
 rw [h5] at e5
 replace h3 := hid h3
 refine wp_region_ext mixed (by kernel_rfl) ?_
 repeat (go_big_quiet_step ((first | (go_at_call 42; with_reducible exact ext_of (e1 _)) | (go_at_call 43; with_reducible exact ext_of (e2 _)) | (go_at_call 44; with_reducible exact ext_of (e3 _)) | (go_at_call 45; with_reducible exact ext_of (e4 _)) | (go_at_call 46; with_reducible exact ext_of (e5 _)))))
 refine wpQuiet_nil ?_
 rintro W ⟨pq_, hpq_⟩
 have hW := pq_.below
 rw [← hpq_] at hW
 clear hpq_ pq_
 go_wp2_with fail
 have xW := x.below hW x.lt
 have HBW := hid (bt hB hW)
 have hM2 := hM.below (bt hB hW)
 have Hcells := hid (fun (h0 : 0 < maps.length) => hM2.cells h0)
 have Hnm := hid hM2.name
 have xl := xW.lt
 clear e1 e2 e3 e4 e5 X x xk hB hW hM hM2
 go_loopw [3] (fun y U => ∃ m : Nat, m ≤ maps.length ∧ y = .int .i64 m ∧ Hid (∀ i, i < m → okAt maps i = true) ∧ Below W.heap.size W U) (fun y _ => maps.length - (intOf y).toNat)
 case atStart => exact ⟨0, Nat.zero_le _, rfl, hid (fun i hi => by omega), Below.refl _ _⟩
 case round =>
  obtain ⟨m, hm, rfl, hok, hb⟩ := hrel
  have xr := xW.below hb xW.lt
  have xk := blk11 xr
  by_cases hlt : m < maps.length
  · obtain ⟨gb, go, ea, hgb, hcs⟩ := Hcells.out (by omega)
    have ea' : A3 = some ⟨gb, go, none⟩ := ea
    subst ea'
    have k1 := (hcs m hlt).1
    have k2 := (hcs m hlt).2.1
    have k3 := (hcs 0 (by omega)).1
    simp only [Nat.zero_mul, Nat.add_zero] at k3
    have hn1 := Hnm.out _ (List.getElem_mem hlt)
    have Hat := hid (show okAt maps m = (nameOk maps[m].name && (maps[m].use && (decide (m = 0) || decide (maps[0].name ≠ maps[m].name)))) by unfold okAt; rw [getD_dm _ hlt, getD_dm maps (i := 0) (by omega)])
    have Hno := hid (fun (h : okAt maps m = false) => show Im.nameds maps = false by
     cases hn : Im.nameds maps with
     | false => rfl
     | true => have := (nameds_iff maps).1 hn m hlt; rw [h] at this; cases this)
    have Hyes := hid (fun (h : okAt maps m = true) (i : Nat) (hi : i < m + 1) => show okAt maps i = true by
     rcases Nat.lt_or_eq_of_le (Nat.le_of_lt_succ hi) with h9 | h9
     · exact hok.out i h9
     · rw [h9]; exact h)
    generalize maps[m].name = nm at k1 hn1 Hat
    generalize maps[m].use = us at k2 Hat
    generalize maps[0].name = n0 at k3 Hat
    have K1 := fun e : Ext wr => e.cell (cell_below hb k1)
    have K2 := fun e : Ext wr => e.cell (cell_below hb k2)
    have K3 := fun e : Ext wr => e.cell (cell_below hb k3)
    have c6 := fun e : Ext wr => show Calls Tryz.prog 47 #[.string (bs nm)] e.world (fun e' w' => e' = .returned (.bool (nameOk nm)) ∧ Below e.world.heap.size e.world w') from (r3_named nm hn1 e.world).mono (fun _ _ h => ⟨h.1, by rw [← h.2]; exact Below.refl _ _⟩)
    have X := ext11 xr
    clear k1 k2 k3 hcs hok
    cases q1 : nameOk nm with
    | false =>
     have Hf2 := hid (Hr.out.trans (Hno.out (by rw [Hat.out, q1]; rfl)))
     rw [q1] at c6
     clear q1
     go_wp2_with fail
     refine wp_region_ext mixed (by kernel_rfl) ?_
     repeat (go_big_quiet_step ((go_at_call 47; with_reducible exact ext_of (c6 _))))
     refine wpQuiet_nil ?_
     rintro U ⟨pq_, hpq_⟩
     have hU := pq_.below
     rw [← hpq_] at hU
     clear hpq_ pq_
     go_wp2_with fail
     go_ret
     rw [Hf2.out]
     exact ⟨rfl, bt HBW.out (bt hb hU)⟩
    | true =>
    rw [q1] at c6
    cases us with
    | false =>
     have Hf2 := hid (Hr.out.trans (Hno.out (by rw [Hat.out, q1]; rfl)))
     clear q1
     go_wp2_with fail
     refine wp_region_ext mixed (by kernel_rfl) ?_
     repeat (go_big_quiet_step ((go_at_call 47; with_reducible exact ext_of (c6 _))))
     refine wpQuiet_nil ?_
     rintro U ⟨pq_, hpq_⟩
     have hU := pq_.below
     rw [← hpq_] at hU
     clear hpq_ pq_
     go_wp2_with fail
     go_ret
     rw [Hf2.out]
     exact ⟨rfl, bt HBW.out (bt hb hU)⟩
    | true =>
    have lm0 : (0 : Int) ≤ (m : Int) := by omega
    by_cases h0 : m = 0
    · subst h0
      have Hy := hid (Hyes.out (by rw [Hat.out, q1]; simp))
      clear q1 Hat Hno Hyes K3
      simp only [Nat.zero_mul, Nat.add_zero] at K1 K2
      go_wp2_with fail
      refine wp_region_ext mixed (by kernel_rfl) ?_
      repeat (go_big_quiet_step ((go_at_call 47; with_reducible exact ext_of (c6 _))))
      refine wpQuiet_nil ?_
      rintro U ⟨pq_, hpq_⟩
      have hU := pq_.below
      rw [← hpq_] at hU
      clear hpq_ pq_
      go_wp2_with fail
      go_roundw
      case rel => exact ⟨0 + 1, by omega, by go_num, Hy, bt hb hU⟩
      case measure => simp [intOf]; omega
    · have m1 : decide ((0 : Int) < (m : Int)) = true := by simp; omega
      have m2 : (0 : Int) < (m : Int) := by omega
      have m3 : 0 < m := by omega
      have l1 : 0 < maps.length := by omega
      by_cases hq : n0 = nm
      · subst hq
        have Hf2 := hid (Hr.out.trans (Hno.out (by rw [Hat.out, q1]; simp [h0])))
        have s1 : (n0 == n0) = true := by simp
        clear q1 Hat Hno Hyes h0
        go_wp2_with fail
        refine wp_region_ext mixed (by kernel_rfl) ?_
        repeat (go_big_quiet_step ((go_at_call 47; with_reducible exact ext_of (c6 _))))
        refine wpQuiet_nil ?_
        rintro U ⟨pq_, hpq_⟩
        have hU := pq_.below
        rw [← hpq_] at hU
        clear hpq_ pq_
        go_wp2_with fail
        go_ret
        rw [Hf2.out]
        exact ⟨rfl, bt HBW.out (bt hb hU)⟩
      · have Hy := hid (Hyes.out (by rw [Hat.out, q1]; simp [hq]))
        have s1 : (n0 == nm) = false := beq_eq_false_iff_ne.2 hq
        clear q1 Hat Hno Hyes h0 hq
        go_wp2_with fail
        refine wp_region_ext mixed (by kernel_rfl) ?_
        repeat (go_big_quiet_step ((go_at_call 47; with_reducible exact ext_of (c6 _))))
        refine wpQuiet_nil ?_
        rintro U ⟨pq_, hpq_⟩
        have hU := pq_.below
        rw [← hpq_] at hU
        clear hpq_ pq_
        go_wp2_with fail
        go_roundw
        case rel => exact ⟨m + 1, by omega, by go_num, Hy, bt hb hU⟩
        case measure => simp [intOf]; omega
  · obtain rfl : m = maps.length := by omega
    have Hf2 := hid (Hr.out.trans ((nameds_iff maps).2 hok.out))
    clear hok
    go_wp2_with fail
    go_ret
    rw [Hf2.out]
    exact ⟨rfl, bt HBW.out hb⟩
end Go.Proofs.YtlapjkbefkmohaaGreat

set_option linter.unusedVariables false
namespace Go.Proofs.YtlapjkbefkmohaaGreat
open Go.RowKit Go.Shelf
attribute [local go_sem] bs_mk bs_append bs_extract bs_size bs_toList bs_get
def goodI (D : Dk) (g h : Int) (j : Jr) (maps : List Dm) : Bool := decide (D.cache.length ≤ 300) && (decide (maps.length ≤ 2) && fitI D g h j maps)
theorem goodI_iff {D : Dk} {g h : Int} {j : Jr} {maps : List Dm} : goodI D g h j maps = true ↔ D.cache.length ≤ 300 ∧ maps.length ≤ 2 ∧ geomOk g h = true ∧ D.fit = true ∧ (D.sz : Int) = 96 + 2 * h ∧ jrFit j = true ∧ Im.nameds maps = true := by
 simp [goodI, fitI]
theorem good_ok {w : World} {D : Dk} {g h : Int} {j : Jr} {maps : List Dm} {p q r : Pl} (br : Bool) (hI : IsIm0 w D g h j maps p q r) (hg : goodI D g h j maps = true) :
 ∃ hh : Nat, h = hh ∧ IsIm w ⟨D, g, hh, j, maps, br⟩ p q r ∧ (⟨D, g, hh, j, maps, br⟩ : Im).Ok := by
 obtain ⟨h1, h2, h3, h4, h5, h6, h7⟩ := goodI_iff.1 hg
 have hk := geomOk_iff.1 h3
 obtain ⟨hh, rfl⟩ := Int.eq_ofNat_of_zero_le (show 0 ≤ h by omega)
 refine ⟨hh, rfl, ⟨hI.d.full (by omega) hI.bad hI.data, hI.m⟩, h4, by show 0 < g ∧ g ≤ 64; omega, by show 8 ≤ hh ∧ hh ≤ 256; omega, ?_, hI.pos, h2, hI.m.bits⟩
 have := hI.seq
 simp [jrFit] at h6
 show j.seq < _
 omega
set_option maxRecDepth 100000 in
set_option maxHeartbeats 1000000 in
theorem good15 (D : Dk) (g h : Int) (j : Jr) (maps : List Dm) (br : Bool) (p q r : Pl) (w : World) (hI : IsIm0 w D g h j maps p q r) :
 Calls Tryz.prog 6 #[imval0 D g h j maps br p q r] w fun e w' => e = .returned (.bool (goodI D g h j maps)) ∧ Below w.heap.size w w' := by
 have hfit := fun (W : World) (hb : Below w.heap.size w W) (h1 : D.cache.length ≤ 300) (h2 : maps.length ≤ 2) => r13_fit D g h j maps br p q r W (hI.below hb) h1 h2
 have hcl := Nat.le_trans hI.d.pc hI.d.pm
 have hml := Nat.le_trans hI.m.cap hI.m.max
 unfold maxLen at hcl hml
 have Hg := hid (show goodI D g h j maps = (decide (D.cache.length ≤ 300) && (decide (maps.length ≤ 2) && fitI D g h j maps)) from rfl)
 clear hI
 obtain ⟨sq, pos⟩ := j
 obtain ⟨A1, a1⟩ := p
 obtain ⟨A2, a2⟩ := q
 obtain ⟨A3, a3⟩ := r
 have hB := Below.refl w.heap.size w
 have x := Blk.new w 33 #[.string (bs D.data), .slice A1 D.cache.length a1, .int .i64 D.fuse, .bool D.off, .slice A2 D.bad.length a2, .int .i64 g, .int .i64 h, .int .u64 sq, .int .i64 pos, .slice A3 maps.length a3, .bool br]
 have xk := blk11 x
 have hB_1 := hB.alloc hB.size (.cells #[.string (bs D.data), .slice A1 D.cache.length a1, .int .i64 D.fuse, .bool D.off, .slice A2 D.bad.length a2, .int .i64 g, .int .i64 h, .int .u64 sq, .int .i64 pos, .slice A3 maps.length a3, .bool br] 33)
 by_cases h1 : D.cache.length ≤ 300
 · have g1 : (D.cache.length : Int) ≤ 300 := by omega
   by_cases h2 : maps.length ≤ 2
   · have g2 : (maps.length : Int) ≤ 2 := by omega
     have Hr := hid (show goodI D g h ⟨sq, pos⟩ maps = fitI D g h ⟨sq, pos⟩ maps by rw [Hg.out, decide_eq_true h1, decide_eq_true h2]; rfl)
     have hf := fun (W : World) (hb : Below w.heap.size w W) => hfit W hb h1 h2
     clear hfit h1 h2
     go_enter Tryz.func6, Tryz.ntmps6
     go_wp2_with fail
     go_at_call 18
     refine ((hf _ hB_1)).mono ?_
     rintro e w1 ⟨rfl, hb1⟩
     replace hB := bt hB_1 hb1
     replace x := x.below hb1 x.lt
     replace xk := blk11 x
     clear hB_1
     go_wp2_with fail
     go_ret
     rw [Hr.out]
     exact ⟨rfl, hB⟩
   · have g2 : ¬ (maps.length : Int) ≤ 2 := by omega
     have Hr := hid (show goodI D g h ⟨sq, pos⟩ maps = false by rw [Hg.out, decide_eq_false h2]; simp)
     clear h1 h2 hfit
     go_enter Tryz.func6, Tryz.ntmps6
     go_wp2_with fail
     go_ret
     rw [Hr.out]
     exact ⟨rfl, hB_1⟩
 · have g1 : ¬ (D.cache.length : Int) ≤ 300 := by omega
   have Hr := hid (show goodI D g h ⟨sq, pos⟩ maps = false by rw [Hg.out, decide_eq_false h1]; simp)
   clear h1 hfit
   go_enter Tryz.func6, Tryz.ntmps6
   go_wp2_with fail
   go_ret
   rw [Hr.out]
   exact ⟨rfl, hB_1⟩
end Go.Proofs.YtlapjkbefkmohaaGreat
