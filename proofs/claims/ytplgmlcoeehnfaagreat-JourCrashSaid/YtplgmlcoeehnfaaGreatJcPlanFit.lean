/- Package plan: which plans can be. -/
import Derived.Test.YtplgmlcoeehnfaaGreatJcLay1
import Derived.Test.YtplgmlcoeehnfaaGreatJcRegs
import Derived.Test.YtplgmlcoeehnfaaGreatJcPlan1
import Derived.BigQuiet
set_option linter.unusedVariables false
namespace Go.Proofs.YtplgmlcoeehnfaaGreat
open Go.RowKit Go.Shelf
attribute [local go_sem] bs_mk bs_append bs_extract bs_size bs_toList bs_get Oper.semAt_some
namespace Pn
/-- May x be the next one behind l? -/
def OkNext (l : List (Int × List UInt8)) (x : Int × List UInt8) : Prop := sectorOk x.1 = true ∧ x.1 ∉ l.map (·.1) ∧ x.2.length = 64
def OkSeq (l : List (Int × List UInt8)) : Prop := ∀ i (hi : i < l.length), OkNext (l.take i) l[i]
theorem OkSeq.snoc {l : List (Int × List UInt8)} (h : OkSeq l) {x : Int × List UInt8} (hx : OkNext l x) : OkSeq (l ++ [x]) := by
  intro i hi
  rcases Nat.lt_or_ge i l.length with h1 | h1
  · have := h i h1
    rw [List.getElem_append_left h1, List.take_append_of_le_length (by omega)]
    exact this
  · obtain rfl : i = l.length := by simp at hi; omega
    rw [List.getElem_append_right (Nat.le_refl _), List.take_append_of_le_length (Nat.le_refl _), List.take_length]
    simpa using hx
theorem secs_firsts {L : Pn} (h : L.targets.length = L.data.length) (i : Nat) : (L.secs.take i).map (·.1) = L.targets.take i := by
  rw [List.map_take, Pn.secs, List.map_fst_zip (by omega)]
theorem find_first {L : Pn} {i : Nat} (hi : i < L.targets.length) : L.find L.targets[i] = i ↔ L.targets[i] ∉ L.targets.take i := by
  have hm : L.targets[i] ∈ L.targets := List.getElem_mem hi
  obtain ⟨j, hj, e1, e2, e3⟩ := find_in hm
  rw [e1]
  constructor
  · intro h hmem
    have h : j = i := by omega
    subst h
    obtain ⟨k, hk, ek⟩ := List.getElem_of_mem hmem
    rw [List.length_take] at hk
    rw [List.getElem_take] at ek
    have hlt : k < List.findIdx (· == L.targets[j]) L.targets := by
      have : List.findIdx (· == L.targets[j]) L.targets = j := e3
      omega
    have := List.not_of_lt_findIdx hlt
    simp [ek] at this
  · intro h
    rcases Nat.lt_trichotomy j i with h1 | h1 | h1
    · refine absurd ?_ h
      rw [List.mem_take_iff_getElem]
      exact ⟨j, by omega, e2⟩
    · rw [h1]
    · have := List.not_of_lt_findIdx (xs := L.targets) (p := (· == L.targets[i])) (i := i) (by have : List.findIdx (· == L.targets[i]) L.targets = j := e3; omega)
      simp at this
theorem fit_of_all {L : Pn} (h1 : L.targets.length = L.data.length) (h2 : L.targets.length ≤ 24) (h : OkSeq L.secs) : L.fit = true := by
  refine fit_iff.2 ⟨h1, h2, fun i hi => ?_, fun i hi => ?_⟩
  · have hs : i < L.secs.length := by rw [secs_length L h1]; exact hi
    obtain ⟨m1, m2, e⟩ := secs_at L i hs
    have := h i hs
    rw [e, OkNext, secs_firsts h1] at this
    exact ⟨this.1, (find_first hi).2 this.2.1⟩
  · have hs : i < L.secs.length := by rw [secs_length L h1]; omega
    obtain ⟨m1, m2, e⟩ := secs_at L i hs
    have := h i hs
    rw [e] at this
    exact this.2.2
theorem fit_not_at {L : Pn} {i : Nat} (hi : i < L.secs.length) (h : ¬ OkNext (L.secs.take i) L.secs[i]) : L.fit = false := by
  refine fit_no fun hf => h ?_
  obtain ⟨m1, m2, e⟩ := secs_at L i hi
  rw [e, OkNext, secs_firsts hf.1]
  exact ⟨(hf.2.2.1 i m1).1, (find_first m1).1 (hf.2.2.1 i m1).2, hf.2.2.2 i m2⟩
end Pn
theorem wf_i64 {x : Int} (h : -9223372036854775808 ≤ x ∧ x ≤ 9223372036854775807) : (Lit.int .i64 x).wf = true := by
  simp only [Lit.wf, Bool.and_eq_true, decide_eq_true_eq]
  exact h
theorem fit_start (P : Program) (w : World) (t tb ti tm : TypeId) (c : Array Value) {V : World} (e : V = (((((w.alloc (.cells c t)).alloc (.cells #[.bool false] tb)).alloc (.map #[] 0)).alloc (.cells #[.map (some (w.heap.size + 1 + 1))] tm)).alloc (.cells c t)) := by rfl) :
    Below w.heap.size w V ∧ Blk V (w.heap.size + 1) tb #[.bool false] ∧ Blk V (w.heap.size + 1 + 1 + 1) tm #[.map (some (w.heap.size + 1 + 1))] ∧ Seen P ti tb V (w.heap.size + 1 + 1) 0 [] ∧ Blk V (w.heap.size + 1 + 1 + 1 + 1) t c := by
  subst e
  have b1 := Blk.new (w.alloc (.cells c t)) tb #[.bool false]
  have b3 := Blk.new (((w.alloc (.cells c t)).alloc (.cells #[.bool false] tb)).alloc (.map #[] 0)) tm #[.map (some (w.heap.size + 1 + 1))]
  have b4 := Blk.new ((((w.alloc (.cells c t)).alloc (.cells #[.bool false] tb)).alloc (.map #[] 0)).alloc (.cells #[.map (some (w.heap.size + 1 + 1))] tm)) t c
  have sn := World.ownsMap_made (H := Unit) ((w.alloc (.cells c t)).alloc (.cells #[.bool false] tb)) P ti (plainElem P tb)
  simp only [World.size_alloc] at b1 b3 b4 sn
  exact ⟨((((((Below.refl _ w).alloc (Nat.le_refl _) _).alloc (by simp) _).alloc (by simp; omega) _).alloc (by simp; omega) _).alloc (by simp; omega) _), ((b1.alloc _).alloc _).alloc _, b3.alloc _, (sn.alloc _).alloc _, b4⟩
set_option maxRecDepth 100000 in
theorem pl_fit_head (L : Pn) (p' q' : Pl) (w : World) (hL : IsPn w L p' q') (h : L.targets.length ≠ L.data.length ∨ 24 < L.targets.length) :
    Calls Tryz.prog 132 #[pval L p' q'] w fun e w' => e = .returned (.bool L.fit) ∧ Below w.heap.size w w' := by
  have Hf := hid (show L.fit = false by refine Pn.fit_no fun hf => ?_; have := hf.1; have := hf.2.1; omega)
  have hm1 := hL.pm
  have hc1 := hL.pc
  have hm2 := hL.qm
  have hc2 := hL.qc
  unfold maxLen at hm1 hm2
  obtain ⟨B1, b1⟩ := p'
  obtain ⟨B2, b2⟩ := q'
  simp only at hm1 hm2 hc1 hc2
  have zb := (Blk.new (w.alloc (.cells #[.slice B1 L.targets.length b1, .slice B2 L.data.length b2] 28)) 4 #[.bool false])
  rw [World.size_alloc] at zb
  have z0 := blk1 zb
  by_cases h1 : L.targets.length = L.data.length
  · have h2 : 24 < L.targets.length := by omega
    have g1 : ((L.targets.length : Int) != (L.data.length : Int)) = false := by simp [h1]
    have g2 : decide ((24 : Int) < (L.targets.length : Int)) = true := by simp; omega
    have g3 : (24 : Int) < (L.targets.length : Int) := by omega
    clear h h1 h2
    go_enter Tryz.func132, Tryz.ntmps132
    go_wp2_with fail
    refine bodyPost_ret (v := .bool false) (by simp [results, Tryz.results132, go_sem, z0]) rfl ?_
    exact ⟨by rw [Hf.out], below_two _ _ _⟩
  · have g1 : ((L.targets.length : Int) != (L.data.length : Int)) = true := by simp; omega
    clear h h1
    go_enter Tryz.func132, Tryz.ntmps132
    go_wp2_with fail
    refine bodyPost_ret (v := .bool false) (by simp [results, Tryz.results132, go_sem, z0]) rfl ?_
    exact ⟨by rw [Hf.out], below_two _ _ _⟩
set_option maxRecDepth 100000 in
set_option maxHeartbeats 1000000 in
theorem pl_fit_rest (L : Pn) (p' q' : Pl) (w : World) (hL : IsPn w L p' q') (h1 : L.targets.length = L.data.length) (h2 : L.targets.length ≤ 24) :
    Calls Tryz.prog 132 #[pval L p' q'] w fun e w' => e = .returned (.bool L.fit) ∧ Below w.heap.size w w' := by
  have n1 : 1 ≤ 6 := by omega
  have hmm := @run_makeMap Tryz.prog
  have hLW := fun (W : World) (hb : Below w.heap.size w W) => (hL.below hb : IsPn W L p' q')
  have g1 : ((L.targets.length : Int) != (L.data.length : Int)) = false := by simp [h1]
  have g2 : decide ((24 : Int) < (L.targets.length : Int)) = false := by simp; omega
  have g3 : (L.targets.length : Int) ≤ 24 := by omega
  have Hlen := hid h1
  have Hmany := hid h2
  clear hL h1 h2
  obtain ⟨B1, b1⟩ := p'
  obtain ⟨B2, b2⟩ := q'
  refine (callsIn_wide (n := 6)).1 (callsIn_of_wp_marks Tryz.func132 rfl trivial (wpIn_wide.2 ?_) rfl)
  simp only [Tryz.ntmps132, List.size_toArray, List.length_cons, List.length_nil, Nat.reduceAdd, Nat.reduceSub, Array.replicate_succ, Array.replicate_zero, List.push_toArray, List.append_toArray, List.nil_append, List.cons_append]
  go_wp2_with (go_at_call 188; refine (callsIn_wide.1 (sectors_in 5 L ⟨B1, b1⟩ ⟨B2, b2⟩ _)).mono ?_; rintro e w3 ⟨rfl, rfl⟩)
  obtain ⟨hB, b0, mb, sn, bp⟩ := fit_start Tryz.prog w 28 4 3 238 #[.slice B1 L.targets.length b1, .slice B2 L.data.length b2]
  generalize (((((w.alloc (.cells #[.slice B1 L.targets.length b1, .slice B2 L.data.length b2] 28)).alloc (.cells #[.bool false] 4)).alloc (.map #[] 0)).alloc (.cells #[.map (some (w.heap.size + 1 + 1))] 238)).alloc (.cells #[.slice B1 L.targets.length b1, .slice B2 L.data.length b2] 28)) = V at *
  have vl : w.heap.size + 1 + 1 + 1 + 1 < V.heap.size := bp.lt
  have hbs : ∀ g ∈ [w.heap.size + 1 + 1 + 1 + 1], g < V.heap.size ∧ w.heap.size + 1 + 1 + 1 < g := fun g hg => by
    simp only [List.mem_cons, List.not_mem_nil, or_false] at hg
    omega
  have Hsec := hid (fun (y : Fin L.secs.length) => show (Lit.int .i64 L.secs[y.val].1).wf = true ∧ L.secs[y.val].2.length ≤ 9223372036854775807 by
    obtain ⟨m1, m2, e⟩ := secs_at L y.val y.isLt
    have hP := hLW V hB
    rw [e]
    exact ⟨wf_i64 (hP.ats _ (List.getElem_mem m1)), hP.strs _ (List.getElem_mem m2)⟩)
  refine (wpIn_wide (n := 6)).1 ?_
  refine range_own rfl n1 (gf := 213) (lb := #[.pointer (some ⟨w.heap.size + 1 + 1 + 1 + 1, 0, none⟩)]) rfl trivial (enters_of Tryz.func213 (by kernel_rfl) rfl)
    (sectors_stops 5 (by omega) L ⟨B1, b1⟩ ⟨B2, b2⟩ Hlen.out (by have := Hmany.out; omega) w.heap.size _ V hB.size (fun W hb => hLW W (hB.trans hb)) bp)
    KeepB.trans (fun W l o o' q1 q2 q3 q4 => KeepB.putObj o' (by omega) (fun g hg => by have := hbs g hg; omega)) (Below.refl _ _) (fun _ => rfl)
    (fun pre W => Blk W (w.heap.size + 1) 4 #[.bool false] ∧ Blk W (w.heap.size + 1 + 1 + 1) 238 #[.map (some (w.heap.size + 1 + 1))] ∧ Seen Tryz.prog 3 4 W (w.heap.size + 1 + 1) pre.length ((picked L.secs pre).map (·.1)) ∧ Hid (Pn.OkSeq (picked L.secs pre)) ∧ Below w.heap.size w W ∧ V.heap.size ≤ W.heap.size)
    (fun c pre W => c = .ret ∧ (∃ pre' y, pre = pre' ++ [y] ∧ Hid (¬ Pn.OkNext (picked L.secs pre') L.secs[y.val])) ∧ Blk W (w.heap.size + 1) 4 #[.bool false] ∧ Below w.heap.size w W)
    ?hI ?hIx ?h0
    (fun y a' W => a' = { tmps := #[pval L ⟨B1, b1⟩ ⟨B2, b2⟩, .pointer (some ⟨w.heap.size, 0, none⟩), .pointer (some ⟨w.heap.size + 1, 0, none⟩), .pointer (some ⟨w.heap.size + 1 + 1 + 1, 0, none⟩), .int .i64 L.secs[y.val].1, .string (bs L.secs[y.val].2), .pointer (some ⟨w.heap.size, 0, none⟩), .slice B1 L.targets.length b1, .int .i64 L.targets.length, .pointer (some ⟨w.heap.size, 1, none⟩), .slice B2 L.data.length b2, .int .i64 L.data.length, .bool false, .bool false, .pointer (some ⟨w.heap.size, 0, none⟩), .slice B1 L.targets.length b1, .int .i64 L.targets.length, .bool false, .bool false, .map (some (w.heap.size + 1 + 1)), .agg #[.slice B1 L.targets.length b1, .slice B2 L.data.length b2], .func (.func 213) #[] #[.pointer (some ⟨w.heap.size + 1 + 1 + 1 + 1, 0, none⟩)], .int .i64 L.secs[y.val].1, .string (bs L.secs[y.val].2), undef, undef, undef, undef, undef, undef, undef, undef, undef, undef, undef, undef, undef, undef], defers := [] })
    (fun _ _ _ _ _ _ hs _ _ => hs) ?assign ?body ?done ?stop
  case hI =>
    rintro pre X Y row ⟨h1, h2, h3, h4, h5, h6⟩ hy hr
    exact ⟨(Own.from (blk_own _ _ (fun _ : Unit => _)) _) () X Y row h1 hy hr, (Own.from (blk_own _ _ (fun _ : Unit => _)) _) () X Y row h2 hy hr, h3.at_ (hy.block _ (by omega) (fun e => by have := (hr _ e.symm).1; omega)), h4, ownFrom_below (β := Unit) (Nat.le_refl _) hB.size () X Y row h5 hy hr, Nat.le_trans h6 hy.size⟩
  case hIx =>
    rintro c pre X Y row ⟨h0, h1, h2, h3⟩ hy hr
    exact ⟨h0, h1, (Own.from (blk_own _ _ (fun _ : Unit => _)) _) () X Y row h2 hy hr, ownFrom_below (β := Unit) (Nat.le_refl _) hB.size () X Y row h3 hy hr⟩
  case h0 => exact ⟨b0, mb, sn, hid (fun i hi => by simp [picked] at hi), hB, Nat.le_refl _⟩
  case assign =>
    rintro l pre y W K hI hK
    dsimp only [secEnc]
    gi_wp2
    exact hK _ _ (KeepsFrom.refl _ _) (Stays.refl _ _) (KeepB.refl _ _ _) hI rfl
  case body =>
    rintro l pre y a' W ⟨h1, h2, h3, hok, hb, hs⟩ rfl hpl
    have hl3 := h3.look (tm := 238) Tryz.underlying3 Tryz.underlying4 Tryz.underlying238 (by kernel_rfl) (Hsec.out y).1
    have hwf := (Hsec.out y).1
    have hsl := (Hsec.out y).2
    have Hnx := hid (fun (h : Pn.OkNext (picked L.secs pre) L.secs[y.val]) => show Pn.OkSeq (picked L.secs (pre ++ [y])) by rw [picked_snoc]; exact hok.out.snoc h)
    have Hsn := hid (show seenD (((picked L.secs pre).map (·.1)) ++ [L.secs[y.val].1]) = seenD ((picked L.secs (pre ++ [y])).map (·.1)) by rw [picked_snoc]; simp)
    generalize hz : L.secs[y.val] = z at *
    obtain ⟨k, s⟩ := z
    have Hz := hid hz
    have h1k := blk1 h1
    have h1f := h1.frozen 0
    have h2k := blk1 h2
    have hout := pl_outside k W
    clear hz
    simp only at hl3 hwf hsl Hsn
    cases hA : sectorOk k with
    | false =>
      have He := hid (show ¬ Pn.OkNext (picked L.secs pre) (k, s) from fun h => by have := h.1; rw [hA] at this; cases this)
      rw [hA] at hout
      clear hA
      gi_wp2
      refine ⟨trivial, (CallsIn.inRound l (callsIn_wide.2 hout)).mono ?_⟩
      rintro e W2 ⟨rfl, rfl⟩
      gi_wp2
      exact ⟨(KeepsOthers.setCell _ _ _).from _, rfl, ⟨pre, y, rfl, hid (by rw [Hz.out]; exact He.out)⟩, h1.set 0 _, hb.setCell (p := ⟨w.heap.size + 1, 0, none⟩) (by simp) _⟩
    | true =>
      rw [hA] at hout
      by_cases hBm : k ∈ (picked L.secs pre).map (·.1)
      · have He := hid (show ¬ Pn.OkNext (picked L.secs pre) (k, s) from fun h => h.2.1 hBm)
        rw [decide_eq_true hBm] at hl3
        clear hA hBm
        gi_wp2
        refine ⟨trivial, (CallsIn.inRound l (callsIn_wide.2 hout)).mono ?_⟩
        rintro e W2 ⟨rfl, rfl⟩
        gi_wp2
        exact ⟨(KeepsOthers.setCell _ _ _).from _, rfl, ⟨pre, y, rfl, hid (by rw [Hz.out]; exact He.out)⟩, h1.set 0 _, hb.setCell (p := ⟨w.heap.size + 1, 0, none⟩) (by simp) _⟩
      · rw [decide_eq_false hBm] at hl3
        by_cases hC : s.length = 64
        · have He := hid (show Pn.OkNext (picked L.secs pre) (k, s) from ⟨hA, hBm, hC⟩)
          have hC' : ((s.length : Int) != 64) = false := by simp; omega
          clear hA hBm hC
          gi_wp2
          refine ⟨trivial, (CallsIn.inRound l (callsIn_wide.2 hout)).mono ?_⟩
          rintro e W2 ⟨rfl, rfl⟩
          gi_wp2_with (gi_at_mapUpdate; refine wpListIn_mapUpdate_own _ rfl _ _ _ 238 rfl 3 4 (Maps.int_keyed Tryz.underlying3) Tryz.underlying238 _ (w.heap.size + 1 + 1) pre.length _ rfl h3 (by unfold maxLen; have := Hmany.out; have := secs_length L Hlen.out; omega) _ _ _ rfl rfl (Maps.keyOf_int_mk Tryz.underlying3 hwf) _ [] (plainElem_bool Tryz.underlying4 true) ?_; intro w1 hown1 hgrow1)
          have hgw : W2.heap.size ≤ w1.heap.size := hgrow1.size
          exact ⟨KeepsFrom.of_grownBy hgrow1 (fun j e => by cases e; omega), ⟨Stays.grown hgrow1 (fun j e => by cases e; omega), ⟨(Below.refl _ W2).grown hgrow1 hb.size (fun k e => by cases e; omega), fun g hg => hgrow1.block g (by have := hbs g hg; omega) (fun e => by cases e; have := hbs _ hg; omega)⟩⟩,
            h1.kept hgrow1 (by simp), h2.kept hgrow1 (by simp), by unfold Seen; rw [← Hsn.out, seenD_snoc, List.length_append]; exact hown1, hid (Hnx.out He.out), hb.grown hgrow1 hb.size (fun k e => by cases e; omega), by omega⟩
        · have He := hid (show ¬ Pn.OkNext (picked L.secs pre) (k, s) from fun h => hC h.2.2)
          have hC' : ((s.length : Int) != 64) = true := by simp; omega
          clear hA hBm hC
          gi_wp2
          refine ⟨trivial, (CallsIn.inRound l (callsIn_wide.2 hout)).mono ?_⟩
          rintro e W2 ⟨rfl, rfl⟩
          gi_wp2
          exact ⟨(KeepsOthers.setCell _ _ _).from _, rfl, ⟨pre, y, rfl, hid (by rw [Hz.out]; exact He.out)⟩, h1.set 0 _, hb.setCell (p := ⟨w.heap.size + 1, 0, none⟩) (by simp) _⟩
  case done =>
    rintro Dd ys U hDd hS ⟨h1, h2, h3, hok, hb, hs⟩ hK
    have Hf := hid (show L.fit = true from Pn.fit_of_all Hlen.out Hmany.out (by rw [← hS]; exact hok.out))
    have h1k := blk1 h1
    have h1f := h1.frozen 0
    have s1 := h1.set 0 (.bool true)
    have hK2 : (U.setCell ⟨w.heap.size + 1, 0, none⟩ (.bool true)).heap[Dd]? = some (.deferred (some [])) := (Below.heap_setCell _ _ _ _ (by simp; omega)).trans hK
    have d0 := fun o => blk1 (s1.at_ (World.putObj_heap_other (r := Dd) (o := o) (by omega)))
    go_wp2_with fail
    refine ⟨by simp, .inl ⟨_, _, rfl, run_takeDeferred hK2, ?_⟩⟩
    refine ⟨.bool true, by simp [results, Tryz.results132, go_sem, d0], by rw [Hf.out], ?_⟩
    exact (hb.setCell (p := ⟨w.heap.size + 1, 0, none⟩) (by simp) _).trans (belowK_b (w := w) (Nat.le_refl _) _ Dd _ _ (by omega) hK2 rfl rfl)
  case stop =>
    rintro Dd c pre U hDd ⟨m, hm, hpre⟩ ⟨rfl, ⟨pre', y, e, he⟩, h1, hb⟩ hK
    have Hf := hid (show L.fit = false by
      subst e
      rw [picked_snoc, List.take_succ_eq_append_getElem hm] at hpre
      have e1 := List.append_inj_left' hpre rfl
      have e2 := List.append_inj_right' hpre rfl
      injection e2 with e2
      have := he.out
      rw [e1, e2] at this
      exact Pn.fit_not_at hm this)
    have d0 := fun o => blk1 (h1.at_ (World.putObj_heap_other (r := Dd) (o := o) (by omega)))
    refine wpIn_wide.2 ?_
    go_wp2_with fail
    refine ⟨by simp, .inl ⟨_, _, rfl, run_takeDeferred hK, ?_⟩⟩
    refine ⟨.bool false, by simp [results, Tryz.results132, go_sem, d0], by rw [Hf.out], ?_⟩
    exact hb.trans (belowK_b (w := w) (Nat.le_refl _) _ Dd _ _ (by omega) hK rfl rfl)
theorem pl_fit (L : Pn) (p' q' : Pl) (w : World) (hL : IsPn w L p' q') :
    Calls Tryz.prog 132 #[pval L p' q'] w fun e w' => e = .returned (.bool L.fit) ∧ Below w.heap.size w w' := by
  by_cases h : L.targets.length ≠ L.data.length ∨ 24 < L.targets.length
  · exact pl_fit_head L p' q' w hL h
  · exact pl_fit_rest L p' q' w hL (by omega) (by omega)
end Go.Proofs.YtplgmlcoeehnfaaGreat
