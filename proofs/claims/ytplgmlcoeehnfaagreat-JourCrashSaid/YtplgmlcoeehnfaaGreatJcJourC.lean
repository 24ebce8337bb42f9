/- Package jour: the transactions that stand in sectors, one by one. Package jour: what stands in a journal. -/
import Derived.Test.YtplgmlcoeehnfaaGreatJcJourB
set_option linter.unusedVariables false
namespace Go.Proofs.YtplgmlcoeehnfaaGreat
open Go.RowKit Go.Shelf
attribute [local go_sem] bs_mk bs_append bs_extract bs_size bs_toList bs_get Oper.semAt_some
def fdEnc (x : Fd) : Array Value := #[.int .i64 x.pos, tval x.tx x.p x.q]
theorem own_quiet {w w' : World} {b : Nat} {e : TypeId} {s n : Nat} {v : Value} {xs : List Value} (h : w.ownsRow b e s v n xs) {row : Option Nat} (hy : w.grownBy w' row) (hr : ∀ r, row = some r → ∃ o : Obj, w.heap[r]? = some o ∧ o.isCells = false) : w'.ownsRow b e s v n xs := by
  refine h.kept hy ?_
  rcases h.2 with ⟨rfl, _⟩ | ⟨g, cap, cur, rfl, _, h3, _⟩
  · exact .inl rfl
  · right
    intro hh
    obtain ⟨o, h4, h5⟩ := hr g hh.symm
    rw [h3] at h4
    cases h4
    cases h5
theorem FdAt.quiet {w w' : World} {x : Fd} (h : FdAt w x) {row : Option Nat} (hy : w.grownBy w' row) (hr : ∀ r, row = some r → ∃ o : Obj, w.heap[r]? = some o ∧ o.isCells = false) : FdAt w' x := by
  have r1 := own_quiet h.rows.1 hy hr
  have r2 := own_quiet h.rows.2 hy hr
  exact ⟨{ h.pn with targets := Cells.of_own r1, data := Cells.of_own r2 }, r1, r2⟩
theorem FdsOk.quiet {w w' : World} {l : List Fd} (h : FdsOk w l) {row : Option Nat} (hy : w.grownBy w' row) (hr : ∀ r, row = some r → ∃ o : Obj, w.heap[r]? = some o ∧ o.isCells = false) : FdsOk w' l := fun x hx => (h x hx).quiet hy hr
theorem fds_own (B : Nat) : OwnFrom B (fun (l : List Fd) W => FdsOk W l) := fun s X Y row hs hy hr => hs.quiet hy (fun r e => (hr r e).2)
set_option maxRecDepth 100000 in
set_option maxHeartbeats 2000000 in
theorem records_stops (n : Nat) (hn : 1 ≤ n) (l : List (List UInt8)) (gA oA : Nat) (c : Nat) (k : Nat) (hk : k ≤ 1000000) (gl B0 B1 B2 : Nat) (w : World) (h0 : B0 ≤ w.heap.size) (hl : l.length ≤ 1000) (hlc : l.length ≤ c) (hcm : c ≤ maxLen) (h64 : ∀ s ∈ l, s.length = 64)
    (b1 : Blk w B1 26 #[.slice (some ⟨gA, oA, none⟩) l.length c]) (b2 : Blk w B2 3 #[.int .i64 k]) (hgl : gl < w.heap.size) (hC : ∀ W : World, W.heap[gl]? = w.heap[gl]? → Cells W (some ⟨gA, oA, none⟩) (strCells l)) :
    SeqD 0 Fence.wide n Tryz.prog 154 #[.pointer (some ⟨B1, 0, none⟩), .pointer (some ⟨B2, 0, none⟩)] fdEnc (KeepB B0 [B1, B2, gl])
      (fun ys => ys.map Fd.it = jrUpto l k l.length) (fun _ => True) l.length (fun x W => FdAt W x) w := by
  intro lp J Jx W hW hJ hJx hY h0J
  have h1 : 1 ≤ n := hn
  have HY := hid hY
  have hb3 : ∀ g ∈ [B1, B2, gl], g < w.heap.size := fun g hg => by
    simp only [List.mem_cons, List.not_mem_nil, or_false] at hg
    rcases hg with rfl | rfl | rfl
    · exact b1.lt
    · exact b2.lt
    · exact hgl
  have kW : KeepB B0 [B1, B2, gl] w W := KeepB.later hW h0 hb3
  have in1 : B1 ∈ [B1, B2, gl] := by simp
  have in2 : B2 ∈ [B1, B2, gl] := by simp
  have in3 : gl ∈ [B1, B2, gl] := by simp
  have k1 := blk1 (b1.at_ (kW.at_ _ in1))
  have hm := hcm
  unfold maxLen at hm
  have HC := hid hC
  have H64 := hid h64
  clear hY hC h64
  have x0 : True := trivial
  refine callsIn_of_wp Tryz.func154 rfl trivial ?_ rfl
  simp only [Tryz.ntmps154, List.size_toArray, List.length_cons, List.length_nil, Nat.reduceAdd, Nat.reduceSub, Array.replicate_succ, Array.replicate_zero, List.push_toArray, List.append_toArray, List.nil_append, List.cons_append]
  gi_wp2
  gi_loopw [12] (fun x V => ∃ m : Nat, m ≤ l.length ∧ x = .int .i64 m ∧ (∃ pre, Hid (pre.length ≤ m) ∧ Hid (pre.map Fd.it = jrUpto l k m) ∧ J pre V) ∧ KeepB B0 [B1, B2, gl] w V ∧ Hid (W.heap.size ≤ V.heap.size)) (fun x _ => l.length - (intOf x).toNat)
  case atStart => exact ⟨0, Nat.zero_le _, rfl, ⟨[], hid (Nat.le_refl _), hid rfl, h0J⟩, kW, hid (Nat.le_refl _)⟩
  case round =>
    obtain ⟨m, hm2, rfl, ⟨pre, hpl, hpm, hJm⟩, hkp, hsz⟩ := hrel
    clear k1 h0J kW
    have k1 := blk1 (b1.at_ (hkp.at_ _ in1))
    have k2 := blk1 (b2.at_ (hkp.at_ _ in2))
    by_cases hlt : m < l.length
    · have c0 : True := trivial
      have hcells := strCells_drop (HC.out wr (hkp.at_ _ in3)) m
      have hrl : (l.drop m).length = l.length - m := by rw [List.length_drop]
      have hr := tx_read_n (l.drop m) _ (c - m) wr hcells (by rw [hrl]; omega) (by rw [hrl]; omega) (by unfold maxLen; omega) (fun s hs => by have := H64.out s (List.mem_of_mem_drop hs); unfold maxLen; omega)
      obtain ⟨⟨t, er⟩, hX⟩ : ∃ X, txRead (l.drop m) = X := ⟨_, rfl⟩
      have hlen := (read_len (l.drop m)).1
      have hlen2 := (read_len (l.drop m)).2
      have hseq := read_seq (l.drop m)
      have Hne := hid (fun (h : er ≠ 0) => (jrUpto_no (jrIn_no (n := (k : Int)) (by rw [hX]; exact h))).symm)
      have Hout := hid (fun (h : ¬ ∀ j ∈ t.plan.targets, j < (k : Int)) => (jrUpto_no (jrIn_out (by rw [hX]; exact h))).symm)
      have Hyes := hid (fun (h0 : er = 0) (h : ∀ j ∈ t.plan.targets, j < (k : Int)) => (jrUpto_yes (jrIn_yes (by rw [hX]; exact h0) (by rw [hX]; exact h))).symm)
      rw [hX] at hlen hlen2 hseq hr Hyes
      simp only [hrl] at hr hlen hlen2 hseq Hyes
      clear hX hrl hcells
      have c1 : ¬ c = m := by omega
      have c2 : ¬ c - m = 0 := by omega
      have c3 : ¬ c ≤ m := by omega
      gi_wp2_with fail
      refine ⟨trivial, (callsIn_wide.2 hr).mono ?_⟩
      rintro e W2 ⟨⟨p2, q2, rfl, hpn, hrows⟩, hb2⟩
      obtain ⟨C1, c1'⟩ := p2
      obtain ⟨C2, c2'⟩ := q2
      have yb := Blk.new W2 92 #[.int .u64 t.seq, .slice C1 t.plan.targets.length c1', .slice C2 t.plan.data.length c2']
      have hb3' := (Below.refl W2.heap.size W2).alloc (Nat.le_refl _) (.cells #[.int .u64 t.seq, .slice C1 t.plan.targets.length c1', .slice C2 t.plan.data.length c2'] 92)
      have hb4 := bt hb2 hb3'
      have hfd : FdAt (W2.alloc (.cells #[.int .u64 t.seq, .slice C1 t.plan.targets.length c1', .slice C2 t.plan.data.length c2'] 92)) ⟨m, t, ⟨C1, c1'⟩, ⟨C2, c2'⟩⟩ := ⟨hpn.below hb3', (hrows.base (Nat.zero_le _)).below hb3'⟩
      have hk4 : KeepB B0 [B1, B2, gl] wr (W2.alloc (.cells #[.int .u64 t.seq, .slice C1 t.plan.targets.length c1', .slice C2 t.plan.data.length c2'] 92)) := KeepB.later hb4 (Nat.le_trans h0 hkp.below.size) (fun g hg => Nat.lt_of_lt_of_le (hb3 g hg) hkp.below.size)
      have hJ4 := hid (OwnFrom.later hJ hJm hb4)
      have yk := blk3 yb
      have k2' := blk1 (b2.at_ ((hkp.trans hk4).at_ _ in2))
      have l4 := hb4.size
      clear hJm hrows hpn
      by_cases he : er = 0
      · subst he
        gi_wp2_with fail
        generalize W2.alloc (.cells #[.int .u64 t.seq, .slice C1 t.plan.targets.length c1', .slice C2 t.plan.data.length c2'] 92) = W3 at *
        gi_loopw [28, 7] (fun x b V => ∃ i : Nat, i ≤ t.plan.targets.length ∧ x = .int .i64 i ∧ (∃ y : Bool, b = .bool y ∧ Hid (y = true ↔ ∀ j (hj : j < t.plan.targets.length), j < i → t.plan.targets[j] < (k : Int))) ∧ V = W3) (fun x _ _ => t.plan.targets.length - (intOf x).toNat)
        case atStart => exact ⟨0, Nat.zero_le _, rfl, ⟨true, rfl, hid ⟨fun _ j hj h0 => by omega, fun _ => rfl⟩⟩, rfl⟩
        case round =>
          obtain ⟨i, hi, rfl, ⟨y, rfl, hy⟩, rfl⟩ := hrel
          by_cases hlt2 : i < t.plan.targets.length
          · obtain ⟨cb, co, e1, ct⟩ := hfd.pn.targets.int hlt2
            have e1' : C1 = some ⟨cb, co, none⟩ := e1
            subst e1'
            replace ct := ct i hlt2
            obtain ⟨tv, htv⟩ : ∃ tv, t.plan.targets[i] = tv := ⟨_, rfl⟩
            have Hy2 := hid (show (y && decide (tv < (k : Int))) = true ↔ ∀ j (hj : j < t.plan.targets.length), j < i + 1 → t.plan.targets[j] < (k : Int) from by
              rw [Bool.and_eq_true, decide_eq_true_eq, hy.out]
              constructor
              · rintro ⟨h1, h2⟩ j hj hji
                rcases Nat.lt_or_ge j i with h | h
                · exact h1 j hj h
                · obtain rfl : j = i := by omega
                  rw [htv]; exact h2
              · intro h
                exact ⟨fun j hj hji => h j hj (by omega), by rw [← htv]; exact h i hlt2 (by omega)⟩)
            rw [htv] at ct
            clear htv e1 hy
            cases y with
            | true =>
              replace Hy2 := hid (by simpa only [Bool.true_and] using Hy2.out)
              gi_wp2_with fail
              go_roundw
              case rel => exact ⟨i + 1, by omega, by go_num, ⟨_, rfl, Hy2⟩, by first | rfl | trivial⟩
              case measure => simp [intOf]; omega
            | false =>
              replace Hy2 := hid (by simpa only [Bool.false_and] using Hy2.out)
              gi_wp2_with fail
              go_roundw
              case rel => exact ⟨i + 1, by omega, by go_num, ⟨_, rfl, Hy2⟩, by first | rfl | trivial⟩
              case measure => simp [intOf]; omega
          · obtain rfl : i = t.plan.targets.length := by omega
            have Hall := hid (show y = true ↔ ∀ j ∈ t.plan.targets, j < (k : Int) from hy.out.trans ⟨fun h j hj => by obtain ⟨a, ha, rfl⟩ := List.getElem_of_mem hj; exact h a ha ha, fun h j hj _ => h _ (List.getElem_mem hj)⟩)
            clear hy
            cases y with
            | true =>
              obtain ⟨fn, tmps, assign, body, hyy, hR⟩ := HY.out pre ⟨m, t, ⟨C1, c1'⟩, ⟨C2, c2'⟩⟩ wr hJ4.out hfd (by have := hpl.out; omega) (by have := hsz.out; omega)
              have Hz := hid (show (pre ++ [(⟨m, t, ⟨C1, c1'⟩, ⟨C2, c2'⟩⟩ : Fd)]).map Fd.it = jrUpto l k (m + 1) by
                rw [List.map_append, hpm.out]; exact Hyes.out (by first | rfl | trivial) (Hall.out.1 rfl))
              simp only [fdEnc, tval] at hyy
              clear Hne Hout Hyes Hall
              gi_wp2_with fail
              refine hR.mono ?_
              rintro e W4 (⟨rfl, hJ3, hkf, _, hk3⟩ | ⟨rfl, hJx3, _⟩)
              · have HJ3 := hid hJ3
                clear hJ3 hR hyy
                gi_wp2_with fail
                go_roundw
                case rel => exact ⟨m + 1, by omega, by go_num, ⟨_, hid (by rw [List.length_append, List.length_singleton]; have := hpl.out; omega), Hz, HJ3.out⟩, (hkp.trans hk4).trans hk3, hid (Nat.le_trans (Nat.le_trans hsz.out l4) hkf.size)⟩
                case measure => simp [intOf]; omega
              · have HJx := hid hJx3
                clear hJx3 hR hyy
                gi_wp2_with fail
                refine bodyPost_ret (results_none rfl _ _ _) rfl ?_
                exact ⟨⟨_, rfl⟩, .inr ⟨_, trivial, HJx.out⟩⟩
            | false =>
              have Hn := hid (hpm.out.trans (Hout.out (fun h => by have := Hall.out.2 h; cases this)))
              clear Hne Hout Hyes Hall
              gi_wp2_with fail
              refine ⟨fun _ h => (nomatch h), ?_⟩
              gi_wp2_with fail
              go_roundw
              case rel => exact ⟨m + 1, by omega, by go_num, ⟨pre, hid (Nat.le_succ_of_le hpl.out), Hn, hJ4.out⟩, hkp.trans hk4, hid (Nat.le_trans hsz.out l4)⟩
              case measure => simp [intOf]; omega
      · have n1 : (er != 0) = true := by simpa using he
        have Hn := hid (hpm.out.trans (Hne.out he))
        clear Hne Hout Hyes he
        gi_wp2_with fail
        go_roundw
        case rel => exact ⟨m + 1, by omega, by go_num, ⟨pre, hid (Nat.le_succ_of_le hpl.out), Hn, hJ4.out⟩, hkp.trans hk4, hid (Nat.le_trans hsz.out l4)⟩
        case measure => simp [intOf]; omega
    · obtain rfl : m = l.length := by omega
      gi_wp2
      go_end0
      exact ⟨⟨_, rfl⟩, .inl ⟨pre, hpm.out, hJm⟩⟩
end Go.Proofs.YtplgmlcoeehnfaaGreat
set_option linter.unusedVariables false
namespace Go.Proofs.YtplgmlcoeehnfaaGreat
open Go.RowKit Go.Shelf
attribute [local go_sem] bs_mk bs_append bs_extract bs_size bs_toList bs_get Oper.semAt_some
theorem FdAt.setBox {w : World} {x : Fd} (h : FdAt w x) {g : Nat} {ty : TypeId} {cs : Array Value} (hb : Blk w g ty cs) (h1 : ty ≠ 3) (h2 : ty ≠ 9) (o : Nat) (v : Value) : FdAt (w.setCell ⟨g, o, none⟩ v) x := by
  have r1 := ownsRow_setCell_other h.rows.1 (a := ⟨g, o, none⟩) (own_box h.rows.1 hb h1).symm v
  have r2 := ownsRow_setCell_other h.rows.2 (a := ⟨g, o, none⟩) (own_box h.rows.2 hb h2).symm v
  exact ⟨{ h.pn with targets := Cells.of_own r1, data := Cells.of_own r2 }, r1, r2⟩
theorem FdsOk.setBox {w : World} {l : List Fd} (h : FdsOk w l) {g : Nat} {ty : TypeId} {cs : Array Value} (hb : Blk w g ty cs) (h1 : ty ≠ 3) (h2 : ty ≠ 9) (o : Nat) (v : Value) : FdsOk (w.setCell ⟨g, o, none⟩ v) l := fun x hx => (h x hx).setBox hb h1 h2 o v
set_option maxRecDepth 100000 in
set_option maxHeartbeats 2000000 in
theorem j_scan (D : Dk) (p q : Pl) (w : World) (hD : IsDk w D p q) (hf : D.fit = true) :
    Calls Tryz.prog 40 #[dval D p q] w fun e w' => RetFds w.heap.size (jrScan D) e w' ∧ Below w.heap.size w w' := by
  have hl : D.data.length = D.sz * 64 := (Dk.fit_parts hf).2.2.1
  have hsz1024 := (Dk.fit_parts hf).2.1
  have hdl := hD.data
  have hrd := fun (W : World) (hb : Below w.heap.size w W) (k : Int) => d_read D p q W (hD.below hb) k hl
  have hdsz := fun W => d_size D p q hdl W
  have Hread64 := hid (fun (k : Int) (h : (D.read k).2 = 0) => Dk.read_full hf h)
  obtain ⟨i0, hi0, hz0, hz1, hz2⟩ := info_parts Tryz.infoStrP
  obtain ⟨i1, hi1, hy0, hy1, hy2⟩ := info_parts Tryz.infoFound'
  have n1 : 1 ≤ 6 := by omega
  clear hD hdl
  obtain ⟨A1, a1⟩ := p
  obtain ⟨A2, a2⟩ := q
  refine (callsIn_wide (n := 6)).1 (callsIn_of_wp_marks Tryz.func40 rfl trivial (wpIn_wide.2 ?_) rfl)
  simp only [Tryz.ntmps40, List.size_toArray, List.length_cons, List.length_nil, Nat.reduceAdd, Nat.reduceSub, Array.replicate_succ, Array.replicate_zero, List.push_toArray, List.append_toArray, List.nil_append, List.cons_append]
  go_wp2_with fail
  have hB := Below.refl w.heap.size w
  have x := Blk.new w 25 #[.string (bs D.data), .slice A1 D.cache.length a1, .int .i64 D.fuse, .bool D.off, .slice A2 D.bad.length a2]
  have xk := blk5 x
  have hB_1 := hB.alloc hB.size (.cells #[.string (bs D.data), .slice A1 D.cache.length a1, .int .i64 D.fuse, .bool D.off, .slice A2 D.bad.length a2] 25)
  go_wp2_with fail
  go_at_call 75
  refine ((j_span _)).mono ?_
  rintro e V ⟨rfl, hbs⟩
  replace hB := bt hB_1 hbs
  replace x := x.below hbs x.lt
  replace xk := blk5 x
  clear hB_1
  go_wp2_with fail
  have vl : w.heap.size < V.heap.size := x.lt
  go_loopw [6, 18] (fun l i W => ∃ m : Nat, m ≤ 81 ∧ i = .int .i64 m ∧ Hid (∀ j : Nat, j < m → (D.read (6 + (j : Int))).2 = 0) ∧ W.ownsRow V.heap.size 9 1 l m (strCells ((List.range m).map fun j : Nat => (D.read (6 + (j : Int))).1)) ∧ Below V.heap.size V W) (fun _ i _ => 81 - (intOf i).toNat)
  case atStart => exact ⟨0, Nat.zero_le _, rfl, hid (fun i hi => by omega), World.ownsRow_nil _ _ _ _, Below.refl _ _⟩
  case round =>
    obtain ⟨m, hm, rfl, hok, hown, hb⟩ := hrel
    have hbw := hB.trans (hb.mono hB.size)
    have xk := blk5 (x.below hb x.lt)
    by_cases hlt : m < 81
    · have hrm := hrd wr hbw (6 + (m : Int))
      obtain ⟨⟨s, er⟩, hx⟩ : ∃ y, D.read (6 + (m : Int)) = y := ⟨_, rfl⟩
      have Hmap := hid (show strCells ((List.range m).map fun j : Nat => (D.read (6 + (j : Int))).1) ++ [Value.string (bs s)] = strCells ((List.range (m + 1)).map fun j : Nat => (D.read (6 + (j : Int))).1) by simp [strCells, hx, List.range_succ])
      have Hst := hid (fun (he : er ≠ 0) => show jrScan D = ([], er) by
        have : jrAll D = ([], er) := by
          unfold jrAll
          rw [allN_stop (f := fun j : Nat => D.read (6 + (j : Int))) (n := m) (allN_all (fun i hi => hok.out i hi)) (by rw [hx]; exact he) 81 hlt, hx]
        unfold jrScan; rw [this, if_pos he])
      have Hok := hid (fun (he : er = 0) (i : Nat) (hi : i < m + 1) => show (D.read (6 + (i : Int))).2 = 0 by
        rcases Nat.lt_or_eq_of_le (Nat.le_of_lt_succ hi) with h | h
        · exact hok.out i h
        · rw [h, hx]; exact he)
      rw [hx] at hrm
      have w6 := i64w (x := 6 + (m : Int)) ⟨by omega, by omega⟩
      clear hx hok hrd
      by_cases he : er = 0
      · subst he
        go_wp2_with fail
        go_at_call 86
        refine hrm.mono ?_
        rintro e W ⟨rfl, hW⟩
        have o2 := own_below hown hW
        have b2 := hb.trans (hW.mono hb.size)
        have l2 := b2.size
        go_wp2_with (at_builtin; refine wpList_append_own _ rfl _ _ 26 rfl V.heap.size 9 i0 (.string ⟨#[]⟩) 1 16 Tryz.underlying26 hi0 hz0 hz1 hz2 rfl (by decide) _ _ _ rfl (o2.alloc _) ⟨W.heap.size, 0, none⟩ 1 1 [.string (bs s)] rfl rfl (World.news_of_block (Blk.new W 9 #[.string (bs s)])) (by simp [Value.oneCell']) (by unfold maxLen; omega) (by omega) (by simp; omega) ?_; intro v5 w5 h5 gr5 _)
        have b5 := (b2.alloc l2 (.cells #[.string (bs s)] 9)).trans (grown_below (o2.alloc (.cells #[.string (bs s)] 9)) gr5 (by simp; omega))
        go_roundw
        case rel => exact ⟨m + 1, by omega, by go_num, hid (by first | exact Hok.out rfl | exact Hok.out trivial), by rw [← Hmap.out]; exact h5, b5⟩
        case measure => simp [intOf]; omega
      · have n1 : (er != 0) = true := by simpa using he
        have Hst2 := hid (Hst.out he)
        clear he
        go_wp2_with fail
        go_at_call 86
        refine hrm.mono ?_
        rintro e W ⟨rfl, hW⟩
        go_wp2_with fail
        refine ⟨.tuple #[.slice none 0 0, .int .i64 er], by simp [results, Tryz.results40, go_sem], ?_⟩
        rw [Hst2.out]
        exact ⟨⟨[], _, rfl, rfl, World.ownsRow_nil _ _ _ _, fun x hx => by cases hx⟩, bt hbw hW⟩
    · obtain rfl : m = 81 := by omega
      have hall : jrAll D = ((List.range 81).map fun j : Nat => (D.read (6 + (j : Int))).1, 0) := allN_list hok.out
      obtain ⟨R, hR⟩ : ∃ R, ((List.range 81).map fun j : Nat => (D.read (6 + (j : Int))).1) = R := ⟨_, rfl⟩
      have hRl : R.length = 81 := by rw [← hR]; simp
      have hR64 : ∀ s ∈ R, s.length = 64 := fun s hs => by
        rw [← hR] at hs
        obtain ⟨j, hj, rfl⟩ := List.mem_map.1 hs
        exact Hread64.out _ (hok.out j (List.mem_range.1 hj))
      rw [hR] at hown hall
      have Hscan := hid (show jrScan D = (jrUpto R D.sz 81, 0) by unfold jrScan; rw [hall, if_neg (by simp)]; rfl)
      clear hok hall hR Hread64 hrd
      rcases hown.2 with ⟨h', h''⟩ | ⟨g, cR, cur, rfl, hgB, hgl, hcR, hcM, hcs, hct⟩
      · omega
      have HR64 := hid hR64
      clear hR64
      simp only [show ((81 : Nat) : Int) = 81 from rfl]
      have x2 := x.below hb x.lt
      clear xk
      have x2k := blk5 x2
      have bo := Blk.new wr 80 #[.slice none 0 0]
      have bok := blk1 bo
      have hbw_1 := hbw.alloc hbw.size (.cells #[.slice none 0 0] 80)
      have x2_2 := x2.alloc (.cells #[.slice none 0 0] 80)
      have x2k_2 := blk5 x2_2
      go_wp2_with fail
      go_at_call 88
      refine ((hdsz _)).mono ?_
      rintro e W2 ⟨rfl, hb2⟩
      replace hbw := bt hbw_1 hb2
      replace x2 := x2_2.below hb2 x2_2.lt
      replace x2k := blk5 x2
      replace bo := bo.below hb2 bo.lt
      replace bok := blk1 bo
      clear hbw_1 x2k_2 x2_2
      have hgw := (Array.getElem?_eq_some_iff.1 hgl).1
      have hg2 : W2.heap[g]? = wr.heap[g]? := by
        rw [hb2.block g (by simp; omega)]
        exact Below.heap_alloc _ _ _ hgw
      have hCg : ∀ W : World, W.heap[g]? = wr.heap[g]? → Cells W (some ⟨g, 0, none⟩) (strCells R) := fun W hW => by
        rcases Cells.of_own hown with h | ⟨b', o', e', hc⟩
        · exact .inl h
        · injection e' with e'
          injection e' with e1 e2
          subst e1; subst e2
          exact .inr ⟨g, 0, rfl, fun j u hu => (World.cell?_of_block (a := ⟨g, 0 + j, none⟩) hW).trans (hc j u hu)⟩
      have hsw := hb2.size
      simp only [World.size_alloc] at hsw
      go_wp2_with fail
      go_at_call 87
      refine (callsIn_wide.1 (j_records 5 _ _ _ _ _)).mono ?_
      rintro e W3 ⟨rfl, rfl⟩
      have b1 := (Blk.new W2 26 #[.slice (some ⟨g, 0, none⟩) 81 cR]).alloc (.cells #[.int .i64 D.sz] 3)
      have b2 := blk_second W2 (.cells #[.slice (some ⟨g, 0, none⟩) 81 cR] 26) 3 #[.int .i64 D.sz]
      have hbw_3 := hbw.alloc hbw.size (.cells #[.slice (some ⟨g, 0, none⟩) 81 cR] 26)
      have x2_4 := x2.alloc (.cells #[.slice (some ⟨g, 0, none⟩) 81 cR] 26)
      have x2k_4 := blk5 x2_4
      have bo_5 := bo.alloc (.cells #[.slice (some ⟨g, 0, none⟩) 81 cR] 26)
      have bok_5 := blk1 bo_5
      have hbw_6 := hbw_3.alloc hbw_3.size (.cells #[.int .i64 D.sz] 3)
      have x2_7 := x2_4.alloc (.cells #[.int .i64 D.sz] 3)
      have x2k_7 := blk5 x2_7
      have bo_8 := bo_5.alloc (.cells #[.int .i64 D.sz] 3)
      have bok_8 := blk1 bo_8
      have hg3 : ((W2.alloc (.cells #[.slice (some ⟨g, 0, none⟩) 81 cR] 26)).alloc (.cells #[.int .i64 D.sz] 3)).heap[g]? = wr.heap[g]? := by
        rw [Below.heap_alloc _ _ _ (by simp; omega), Below.heap_alloc _ _ _ (by omega), hg2]
      go_wp2_with fail
      have hbw3 := hbw_6
      have bo3 := bo_8
      generalize hV3 : (W2.alloc (.cells #[.slice (some ⟨g, 0, none⟩) 81 cR] 26)).alloc (.cells #[.int .i64 D.sz] 3) = V3 at *
      have l3 : W2.heap.size + 1 < V3.heap.size := b2.lt
      have hbs3 : ∀ h ∈ [W2.heap.size, W2.heap.size + 1, g], h < V3.heap.size ∧ h ≠ wr.heap.size := fun h hh => by
        simp only [List.mem_cons, List.not_mem_nil, or_false] at hh
        rcases hh with rfl | rfl | rfl <;> omega
      have hgl3 : g < V3.heap.size := by omega
      refine (wpIn_wide (n := 6)).1 ?_
      refine range_d rfl n1 (gf := 154) (lb := #[.pointer (some ⟨W2.heap.size, 0, none⟩), .pointer (some ⟨W2.heap.size + 1, 0, none⟩)]) rfl trivial (enters_of Tryz.func154 (by kernel_rfl) rfl)
        (records_stops 5 (by omega) R g 0 cR D.sz (by omega) g w.heap.size W2.heap.size (W2.heap.size + 1) V3 hbw3.size (by omega) (by omega) hcM HR64.out (by rw [hRl]; exact b1) b2 hgl3 (fun W hW => hCg W (hW.trans hg3)))
        KeepB.trans (fun W l o o' q1 q2 q3 q4 => KeepB.putObj o' (Nat.le_trans hbw3.size q1) (fun h hh => by have := hbs3 h hh; omega)) (Below.refl _ _) (fun _ => rfl)
        (fun pre W => (∃ v, Boxed W wr.heap.size 80 v ∧ W.ownsRow V3.heap.size 94 4 v pre.length (fdCells pre) ∧ True) ∧ FdsOk W pre ∧ KeepB w.heap.size [W2.heap.size, W2.heap.size + 1, g] V3 W)
        (fun c pre W => False)
        ?hI ?hIx ?h0
        (fun x a' W => FdAt W x ∧ ∃ b, Blk W b 92 #[.int .u64 x.tx.seq, .slice x.p.a x.tx.plan.targets.length x.p.c, .slice x.q.a x.tx.plan.data.length x.q.c] ∧ a' = (⟨#[dval D ⟨A1, a1⟩ ⟨A2, a2⟩, .pointer (some ⟨w.heap.size, 0, none⟩), u2,
          u3, .int .i64 6, .int .i64 81, .slice (some ⟨g, 0, none⟩) 81 cR, u7, u8, u9, .pointer (some ⟨wr.heap.size, 0, none⟩), .int .i64 x.pos, .pointer (some ⟨b, 0, none⟩),
          .tuple #[.int .i64 6, .int .i64 81], .tuple #[.int .i64 6, .int .i64 81], .int .i64 6, .int .i64 81, .int .i64 81, .int .i64 81, .bool false, u20, u21, u22,
          u23, u24, u25, u26, u27, u28, u29, u30, u31, u32, u33, u34, u35, u36, .slice (some ⟨g, 0, none⟩) 81 cR, dval D ⟨A1, a1⟩ ⟨A2, a2⟩, .int .i64 D.sz,
          .func (.func 154) #[] #[.pointer (some ⟨W2.heap.size, 0, none⟩), .pointer (some ⟨W2.heap.size + 1, 0, none⟩)],
          .int .i64 x.pos, tval x.tx x.p x.q, undef, undef, undef, undef, undef, undef, undef], []⟩ : Act))
        ?hAx ?assign ?body ?done ?stop
      case hI =>
        rintro pre X Y row ⟨h1, h2, h3⟩ hy hr
        exact ⟨(Own.from (holdsRow_own V3.heap.size wr.heap.size 80 94 4 (fun pre : List Fd => pre.length) (fun pre => fdCells pre) (fun _ _ => True)) V3.heap.size) pre X Y row h1 hy hr, fds_own _ pre X Y row h2 hy hr, keepB_own w.heap.size _ hbw3.size (fun h hh => (hbs3 h hh).1) rfl () X Y row h3 hy hr⟩
      case hIx =>
        rintro c pre X Y row h1 hy hr
        exact h1
      case h0 => exact ⟨⟨_, bo3, World.ownsRow_nil _ _ _ _, trivial⟩, fun x hx => (by cases hx), KeepB.refl _ _ _⟩
      case hAx =>
        rintro x a' s X Y row ⟨h1, b, h2, h3⟩ hy hr
        exact ⟨h1.quiet hy (fun r e => (hr r e).2), b, (Own.from (blk_own _ _ (fun _ : Unit => _)) V3.heap.size) () X Y row h2 hy hr, h3⟩
      case assign =>
        rintro l pre x W K ⟨h1, h2, h3⟩ hx hK
        dsimp only [fdEnc]
        gi_wp2_with fail
        have ha := (Below.refl W.heap.size W).alloc (Nat.le_refl _) (.cells #[.int .u64 x.tx.seq, .slice x.p.a x.tx.plan.targets.length x.p.c, .slice x.q.a x.tx.plan.data.length x.q.c] 92)
        have hka : KeepB w.heap.size [W2.heap.size, W2.heap.size + 1, g] W (W.alloc (.cells #[.int .u64 x.tx.seq, .slice x.p.a x.tx.plan.targets.length x.p.c, .slice x.q.a x.tx.plan.data.length x.q.c] 92)) := KeepB.later ha (Nat.le_trans hbw3.size h3.below.size) (fun h hh => Nat.lt_of_lt_of_le (hbs3 h hh).1 h3.below.size)
        obtain ⟨v, hv, ho, _⟩ := h1
        exact hK _ _ (keepsFrom_below ha) (StaysC.zero ha.size) hka ⟨⟨v, Boxed.alloc hv _, ho.alloc _, trivial⟩, h2.below ha, h3.trans hka⟩ ⟨hx.below ha, W.heap.size, Blk.new _ _ _, rfl⟩
      case body =>
        rintro l pre x a' W ⟨⟨v, hv, ho, _⟩, hok, hk⟩ ⟨hx, b, hb9, rfl⟩ hpl hsz
        obtain ⟨ps, t, ⟨C1, c1⟩, ⟨C2, c2⟩⟩ := x
        simp only at hb9
        have kv := hv.cell
        have fv := hv.frozen
        have yk := blk3 hb9
        have hsz3 : V3.heap.size ≤ W.heap.size := hk.below.size
        have hpl : pre.length < 81 := by rw [← hRl]; exact hpl
        gi_wp2_with (gi_at_builtin; refine wpListIn_append_own _ rfl _ _ 80 rfl V3.heap.size 94 i1 (.agg #[.int .i64 0, .int .u64 0, .slice none 0 0, .slice none 0 0]) 4 64 Tryz.underlying80 hi1 hy0 hy1 hy2 rfl (by decide) _ _ _ rfl (ho.alloc _) ⟨W.heap.size, 0, none⟩ 1 1 [.int .i64 ps, .int .u64 t.seq, .slice C1 t.plan.targets.length c1, .slice C2 t.plan.data.length c2] rfl rfl (World.news_of_block (Blk.new W 94 #[.int .i64 ps, .int .u64 t.seq, .slice C1 t.plan.targets.length c1, .slice C2 t.plan.data.length c2])) (by simp [Value.oneCell']) (by unfold maxLen; omega) (by omega) (by simp; omega) ?_; intro v' w1 hown' hgrow _; obtain ⟨g', cap', rfl⟩ := ownsRow_succ hown'; obtain ⟨q1, q2, q3, q4, q5, q6⟩ := appended_at hv (by decide) ho hsz3 hown' hgrow; have kl1 := blk1 q1; have fl1 := q1.frozen 0)
        have hkZ : KeepB w.heap.size [W2.heap.size, W2.heap.size + 1, g] W (w1.setCell ⟨wr.heap.size, 0, none⟩ (.slice (some ⟨g', 0, none⟩) (pre.length + 1) cap')) := ⟨q5 _ hbw3.size (by omega), fun h hh => q6 h (hbs3 h hh).1 (hbs3 h hh).2⟩
        have ho2 := ho.alloc (.cells #[.int .i64 ps, .int .u64 t.seq, .slice C1 t.plan.targets.length c1, .slice C2 t.plan.data.length c2] 94)
        have hba := (Below.refl W.heap.size W).alloc (Nat.le_refl _) (.cells #[.int .i64 ps, .int .u64 t.seq, .slice C1 t.plan.targets.length c1, .slice C2 t.plan.data.length c2] 94)
        have hok1 := (((hok.snoc hx).below hba).kept ho2 hgrow (by decide) (by decide)).setBox q1 (by decide) (by decide) 0 (.slice (some ⟨g', 0, none⟩) (pre.length + 1) cap')
        refine ⟨q4.from _, ⟨StaysC.zero q4.size, hkZ⟩, ⟨_, q2, ?_, trivial⟩, hok1, hk.trans hkZ⟩
        rw [List.length_append, List.length_singleton, ← fdCells_snoc]
        exact q3
      case done =>
        rintro Dd ys U hDd hS ⟨⟨v, hv, ho, _⟩, hok, hk⟩ hK
        rw [hRl] at hS
        obtain ⟨Al, cl, rfl, _⟩ := own_slice ho
        have kv := hv.cell
        go_wp2_with fail
        refine ⟨by simp, .inl ⟨_, _, rfl, run_takeDeferred hK, ?_⟩⟩
        refine ⟨.tuple #[.slice Al ys.length cl, .int .i64 0], by simp [results, Tryz.results40, go_sem], ⟨ys, .slice Al ys.length cl, ?_, ?_, ?_, ?_⟩, ?_⟩
        · rw [Hscan.out]; exact hS
        · rw [Hscan.out]
        · exact own_base (ownsRow_putObj ho (.deferred none) hK rfl) hbw3.size
        · exact hok.quiet (grownBy_putObj' _ _ _) (fun r e => by cases e; exact ⟨_, hK, rfl⟩)
        · exact (hbw3.trans hk.below).trans (belowK_b (w := w) (Nat.le_refl _) _ Dd _ _ (by have := hbw3.size; omega) hK rfl rfl)
      case stop =>
        rintro Dd c pre U hDd hpre hf
        exact hf.elim
end Go.Proofs.YtplgmlcoeehnfaaGreat
