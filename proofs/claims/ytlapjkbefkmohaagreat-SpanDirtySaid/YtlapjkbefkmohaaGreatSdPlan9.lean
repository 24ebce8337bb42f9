/- The document's ref05: plans with a sector more; a sector's bytes laid over. -/
import Derived.Test.YtlapjkbefkmohaaGreatSdPlan8
set_option linter.unusedVariables false
namespace Go.Proofs.YtlapjkbefkmohaaGreat
open Go.RowKit Go.Shelf
attribute [local go_sem] bs_mk bs_append bs_extract bs_size bs_toList bs_get
set_option maxRecDepth 100000 in
theorem r5_set_no (L : Pn) (p q : Pl) (w : World) (hL : IsPn w L p q) (k : Int) (s : List UInt8) (hs : s.length ≤ 9223372036854775807) (h : sectorOk k = false ∨ s.length ≠ 64) :
 Calls Tryz.prog 50 #[pval L p q, .int .i64 k, .string (bs s)] w fun e w' => RetPn w.heap.size L p q (L.set k s) e w' ∧ Below w.heap.size w w' := by
 have ho := fun W => r5_sector k W
 have Hz := hid (fun (W : World) (hb : Below w.heap.size w W) => hL.below hb)
 clear hL
 obtain ⟨A1, c1⟩ := p
 obtain ⟨A2, c2⟩ := q
 have b0 := Below.refl w.heap.size w
 have z := Blk.new w 67 #[.slice A1 L.targets.length c1, .slice A2 L.data.length c2]
 have zk := blk2 z
 have b0_1 := b0.alloc b0.size (.cells #[.slice A1 L.targets.length c1, .slice A2 L.data.length c2] 67)
 have r := Blk.new (w.alloc (.cells #[.slice A1 L.targets.length c1, .slice A2 L.data.length c2] 67)) 67 #[.slice none 0 0, .slice none 0 0]
 simp only [World.size_alloc] at r
 have rk := blk2 r
 have rkf := r.frozen
 have b0_2 := b0_1.alloc b0_1.size (.cells #[.slice none 0 0, .slice none 0 0] 67)
 have z_3 := z.alloc (.cells #[.slice none 0 0, .slice none 0 0] 67)
 have zk_3 := blk2 z_3
 cases h1 : sectorOk k with
 | false =>
  have Hw := hid (show L.set k s = (L, 10) by simp [Pn.set, h1])
  rw [h1] at ho
  clear h
  go_enter Tryz.func50, Tryz.ntmps50
  go_wp2_with fail
  go_at_call 76
  refine ((ho _)).mono ?_
  rintro e w1 ⟨rfl, hb1⟩
  replace b0 := bt b0_2 hb1
  replace z := z_3.below hb1 z_3.lt
  replace zk := blk2 z
  replace r := r.below hb1 r.lt
  replace rk := blk2 r
  replace rkf := r.frozen
  clear b0_1 b0_2 zk_3 z_3
  have lt := r.lt
  go_wp2_with fail
  rw [Hw.out]
  have yy := blk2 (blk_set2 r (.slice A1 L.targets.length c1) (.slice A2 L.data.length c2))
  have b9 := below_set2 b0 (g := w.heap.size + 1) (by omega) (.slice A1 L.targets.length c1) (.slice A2 L.data.length c2)
  refine bodyPost_ret (v := .tuple #[pval L ⟨A1, c1⟩ ⟨A2, c2⟩, .int .i64 10]) (by simp [results, Tryz.results50, go_sem, yy]) rfl ?_
  exact ⟨⟨_, _, rfl, Hz.out _ b9, fun _ _ h => h⟩, b9⟩
 | true =>
  have h2 : s.length ≠ 64 := by rcases h with h | h; (rw [h1] at h; cases h); exact h
  have Hw := hid (show L.set k s = (L, 11) by simp [Pn.set, h1, h2])
  have n0 : ((s.length : Int) != 64) = true := by simp; omega
  rw [h1] at ho
  clear h h2
  go_enter Tryz.func50, Tryz.ntmps50
  go_wp2_with fail
  go_at_call 76
  refine ((ho _)).mono ?_
  rintro e w1 ⟨rfl, hb1⟩
  replace b0 := bt b0_2 hb1
  replace z := z_3.below hb1 z_3.lt
  replace zk := blk2 z
  replace r := r.below hb1 r.lt
  replace rk := blk2 r
  replace rkf := r.frozen
  clear b0_1 b0_2 zk_3 z_3
  have lt := r.lt
  go_wp2_with fail
  rw [Hw.out]
  have yy := blk2 (blk_set2 r (.slice A1 L.targets.length c1) (.slice A2 L.data.length c2))
  have b9 := below_set2 b0 (g := w.heap.size + 1) (by omega) (.slice A1 L.targets.length c1) (.slice A2 L.data.length c2)
  refine bodyPost_ret (v := .tuple #[pval L ⟨A1, c1⟩ ⟨A2, c2⟩, .int .i64 11]) (by simp [results, Tryz.results50, go_sem, yy]) rfl ?_
  exact ⟨⟨_, _, rfl, Hz.out _ b9, fun _ _ h => h⟩, b9⟩
set_option maxRecDepth 100000 in
set_option maxHeartbeats 2000000 in
theorem r5_set_yes (L : Pn) (p q : Pl) (w : World) (hL : IsPn w L p q) (k : Int) (hk : -9223372036854775808 ≤ k ∧ k ≤ 9223372036854775807) (s : List UInt8) (h1 : sectorOk k = true) (h2 : s.length = 64) (ht : L.targets.length ≤ 1000000) (he : L.targets.length = L.data.length) :
 Calls Tryz.prog 50 #[pval L p q, .int .i64 k, .string (bs s)] w fun e w' => RetPn w.heap.size L p q (L.set k s) e w' ∧ Below w.heap.size w w' := by
 have ho := fun W => r5_sector k W
 rw [h1] at ho
 have hfd := fun (W : World) (hb : Below w.heap.size w W) => r5_find L p q k W (hL.below hb) (by omega)
 have n0 : ((s.length : Int) != 64) = false := by simp; omega
 have hd : L.data.length ≤ 1000000 := by omega
 have Hz := hid (fun (W : World) (hb : Below w.heap.size w W) => hL.below hb)
 have hs64 := h2
 have hats := hL.ats
 have hstrs := hL.strs
 have hpn := hL.pn
 have hqn := hL.qn
 clear hL
 obtain ⟨A1, c1⟩ := p
 obtain ⟨A2, c2⟩ := q
 simp only at hpn hqn
 obtain ⟨i1, j1, iz1, iz2, iz3⟩ := info_parts Tryz.infoIntP
 obtain ⟨i2, j2, jz1, jz2, jz3⟩ := info_parts Tryz.infoStrP
 have He := hid he
 have H2 := hid h2
 clear he h2 hs64
 have b0 := Below.refl w.heap.size w
 have z := Blk.new w 67 #[.slice A1 L.targets.length c1, .slice A2 L.data.length c2]
 have zk := blk2 z
 have b0_1 := b0.alloc b0.size (.cells #[.slice A1 L.targets.length c1, .slice A2 L.data.length c2] 67)
 have r := Blk.new (w.alloc (.cells #[.slice A1 L.targets.length c1, .slice A2 L.data.length c2] 67)) 67 #[.slice none 0 0, .slice none 0 0]
 simp only [World.size_alloc] at r
 have rk := blk2 r
 have rkf := r.frozen
 have b0_2 := b0_1.alloc b0_1.size (.cells #[.slice none 0 0, .slice none 0 0] 67)
 have z_3 := z.alloc (.cells #[.slice none 0 0, .slice none 0 0] 67)
 have zk_3 := blk2 z_3
 go_enter Tryz.func50, Tryz.ntmps50
 go_wp2_with fail
 go_at_call 76
 refine ((ho _)).mono ?_
 rintro e w1 ⟨rfl, hb1⟩
 replace b0 := bt b0_2 hb1
 replace z := z_3.below hb1 z_3.lt
 replace zk := blk2 z
 replace r := r.below hb1 r.lt
 replace rk := blk2 r
 replace rkf := r.frozen
 clear b0_1 b0_2 zk_3 z_3
 have lt1 := r.lt
 have i0 := Hz.out _ b0
 go_wp2_with (first | (at_builtin; refine wpList_app rfl (.tmp 19) (.tmp 21) 23 rfl w1.heap.size 3 i1 (.int .i64 0) 1 8 Tryz.underlying23 j1 iz1 iz2 iz3 rfl (by decide) _ 0 [] rfl (World.ownsRow_nil _ _ _ _) A1 L.targets.length c1 (intCells L.targets) rfl i0.targets (by rw [intCells_length]; simp) hpn (one_ints _) (by unfold maxLen; omega) (by omega) (Nat.le_refl _) ?_; intro v1 w2 hown1 hb2; rw [Nat.zero_add, List.nil_append] at hown1; obtain ⟨V1, C1, rfl, f1, g1, e1⟩ := own_slice hown1; have b2 := bt b0 hb2; have z2 := z.below hb2 z.lt; have zk2 := blk2 z2; have r2 := r.below hb2 r.lt) | (at_builtin; refine wpList_app rfl (.tmp 23) (.tmp 25) 65 rfl w2.heap.size 9 i2 (.string ⟨#[]⟩) 1 16 Tryz.underlying65 j2 jz1 jz2 jz3 rfl (by decide) _ 0 [] rfl (World.ownsRow_nil _ _ _ _) A2 L.data.length c2 (strCells L.data) rfl (Hz.out _ b2).data (by rw [strCells_length]; simp) hqn (one_strs _) (by unfold maxLen; omega) (by omega) (Nat.le_refl _) ?_; intro v2 w3 hown2 hb3; rw [Nat.zero_add, List.nil_append] at hown2; obtain ⟨V2, C2, rfl, f2, g2', e2⟩ := own_slice hown2; have b3 := bt b2 hb3; have z3 := z2.below hb3 z2.lt; have zk3 := blk2 z3; have r3 := r2.below hb3 r2.lt))
 have o1 := own_below hown1 hb3
 have w1l := hb2.size
 have w2l := hb3.size
 have o2 := own_base hown2 w1l
 clear hown1 hown2 z zk r rk rkf z2 zk2 r2 i0 b0 b2
 by_cases hm : k ∈ L.targets
 · obtain ⟨i, hi, m1, m2, m3⟩ := Pn.find_in hm
   have hid2 : i < L.data.length := by have := He.out; omega
   have Hw := hid (show L.set k s = (⟨L.targets, L.data.set i s⟩, 0) by rw [Pn.set, if_neg (by rw [h1]; simp), if_neg (by have := H2.out; omega), if_pos hm, m3])
   have hf := hfd _ b3
   rw [m1] at hf
   clear m1 m2 m3 hm hfd
   go_at_call 77
   refine hf.mono ?_
   rintro e w4 ⟨rfl, hb4⟩
   have b4 := bt b3 hb4
   have z4 := z3.below hb4 z3.lt
   have r4 := r3.below hb4 r3.lt
   have p1 := own_below o1 hb4
   have p2 := own_below o2 hb4
   have w3l := hb4.size
   obtain ⟨g2, rfl⟩ : ∃ g2, V2 = some ⟨g2, 0, none⟩ := by
    rcases p2.2 with ⟨_, h⟩ | ⟨g2, cap, cur, h, _⟩
    · omega
    · injection h with h; exact ⟨g2, h⟩
   have hg2 := (p2.lt g2 rfl).1
   have ng1 : ¬ w.heap.size + 1 = g2 := by omega
   have ng2 : ¬ g2 = w.heap.size + 1 := by omega
   have cst := p2.cellAt i (by omega)
   rw [show (strCells L.data)[i]? = some (.string (bs L.data[i])) by simp [strCells, hid2]] at cst
   have fst := p2.frozenAt i
   have st := (p2.stored i (.string (bs s))).1
   have zk4 := blk2 z4
   have rk4 := blk2 r4
   have rf4 := r4.frozen
   have r5 := r4.other (a := ⟨g2, i, none⟩) ng1 (.string (bs s))
   have rk5 := blk2 r5
   have rf5 := r5.frozen
   go_wp2_with fail
   rw [Hw.out]
   have yy := blk2 (blk_set2 r5 (.slice V1 L.targets.length C1) (.slice (some ⟨g2, 0, none⟩) L.data.length C2))
   have b9 := below_set2 (b4.setCell (p := ⟨g2, i, none⟩) (by show w.heap.size ≤ g2; omega) (.string (bs s))) (g := w.heap.size + 1) (by omega) (.slice V1 L.targets.length C1) (.slice (some ⟨g2, 0, none⟩) L.data.length C2)
   have nb : ∀ b off, V1 = some ⟨b, off, none⟩ → b ≠ g2 := by
    rintro b off rfl rfl
    rcases p1.2 with ⟨h, _⟩ | ⟨g3, cap, cur, h, _, h3, _⟩
    · injection h with h; cases h
    · injection h with h; injection h with h; injection h with h
      subst h
      rcases p2.2 with ⟨h, _⟩ | ⟨g4, cap', cur', h, _, h4, _⟩
      · injection h with h; cases h
      · injection h with h; injection h with h; injection h with h
        subst h
        rw [h3] at h4
        injection h4 with h4
        injection h4 with _ h4
        exact absurd h4 (by decide)
   have ct := (((Cells.of_own p1).setCell (p := ⟨g2, i, none⟩) nb (.string (bs s))).setCell (p := ⟨w.heap.size + 1, 0, none⟩) (own_beyond p1 lt1) (.slice V1 L.targets.length C1)).setCell (p := ⟨w.heap.size + 1, 1, none⟩) (own_beyond p1 lt1) (.slice (some ⟨g2, 0, none⟩) L.data.length C2)
   have cd := ((Cells.of_own st).setCell (p := ⟨w.heap.size + 1, 0, none⟩) (own_beyond st lt1) (.slice V1 L.targets.length C1)).setCell (p := ⟨w.heap.size + 1, 1, none⟩) (own_beyond st lt1) (.slice (some ⟨g2, 0, none⟩) L.data.length C2)
   rw [show (strCells L.data).set i (.string (bs s)) = strCells (L.data.set i s) by simp [strCells, List.map_set]] at cd
   refine bodyPost_ret (v := .tuple #[pval ⟨L.targets, L.data.set i s⟩ ⟨V1, C1⟩ ⟨some ⟨g2, 0, none⟩, C2⟩, .int .i64 0]) (by simp [results, Tryz.results50, go_sem, yy]) rfl ?_
   refine ⟨⟨_, _, rfl, ⟨ct, cd, e1, e2, f1, by simpa using f2, g1, g2', hats, fun x hx => ?_⟩, fun g hg _ => ⟨off_own p1 (by omega), by rw [List.length_set]; exact off_own p2 (by omega)⟩⟩, b9⟩
   rcases List.mem_or_eq_of_mem_set hx with h | h
   · exact hstrs x h
   · subst h; have := H2.out; omega
 · have hf := hfd _ b3
   rw [Pn.find_out hm] at hf
   clear hfd
   go_at_call 77
   refine hf.mono ?_
   rintro e w4 ⟨rfl, hb4⟩
   have b4 := bt b3 hb4
   have z4 := z3.below hb4 z3.lt
   have r4 := r3.below hb4 r3.lt
   have p1 := own_below o1 hb4
   have p2 := own_below o2 hb4
   have w3l := hb4.size
   have zk4 := blk2 z4
   have rk4 := blk2 r4
   have rf4 := r4.frozen
   by_cases hfull : 24 ≤ L.targets.length
   · have Hw := hid (show L.set k s = (L, 16) by rw [Pn.set, if_neg (by rw [h1]; simp), if_neg (by have := H2.out; omega), if_neg hm, if_pos hfull])
     clear hm
     go_wp2_with fail
     rw [Hw.out]
     have yy := blk2 (blk_set2 r4 (.slice A1 L.targets.length c1) (.slice A2 L.data.length c2))
     have b9 := below_set2 b4 (g := w.heap.size + 1) (by omega) (.slice A1 L.targets.length c1) (.slice A2 L.data.length c2)
     refine bodyPost_ret (v := .tuple #[pval L ⟨A1, c1⟩ ⟨A2, c2⟩, .int .i64 16]) (by simp [results, Tryz.results50, go_sem, yy]) rfl ?_
     exact ⟨⟨_, _, rfl, Hz.out _ b9, fun _ _ h => h⟩, b9⟩
   · have Hw := hid (show L.set k s = (⟨L.targets ++ [k], L.data ++ [s]⟩, 0) by rw [Pn.set, if_neg (by rw [h1]; simp), if_neg (by have := H2.out; omega), if_neg hm, if_neg hfull])
     clear hm
     go_wp2_with (first | (at_builtin; refine wpList_append_own _ rfl (.tmp 43) (.tmp 45) 23 rfl w1.heap.size 3 i1 (.int .i64 0) 1 8 Tryz.underlying23 j1 iz1 iz2 iz3 rfl (by decide) _ L.targets.length (intCells L.targets) rfl (p1.alloc _) ⟨w4.heap.size, 0, none⟩ 1 1 [.int .i64 k] rfl rfl (World.news_of_block (Blk.new w4 3 #[.int .i64 k])) (by simp [Value.oneCell']) (by unfold maxLen; omega) (by omega) (by simp; omega) ?_; intro v5 w5 h5 gr5 _; have gr5 : (w4.alloc (.cells #[.int .i64 k] 3)).grownBy w5 (Value.slice V1 L.targets.length C1).ownBlock := gr5; have q2 := (p2.alloc (.cells #[.int .i64 k] 3)).kept gr5 (own_apart (p2.alloc (.cells #[.int .i64 k] 3)) (p1.alloc (.cells #[.int .i64 k] 3)) (by decide)); have r5 := (r4.alloc (.cells #[.int .i64 k] 3)).kept gr5 (own_box (p1.alloc (.cells #[.int .i64 k] 3)) (r4.alloc (.cells #[.int .i64 k] 3)) (by decide)); have b5 := (b4.alloc b4.size (.cells #[.int .i64 k] 3)).trans ((grown_below (p1.alloc (.cells #[.int .i64 k] 3)) gr5 (by simp; omega)).mono (by omega)); have w5l := gr5.size; obtain ⟨V5, C5, rfl, f5, g5, e5⟩ := own_slice h5) | (at_builtin; refine wpList_append_own _ rfl (.tmp 47) (.tmp 49) 65 rfl w1.heap.size 9 i2 (.string ⟨#[]⟩) 1 16 Tryz.underlying65 j2 jz1 jz2 jz3 rfl (by decide) _ L.data.length (strCells L.data) rfl (q2.alloc _) ⟨w5.heap.size, 0, none⟩ 1 1 [.string (bs s)] rfl rfl (World.news_of_block (Blk.new w5 9 #[.string (bs s)])) (by simp [Value.oneCell']) (by unfold maxLen; omega) (by omega) (by simp at w5l ⊢; omega) ?_; intro v6 w6 h6 gr6 _; have gr6 : (w5.alloc (.cells #[.string (bs s)] 9)).grownBy w6 (Value.slice V2 L.data.length C2).ownBlock := gr6; have h7 := (h5.alloc (.cells #[.string (bs s)] 9)).kept gr6 (own_apart (h5.alloc (.cells #[.string (bs s)] 9)) (q2.alloc (.cells #[.string (bs s)] 9)) (by decide)); have r6 := (r5.alloc (.cells #[.string (bs s)] 9)).kept gr6 (own_box (q2.alloc (.cells #[.string (bs s)] 9)) (r5.alloc (.cells #[.string (bs s)] 9)) (by decide)); have b6 := (b5.alloc b5.size (.cells #[.string (bs s)] 9)).trans ((grown_below (q2.alloc (.cells #[.string (bs s)] 9)) gr6 (by simp at w5l ⊢; omega)).mono (by omega)); obtain ⟨V6, C6, rfl, f6, g6, e6⟩ := own_slice h6; have rk6 := blk2 r6; have rf6 := r6.frozen))
     rw [Hw.out]
     have yy := blk2 (blk_set2 r6 (.slice V5 (L.targets.length + 1) C5) (.slice V6 (L.data.length + 1) C6))
     have b9 := below_set2 b6 (g := w.heap.size + 1) (by omega) (.slice V5 (L.targets.length + 1) C5) (.slice V6 (L.data.length + 1) C6)
     have ct := ((Cells.of_own h7).setCell (p := ⟨w.heap.size + 1, 0, none⟩) (own_beyond h7 lt1) (.slice V5 (L.targets.length + 1) C5)).setCell (p := ⟨w.heap.size + 1, 1, none⟩) (own_beyond h7 lt1) (.slice V6 (L.data.length + 1) C6)
     have cd := ((Cells.of_own h6).setCell (p := ⟨w.heap.size + 1, 0, none⟩) (own_beyond h6 lt1) (.slice V5 (L.targets.length + 1) C5)).setCell (p := ⟨w.heap.size + 1, 1, none⟩) (own_beyond h6 lt1) (.slice V6 (L.data.length + 1) C6)
     rw [show intCells L.targets ++ [Value.int .i64 k] = intCells (L.targets ++ [k]) by simp [intCells]] at ct
     rw [show strCells L.data ++ [Value.string (bs s)] = strCells (L.data ++ [s]) by simp [strCells]] at cd
     refine bodyPost_ret (v := .tuple #[pval ⟨L.targets ++ [k], L.data ++ [s]⟩ ⟨V5, C5⟩ ⟨V6, C6⟩, .int .i64 0]) (by simp [results, Tryz.results50, go_sem, yy]) rfl ?_
     refine ⟨⟨_, _, rfl, ⟨ct, cd, e5, e6, by simpa using f5, by simpa using f6, g5, g6, fun x hx => ?_, fun x hx => ?_⟩, fun g hg _ => ⟨by have := off_own (g := g) h7 (by omega); simpa using this, by have := off_own (g := g) h6 (by omega); simpa using this⟩⟩, b9⟩
     · rcases List.mem_append.1 hx with h | h
       · exact hats x h
       · simp at h; subst h; exact hk
     · rcases List.mem_append.1 hx with h | h
       · exact hstrs x h
       · simp at h; subst h; have := H2.out; omega
theorem r5_set (L : Pn) (p q : Pl) (w : World) (hL : IsPn w L p q) (k : Int) (hk : -9223372036854775808 ≤ k ∧ k ≤ 9223372036854775807) (s : List UInt8) (hs : s.length ≤ 9223372036854775807) (ht : L.targets.length ≤ 1000000) (he : L.targets.length = L.data.length) :
 Calls Tryz.prog 50 #[pval L p q, .int .i64 k, .string (bs s)] w fun e w' => RetPn w.heap.size L p q (L.set k s) e w' ∧ Below w.heap.size w w' := by
 cases h1 : sectorOk k with
 | false => exact r5_set_no L p q w hL k s hs (.inl h1)
 | true =>
  by_cases h2 : s.length = 64
  · exact r5_set_yes L p q w hL k hk s h1 h2 ht he
  · exact r5_set_no L p q w hL k s hs (.inr h2)
set_option maxRecDepth 100000 in
theorem r5_patch (D : Dk) (L : Pn) (p q p' q' : Pl) (w : World) (hD : IsDk w D p q) (hL : IsPn w L p' q') (hf : D.fit = true) (hfl : L.Fit) (k o : Int) (hk : -9223372036854775808 ≤ k ∧ k ≤ 9223372036854775807) (s : List UInt8) (hs : s.length ≤ 9223372036854775807) :
 Calls Tryz.prog 78 #[dval D p q, pval L p' q', .int .i64 k, .int .i64 o, .string (bs s)] w fun e w' => RetPn w.heap.size L p' q' (Pn.patch D L k o s) e w' ∧ Below w.heap.size w w' := by
 have hlk := fun (W : World) (hb : Below w.heap.size w W) => r5_look D L p q p' q' W (hD.below hb) (hL.below hb) k (Dk.fit_parts hf).2.2.1 (by have := hfl.2.1; omega) hfl.1
 have hst := fun (W : World) (hb : Below w.heap.size w W) (s : List UInt8) (hs : s.length ≤ 9223372036854775807) => r5_set L p' q' W (hL.below hb) k hk s hs (by have := hfl.2.1; omega) hfl.1
 have Hap := hid (fun g (hg : w.heap.size ≤ g) => hL.apart hg)
 obtain ⟨b, er, hb⟩ : ∃ b er, Pn.look D L k = (b, er) := ⟨_, _, rfl⟩
 have hbl : b.length ≤ 64 := by have := look_len hf hfl k; rw [hb] at this; exact this
 obtain ⟨c, f, hc⟩ : ∃ c f, Pn.laidOver b o s = (c, f) := ⟨_, _, rfl⟩
 have hcl : f = 0 → c.length ≤ 9223372036854775807 := by
  intro h0
  rw [Pn.laidOver] at hc
  split at hc
  · injection hc with h1 h2; omega
  · injection hc with h1 h2
    rw [← h1, over_length _ _ _ (by omega)]
    omega
 have hov := fun (W : World) => r3_over b s o W (by omega) hs
 rw [hc] at hov
 simp only [hb] at hlk
 have Hp := hid (show Pn.patch D L k o s = if er ≠ 0 then (L, er) else if f ≠ 0 then (L, f) else L.set k c by rw [Pn.patch, hb, hc])
 have Hz := hid (fun (W : World) (hb : Below w.heap.size w W) => hL.below hb)
 clear hb hc hD hL hf hfl
 obtain ⟨A1, c1⟩ := p
 obtain ⟨A2, c2⟩ := q
 obtain ⟨B1, d1⟩ := p'
 obtain ⟨B2, d2⟩ := q'
 have b0 := Below.refl w.heap.size w
 have x := Blk.new w 25 #[.string (bs D.data), .slice A1 D.cache.length c1, .int .i64 D.fuse, .bool D.off, .slice A2 D.bad.length c2]
 have xk := blk5 x
 have b0_1 := b0.alloc b0.size (.cells #[.string (bs D.data), .slice A1 D.cache.length c1, .int .i64 D.fuse, .bool D.off, .slice A2 D.bad.length c2] 25)
 have z := Blk.new (w.alloc (.cells #[.string (bs D.data), .slice A1 D.cache.length c1, .int .i64 D.fuse, .bool D.off, .slice A2 D.bad.length c2] 25)) 67 #[.slice B1 L.targets.length d1, .slice B2 L.data.length d2]
 simp only [World.size_alloc] at z
 have zk := blk2 z
 have b0_2 := b0_1.alloc b0_1.size (.cells #[.slice B1 L.targets.length d1, .slice B2 L.data.length d2] 67)
 have x_3 := x.alloc (.cells #[.slice B1 L.targets.length d1, .slice B2 L.data.length d2] 67)
 have xk_3 := blk5 x_3
 have r := Blk.new ((w.alloc (.cells #[.string (bs D.data), .slice A1 D.cache.length c1, .int .i64 D.fuse, .bool D.off, .slice A2 D.bad.length c2] 25)).alloc (.cells #[.slice B1 L.targets.length d1, .slice B2 L.data.length d2] 67)) 67 #[.slice none 0 0, .slice none 0 0]
 simp only [World.size_alloc] at r
 have rk := blk2 r
 have rkf := r.frozen
 have b0_4 := b0_2.alloc b0_2.size (.cells #[.slice none 0 0, .slice none 0 0] 67)
 have x_5 := x_3.alloc (.cells #[.slice none 0 0, .slice none 0 0] 67)
 have xk_5 := blk5 x_5
 have z_6 := z.alloc (.cells #[.slice none 0 0, .slice none 0 0] 67)
 have zk_6 := blk2 z_6
 go_enter Tryz.func78, Tryz.ntmps78
 go_wp2_with fail
 go_at_call 55
 refine ((hlk _ b0_4)).mono ?_
 rintro e w1 ⟨rfl, hb1⟩
 replace b0 := bt b0_4 hb1
 replace x := x_5.below hb1 x_5.lt
 replace xk := blk5 x
 replace z := z_6.below hb1 z_6.lt
 replace zk := blk2 z
 replace r := r.below hb1 r.lt
 replace rk := blk2 r
 replace rkf := r.frozen
 clear b0_1 b0_2 xk_3 x_3 b0_4 xk_5 x_5 zk_6 z_6
 have w1l := b0.size
 have lt2 := r.lt
 by_cases h1 : er = 0
 case neg =>
  have n1 : (er != 0) = true := by simpa using h1
  have Hr := hid (show Pn.patch D L k o s = (L, er) by rw [Hp.out, if_pos h1])
  clear h1
  go_wp2_with fail
  rw [Hr.out]
  have yy := blk2 (blk_set2 r (.slice B1 L.targets.length d1) (.slice B2 L.data.length d2))
  have b9 := below_set2 b0 (g := w.heap.size + 1 + 1) (by omega) (.slice B1 L.targets.length d1) (.slice B2 L.data.length d2)
  refine bodyPost_ret (v := .tuple #[pval L ⟨B1, d1⟩ ⟨B2, d2⟩, .int .i64 er]) (by simp [results, Tryz.results78, go_sem, yy]) rfl ?_
  exact ⟨⟨_, _, rfl, Hz.out _ b9, fun _ _ h => h⟩, b9⟩
 subst h1
 go_wp2_with fail
 go_at_call 36
 refine ((hov _)).mono ?_
 rintro e w2 ⟨rfl, hb2⟩
 replace b0 := bt b0 hb2
 replace x := x.below hb2 x.lt
 replace xk := blk5 x
 replace z := z.below hb2 z.lt
 replace zk := blk2 z
 replace r := r.below hb2 r.lt
 replace rk := blk2 r
 replace rkf := r.frozen
 have w2l := b0.size
 have lt3 := r.lt
 by_cases h2 : f = 0
 case neg =>
  have n1 : (f != 0) = true := by simpa using h2
  have Hr := hid (show Pn.patch D L k o s = (L, f) by rw [Hp.out, if_neg (by simp), if_pos h2])
  clear h2
  go_wp2_with fail
  rw [Hr.out]
  have yy := blk2 (blk_set2 r (.slice B1 L.targets.length d1) (.slice B2 L.data.length d2))
  have b9 := below_set2 b0 (g := w.heap.size + 1 + 1) (by omega) (.slice B1 L.targets.length d1) (.slice B2 L.data.length d2)
  refine bodyPost_ret (v := .tuple #[pval L ⟨B1, d1⟩ ⟨B2, d2⟩, .int .i64 f]) (by simp [results, Tryz.results78, go_sem, yy]) rfl ?_
  exact ⟨⟨_, _, rfl, Hz.out _ b9, fun _ _ h => h⟩, b9⟩
 subst h2
 have hcl' := hcl rfl
 have Hr := hid (show Pn.patch D L k o s = L.set k c by rw [Hp.out, if_neg (by simp), if_neg (by simp)])
 clear hcl
 go_wp2_with fail
 go_at_call 50
 refine ((hst _ b0 c hcl')).mono ?_
 rintro e w3 ⟨⟨p3, q3, rfl, i3, o3⟩, hb3⟩
 replace b0 := bt b0 hb3
 replace x := x.below hb3 x.lt
 replace xk := blk5 x
 replace z := z.below hb3 z.lt
 replace zk := blk2 z
 replace r := r.below hb3 r.lt
 replace rk := blk2 r
 replace rkf := r.frozen
 have w3l := b0.size
 go_wp2_with fail
 rw [Hr.out]
 have ho := o3 (w.heap.size + 1 + 1) lt3 (Hap.out _ (by omega))
 have yy := blk2 (blk_set2 r (.slice p3.a (L.set k c).1.targets.length p3.c) (.slice q3.a (L.set k c).1.data.length q3.c))
 have b9 := below_set2 b0 (g := w.heap.size + 1 + 1) (by omega) (.slice p3.a (L.set k c).1.targets.length p3.c) (.slice q3.a (L.set k c).1.data.length q3.c)
 refine bodyPost_ret (v := .tuple #[pval (L.set k c).1 p3 q3, .int .i64 (L.set k c).2]) (by simp [results, Tryz.results78, go_sem, yy]) rfl ?_
 exact ⟨⟨_, _, rfl, i3.off2 ho _ _, fun g hg h => o3 g (by omega) h⟩, b9⟩
end Go.Proofs.YtlapjkbefkmohaaGreat
