/- SpanTells: what ranges are, as a first table has it, and as a dirty bitmap has it, and extents that are joined, are the document's: any fit image of few writes, any numbers, any name, any extents. No condition. -/
import Derived.Test.YtlapjkbefkmohaaGreatStLaw15b
import Derived.Test.YtlapjkbefkmohaaGreatStGood15
import Derived.Test.YtlapjkbefkmohaaGreatStOpens3
import Derived.Test.YtlapjkbefkmohaaGreatStRoot3
set_option linter.unusedVariables false
namespace Go.Proofs.YtlapjkbefkmohaaGreat.spanTells
open Go.RowKit Go.Shelf Go.WideShapes Go.ChangeShapes Go.ChangeAt
open Go.ChangeMaps (open_string shut_string)
attribute [local go_sem] bs_mk bs_append bs_extract bs_size bs_toList bs_get
theorem joinAll_step (s : List Xt × Xt) (h : JoinOk s) (x : Xt) : (joinAll (joinStep s x)).length ≤ (joinAll s).length + 1 := by
 have hr := h.run
 have hf := h.first
 unfold joinStep
 split
 · omega
 split
 · rename_i h1 h2
   unfold joinAll
   rw [if_pos h2.1]
   split
   · simp
   · exact Nat.le_succ_of_le (by simp)
 split
 · rename_i h1 h2 h3
   unfold joinAll
   rw [if_pos h3]
   split
   · simp
   · exact Nat.le_succ_of_le (Nat.le_refl _)
 · rename_i h1 h2 h3
   have e : s.1 = [] := hf (by omega)
   unfold joinAll
   rw [if_neg h3, e]
   split <;> simp
theorem join_short (l : List Xt) : (join l).length ≤ l.length := by
 have H : ∀ n, n ≤ l.length → (joinAll (joinSt (l.take n))).length ≤ n := fun n => by
  induction n with
  | zero => intro _; simp [joinSt, joinAll]
  | succ n ih =>
   intro hn
   rw [List.take_succ_eq_append_getElem (by omega), joinSt_snoc]
   have := joinAll_step _ (joinOk (l.take n)) l[n]
   have := ih (by omega)
   omega
 have := H l.length (Nat.le_refl _)
 rwa [List.take_length] at this
theorem spanOf_short (f : Int → Int × Int) (g a n : Int) : (spanOf f g a n).1.length ≤ 514 := by
 unfold spanOf
 split
 · exact Nat.zero_le _
 split
 · exact Nat.zero_le _
 · rename_i h1 h2
   have := join_short (tell f (Im.cuts a n)).1
   have := tell_len f (Classical.not_not.1 h2)
   have := cuts_length a n
   show (join _).length ≤ 514
   omega
theorem dirty_short (l : List Dm) (nm : List UInt8) (g a n : Int) : (Im.dirty l nm g a n).1.length ≤ 514 := by
 unfold Im.dirty
 split
 · exact Nat.zero_le _
 split
 · exact Nat.zero_le _
 · exact spanOf_short _ _ _ _
set_option maxRecDepth 100000 in
theorem walk_no (D : Dk) (g h : Int) (j : Jr) (maps : List Dm) (br : Bool) (p q r : Pl) (l1 : Int) (nm : List UInt8) (a n : Int) (l : List Xt) (A : Option Addr) (c : Nat) (w : World) (hI : IsIm0 w D g h j maps p q r) (hl9 : l.length ≤ 9223372036854775807) (hg : goodI D g h j maps = false ∨ 500 < l.length) :
 Calls Tryz.prog 4 #[imval0 D g h j maps br p q r, .int .i64 l1, .string (bs nm), .int .i64 a, .int .i64 n, .slice A l.length c] w fun e w' => e = .returned (.bool true) ∧ Below w.heap.size w w' := by
 have hG := fun (W : World) (hb : Below w.heap.size w W) => good15 D g h j maps br p q r W (hI.below hb)
 clear hI
 obtain ⟨sq, pos⟩ := j
 obtain ⟨A1, a1⟩ := p
 obtain ⟨A2, a2⟩ := q
 obtain ⟨A3, a3⟩ := r
 have hB := Below.refl w.heap.size w
 have x := Blk.new w 33 #[.string (bs D.data), .slice A1 D.cache.length a1, .int .i64 D.fuse, .bool D.off, .slice A2 D.bad.length a2, .int .i64 g, .int .i64 h, .int .u64 sq, .int .i64 pos, .slice A3 maps.length a3, .bool br]
 have xk := blk11 x
 have hB_1 := hB.alloc hB.size (.cells #[.string (bs D.data), .slice A1 D.cache.length a1, .int .i64 D.fuse, .bool D.off, .slice A2 D.bad.length a2, .int .i64 g, .int .i64 h, .int .u64 sq, .int .i64 pos, .slice A3 maps.length a3, .bool br] 33)
 cases hgb : goodI D g h ⟨sq, pos⟩ maps with
 | false =>
  rw [hgb] at hG
  go_enter Tryz.func4, Tryz.ntmps4
  go_wp2_with fail
  go_at_call 6
  refine ((hG _ hB_1)).mono ?_
  rintro e w1 ⟨rfl, hb1⟩
  replace hB := bt hB_1 hb1
  replace x := x.below hb1 x.lt
  replace xk := blk11 x
  clear hB_1
  go_wp2_with fail
  go_at_call 7
  refine ((awake15 _)).mono ?_
  rintro e w2 ⟨rfl, hb2⟩
  replace hB := bt hB hb2
  replace x := x.below hb2 x.lt
  replace xk := blk11 x
  go_wp2_with fail
  go_ret
  exact ⟨rfl, hB⟩
 | true =>
  have h5 : 500 < l.length := by
   rcases hg with h9 | h9
   · rw [hgb] at h9; cases h9
   · exact h9
  have g1 : (500 : Int) < (l.length : Int) := by omega
  rw [hgb] at hG
  go_enter Tryz.func4, Tryz.ntmps4
  go_wp2_with fail
  go_at_call 6
  refine ((hG _ hB_1)).mono ?_
  rintro e w1 ⟨rfl, hb1⟩
  replace hB := bt hB_1 hb1
  replace x := x.below hb1 x.lt
  replace xk := blk11 x
  clear hB_1
  go_wp2_with fail
  go_at_call 7
  refine ((awake15 _)).mono ?_
  rintro e w2 ⟨rfl, hb2⟩
  replace hB := bt hB hb2
  replace x := x.below hb2 x.lt
  replace xk := blk11 x
  go_wp2_with fail
  go_ret
  exact ⟨rfl, hB⟩
set_option maxRecDepth 100000 in
set_option maxHeartbeats 2000000 in
theorem walk_yes (D : Dk) (g : Int) (h : Nat) (j : Jr) (maps : List Dm) (br : Bool) (p q r : Pl) (l1 : Int) (nm : List UInt8) (hnm : nm.length ≤ maxLen) (a n : Int) (ha : okInt a) (hn : okInt n) (l : List Xt) (A : Option Addr) (c : Nat) (w : World) (hA : Cells w A (entCells l)) (h64 : ∀ x ∈ l, okInt x.1 ∧ okInt x.2) (hl : l.length ≤ 500)
 (hI0 : IsIm0 w D g h j maps p q r) (hg : goodI D g h j maps = true) (hI : IsIm w ⟨D, g, h, j, maps, br⟩ p q r) (ok : (⟨D, g, h, j, maps, br⟩ : Im).Ok) :
 Calls Tryz.prog 4 #[imval0 D g h j maps br p q r, .int .i64 l1, .string (bs nm), .int .i64 a, .int .i64 n, .slice A l.length c] w fun e w' => e = .returned (.bool true) ∧ Below w.heap.size w w' := by
 have hG := fun (W : World) (hb : Below w.heap.size w W) => good15 D g h j maps br p q r W (hI0.below hb)
 rw [hg] at hG
 have hs1 := fun (W : World) (hb : Below w.heap.size w W) => sp_status ⟨D, g, h, j, maps, br⟩ p q r W (hI.below hb) ok.d ok.g l1 a n ha hn
 have hs2 := fun (W : World) (hb : Below w.heap.size w W) => r15_status ⟨D, g, h, j, maps, br⟩ p q r W (hI.below hb) ok.d ok.g l1 a n ha hn
 have hd1 := fun (W : World) (hb : Below w.heap.size w W) => sp_dirty ⟨D, g, h, j, maps, br⟩ p q r W (hI.below hb) ok.g nm hnm a n ha hn
 have hd2 := fun (W : World) (hb : Below w.heap.size w W) => r15_dirty ⟨D, g, h, j, maps, br⟩ p q r W (hI.below hb) ok.g nm hnm a n ha hn
 have hj1 := fun (W : World) (hb : Below w.heap.size w W) => sp_join l A c (by omega) (fun x hx => (h64 x hx).1) W (hA.below hb)
 have hj2 := fun (W : World) (hb : Below w.heap.size w W) => r15_join l A c (by omega) (fun x hx => (h64 x hx).1) W (hA.below hb)
 have b1 : (Im.status D g l1 a n).1.length ≤ 514 := spanOf_short _ _ _ _
 have b2 := dirty_short maps nm g a n
 have b3 := join_short l
 simp only at hs1 hs2 hd1 hd2
 generalize Im.status D g l1 a n = X at *
 generalize Im.dirty maps nm g a n = Y at *
 generalize join l = Z at *
 obtain ⟨X, xe⟩ := X
 obtain ⟨Y, ye⟩ := Y
 simp only at b1 b2
 have hr1 := fun (W : World) (B C : Option Addr) (b d : Nat) (hB : Cells W B (entCells X)) (hC : Cells W C (entCells X)) => r15_row X B C b d W hB hC (by omega)
 have hr2 := fun (W : World) (B C : Option Addr) (b d : Nat) (hB : Cells W B (entCells Y)) (hC : Cells W C (entCells Y)) => r15_row Y B C b d W hB hC (by omega)
 have hr3 := fun (W : World) (B C : Option Addr) (b d : Nat) (hB : Cells W B (entCells Z)) (hC : Cells W C (entCells Z)) => r15_row Z B C b d W hB hC (by omega)
 have g1 : ¬ (500 : Int) < (l.length : Int) := by omega
 have qx : (xe == xe) = true := by simp
 have qy : (ye == ye) = true := by simp
 clear hI0 hg hI ok hA h64 b1 b2 b3
 obtain ⟨sq, pos⟩ := j
 obtain ⟨A1, a1⟩ := p
 obtain ⟨A2, a2⟩ := q
 obtain ⟨A3, a3⟩ := r
 have hB := Below.refl w.heap.size w
 have x := Blk.new w 33 #[.string (bs D.data), .slice A1 D.cache.length a1, .int .i64 D.fuse, .bool D.off, .slice A2 D.bad.length a2, .int .i64 g, .int .i64 h, .int .u64 sq, .int .i64 pos, .slice A3 maps.length a3, .bool br]
 have xk := blk11 x
 have hB_1 := hB.alloc hB.size (.cells #[.string (bs D.data), .slice A1 D.cache.length a1, .int .i64 D.fuse, .bool D.off, .slice A2 D.bad.length a2, .int .i64 g, .int .i64 h, .int .u64 sq, .int .i64 pos, .slice A3 maps.length a3, .bool br] 33)
 go_enter Tryz.func4, Tryz.ntmps4
 go_wp2_with fail
 go_at_call 6
 refine ((hG _ hB_1)).mono ?_
 rintro e w1 ⟨rfl, hb1⟩
 replace hB := bt hB_1 hb1
 replace x := x.below hb1 x.lt
 replace xk := blk11 x
 clear hB_1
 go_wp2_with fail
 go_at_call 8
 refine ((hs1 _ hB)).mono ?_
 rintro e w2 ⟨⟨v, rfl, hv⟩, hb2⟩
 replace hB := bt hB hb2
 replace x := x.below hb2 x.lt
 replace xk := blk11 x
 obtain ⟨B1, b1, rfl, _, _, _⟩ := own_slice hv
 have cx1 := Cells.of_own hv
 clear hv
 go_wp2_with fail
 go_at_call 10
 refine ((hs2 _ hB)).mono ?_
 rintro e w3 ⟨⟨v, rfl, hv⟩, hb3⟩
 replace hB := bt hB hb3
 replace x := x.below hb3 x.lt
 replace xk := blk11 x
 replace cx1 := cx1.below hb3
 obtain ⟨B2, b2, rfl, _, _, _⟩ := own_slice hv
 have cx2 := Cells.of_own hv
 clear hv
 go_wp2_with fail
 go_at_call 11
 refine ((hd1 _ hB)).mono ?_
 rintro e w4 ⟨⟨v, rfl, hv⟩, hb4⟩
 replace hB := bt hB hb4
 replace x := x.below hb4 x.lt
 replace xk := blk11 x
 replace cx1 := cx1.below hb4
 replace cx2 := cx2.below hb4
 obtain ⟨B3, b3, rfl, _, _, _⟩ := own_slice hv
 have cy1 := Cells.of_own hv
 clear hv
 go_wp2_with fail
 go_at_call 12
 refine ((hd2 _ hB)).mono ?_
 rintro e w5 ⟨⟨v, rfl, hv⟩, hb5⟩
 replace hB := bt hB hb5
 replace x := x.below hb5 x.lt
 replace xk := blk11 x
 replace cx1 := cx1.below hb5
 replace cx2 := cx2.below hb5
 replace cy1 := cy1.below hb5
 obtain ⟨B4, b4, rfl, _, _, _⟩ := own_slice hv
 have cy2 := Cells.of_own hv
 clear hv
 go_wp2_with fail
 go_at_call 13
 refine ((hr1 _ _ _ _ _ cx1 cx2)).mono ?_
 rintro e w6 ⟨rfl, hb6⟩
 replace hB := bt hB hb6
 replace x := x.below hb6 x.lt
 replace xk := blk11 x
 replace cx1 := cx1.below hb6
 replace cx2 := cx2.below hb6
 replace cy1 := cy1.below hb6
 replace cy2 := cy2.below hb6
 go_wp2_with fail
 go_at_call 13
 refine ((hr2 _ _ _ _ _ cy1 cy2)).mono ?_
 rintro e w7 ⟨rfl, hb7⟩
 replace hB := bt hB hb7
 replace x := x.below hb7 x.lt
 replace xk := blk11 x
 replace cx1 := cx1.below hb7
 replace cx2 := cx2.below hb7
 replace cy1 := cy1.below hb7
 replace cy2 := cy2.below hb7
 go_wp2_with fail
 go_at_call 14
 refine ((hj1 _ hB)).mono ?_
 rintro e w8 ⟨⟨v, rfl, hv⟩, hb8⟩
 replace hB := bt hB hb8
 replace x := x.below hb8 x.lt
 replace xk := blk11 x
 obtain ⟨B5, b5, rfl, _, _, _⟩ := own_slice hv
 have cz1 := Cells.of_own hv
 clear hv
 go_wp2_with fail
 go_at_call 15
 refine ((hj2 _ hB)).mono ?_
 rintro e w9 ⟨⟨v, rfl, hv⟩, hb9⟩
 replace hB := bt hB hb9
 replace x := x.below hb9 x.lt
 replace xk := blk11 x
 replace cz1 := cz1.below hb9
 obtain ⟨B6, b6, rfl, _, _, _⟩ := own_slice hv
 have cz2 := Cells.of_own hv
 clear hv
 go_wp2_with fail
 go_at_call 13
 refine ((hr3 _ _ _ _ _ cz1 cz2)).mono ?_
 rintro e w10 ⟨rfl, hb10⟩
 replace hB := bt hB hb10
 replace x := x.below hb10 x.lt
 replace xk := blk11 x
 replace cz1 := cz1.below hb10
 replace cz2 := cz2.below hb10
 go_wp2_with fail
 go_at_call 7
 refine ((awake15 _)).mono ?_
 rintro e w11 ⟨rfl, hb11⟩
 replace hB := bt hB hb11
 replace x := x.below hb11 x.lt
 replace xk := blk11 x
 replace cz1 := cz1.below hb11
 replace cz2 := cz2.below hb11
 go_wp2_with fail
 go_ret
 exact ⟨rfl, hB⟩
theorem walk (w : World) (D : Dk) (g h : Int) (j : Jr) (maps : List Dm) (br : Bool) (p q r : Pl) (hI : IsIm0 w D g h j maps p q r) (l1 : Int) (h1 : (Lit.int .i64 l1).wf = true) (s0 : ByteArray) (ws : s0.size ≤ maxLen) (a : Int) (ha : (Lit.int .i64 a).wf = true) (n : Int) (hn : (Lit.int .i64 n).wf = true)
 (A : Option Addr) (c : Nat) (l : List Xt) (hl : Cells w A (entCells l) ∧ (A = none → c = 0) ∧ l.length ≤ c ∧ c ≤ maxLen ∧ ∀ x ∈ l, okInt x.1 ∧ okInt x.2) :
 Calls Tryz.prog 4 #[imval0 D g h j maps br p q r, .int .i64 l1, .string s0, .int .i64 a, .int .i64 n, .slice A l.length c] w fun e w' => e = .returned (.bool true) ∧ Below w.heap.size w w' := by
 obtain ⟨nm, rfl⟩ := bs_of s0
 have hnm : nm.length ≤ maxLen := by rwa [bs_size] at ws
 have hl9 : l.length ≤ 9223372036854775807 := by have := Nat.le_trans hl.2.2.1 hl.2.2.2.1; unfold maxLen at this; omega
 by_cases h5 : 500 < l.length
 · exact walk_no D g h j maps br p q r l1 nm a n l A c w hI hl9 (.inr h5)
 cases hg : goodI D g h j maps with
 | false => exact walk_no D g h j maps br p q r l1 nm a n l A c w hI hl9 (.inl hg)
 | true =>
  obtain ⟨hh, rfl, h2, ok⟩ := good_ok br hI hg
  exact walk_yes D g hh j maps br p q r l1 nm hnm a n (okInt_of ha) (okInt_of hn) l A c w hl.1 hl.2.2.2.2 (by omega) hI hg h2 ok
/-! ### The row -/
theorem own : ownKnob Tryz.prog.godebug = none := by kernel_rfl
set_option maxRecDepth 100000 in
theorem lifted (os : Os) (started : os.Started) (H : Type) (enc : TypeId × Value → H) :
 ReturnsInHanded {} Tryz.checked os 4 .any (Rows.spanTellsSpec.pre6 enc Tryz.prog Tryz.f4 Rows.spanTellsRow.domain false) (Rows.spanTellsSpec.post enc Tryz.prog Tryz.f4 false true false false) := by
 refine returnsInHanded_of_change_sized (C := Tryz.checked) own started (by kernel_rfl) Tryz.func4
  (ChangeSpec.witness6 (enc := enc) (C := Tryz.checked) false ⟨#[], #[.agg #[.string ByteArray.empty, .slice none 0 0, .int .i64 0, .bool false, .slice none 0 0, .int .i64 0, .int .i64 0, .int .u64 0, .int .i64 0, .slice none 0 0, .bool false], .int .i64 0, .string ByteArray.empty, .int .i64 0, .int .i64 0, .slice none 0 0], []⟩ 8 (by kernel_rfl) (by kernel_rfl) (by kernel_rfl) (by kernel_rfl)) ?_
 intro W base args ds gs before hval0 hW hcnd hsz0 _
 have hval : ∀ (j : Nat) t v, Tryz.f4.params[j]? = some t → args[j]? = some v → Value.okWide Tryz.prog W .any base t v := hval0
 have hW' := hW
 obtain ⟨p, q, hA0, hV, rfl, hfz, hnd⟩ := hW
 have hA : DataW.TrodAll enc Tryz.prog W 0 (fun _ => true) true Tryz.f4.params.toList args.toList ds p := hA0
 have hAk := hA
 have hsz : (DataW.weightsEach Tryz.prog (Tryz.f4.params.toList ++ Rows.spanTellsSpec.plain.varTypes Tryz.prog) (ds ++ gs)).all (· ≤ reachBytes) = true := hsz0
 rw [Tryz.params4] at hA hval hsz
 obtain ⟨v0, vs0, d0, ds0, p0, q0, hargs, rfl, rfl, h0, r0⟩ := trodAll_cons hA
 obtain ⟨v1, vs1, d1, ds1, p1, q1, rfl, rfl, rfl, h1, r1⟩ := trodAll_cons r0
 obtain ⟨v2, vs2, d2, ds2, p2, q2, rfl, rfl, rfl, h2, r2⟩ := trodAll_cons r1
 obtain ⟨v3, vs3, d3, ds3, p3, q3, rfl, rfl, rfl, h3, r3⟩ := trodAll_cons r2
 obtain ⟨v4, vs4, d4, ds4, p4, q4, rfl, rfl, rfl, h4, r4⟩ := trodAll_cons r3
 obtain ⟨v5, vs5, d5, ds5, p5, q5, rfl, rfl, rfl, h5, r5⟩ := trodAll_cons r4
 obtain ⟨rfl, rfl, rfl⟩ := trodAll_nil r5
 obtain rfl : args = #[v0, v1, v2, v3, v4, v5] := by cases args; simp_all
 obtain ⟨rfl, rfl⟩ := trodVars_none hV
 obtain ⟨D0, g0, n0, j0, m0, b0, P0, Q0, R0, rfl, w0⟩ := open_image Tryz.underlying33 (by kernel_rfl) ⟨by kernel_rfl, by kernel_rfl⟩ ⟨by kernel_rfl, by kernel_rfl⟩ ⟨by kernel_rfl, by kernel_rfl⟩ ⟨by kernel_rfl, by kernel_rfl⟩ ⟨by kernel_rfl, by kernel_rfl⟩ Tryz.underlying25 (by kernel_rfl) Tryz.underlying9 Tryz.underlying22 Tryz.underlying3 Tryz.underlying4 Tryz.underlying23 Tryz.underlying133 (by kernel_rfl) (by kernel_rfl) Tryz.underlying3 Tryz.underlying9 Tryz.underlying3 (by kernel_rfl) (by kernel_rfl) Tryz.underlying27 (by kernel_rfl) Tryz.underlying3 Tryz.underlying3 Tryz.underlying30 (by kernel_rfl) Tryz.underlying28 Tryz.underlying3 Tryz.underlying31 Tryz.underlying57 ⟨by kernel_rfl, by kernel_rfl⟩ ⟨by kernel_rfl, by kernel_rfl⟩ ⟨by kernel_rfl, by kernel_rfl⟩ (by kernel_rfl) Tryz.underlying9 Tryz.underlying4 Tryz.underlying55 Tryz.underlying4 (by kernel_rfl) Tryz.underlying4 (hval 0 33 v0 rfl rfl) h0 (weights_each hsz (j := 0) rfl rfl)
 obtain ⟨a1, rfl, rfl, rfl, w1⟩ := open_int Tryz.underlying3 (hval 1 3 v1 rfl rfl) h1
 obtain ⟨a2, rfl, rfl, rfl, w2⟩ := open_string Tryz.underlying9 (hval 2 9 v2 rfl rfl) h2
 obtain ⟨a3, rfl, rfl, rfl, w3⟩ := open_int Tryz.underlying3 (hval 3 3 v3 rfl rfl) h3
 obtain ⟨a4, rfl, rfl, rfl, w4⟩ := open_int Tryz.underlying3 (hval 4 3 v4 rfl rfl) h4
 obtain ⟨A5, n5, c5, rfl⟩ := okWide_slice Tryz.underlying36 (hval 5 36 v5 rfl rfl)
 obtain ⟨_, h5'⟩ := h5
 obtain ⟨B5, e5, l5, hB5, w5⟩ := open_xts Tryz.underlying36 Tryz.underlying41 (by kernel_rfl) (by kernel_rfl) rfl Tryz.underlying3 Tryz.underlying3 h5'
 rw [hB5] at hW' hAk ⊢
 clear hA0 hval0
 simp only [List.append_nil] at hW'
 refine (walk W D0 g0 n0 j0 m0 b0 P0 Q0 R0 w0 a1 w1 a2 w2 a3 w3 a4 w4 B5 e5 l5 w5).mono fun e W' ⟨he, hb⟩ => ?_
 subst he
 exact ⟨_, rfl, post_of_below (pa := _) (pv := []) hW' (fun _ _ _ => (trodAll_cons_mk (shut_bool Tryz.underlying4 _) trodAll_mk0)) (fun sp hsp => trodAll_stays (by kernel_rfl) hb (by kernel_rfl) hAk (fun x hx => hW'.lt x (by simpa using hx)) (fun x hx => hsp x (by simpa using hx))) (fun _ _ => rfl) (by simp) hb (ok_one (by kernel_rfl) rfl (okWide_bool_mk Tryz.underlying4 _))⟩
theorem over_ : Rows.spanTellsRow.holds Tryz.pinned (OpenSpec.ofChange Rows.spanTellsSpec) :=
 OpenClaim.holds_of_wide 4 Tryz.f4 rfl rfl rfl rfl rfl rfl rfl ⟨rfl, rfl, rfl, rfl, rfl⟩ rfl rfl rfl rfl rfl (by kernel_rfl) Tryz.func4 (by kernel_rfl)
  (of_decide_eq_true (by kernel_rfl)) (by unfold Func.isWrapper; first | (rw [if_pos (by decide +kernel)]; kernel_rfl) | (rw [if_neg (by decide +kernel)]; exact ⟨rfl, rfl⟩))
  (fun os started H enc _ => lifted os started H enc)
/-- The statement. -/
theorem proved : Rows.SpanTellsSaid := over_
#print axioms proved
end Go.Proofs.YtlapjkbefkmohaaGreat.spanTells
