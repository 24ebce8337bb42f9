/- TxnTells: how many sectors a transaction has, how many targets a head tells, and which are the same, is the document's: any number, any text, any transactions. No condition. -/
import Derived.Test.YtkiokdphjfkocaaLaw06b
import Derived.Test.YtkiokdphjfkocaaTxn7
import Derived.Test.YtkiokdphjfkocaaOpen5
import Derived.Test.YtkiokdphjfkocaaShut
set_option linter.unusedVariables false
namespace Go.Proofs.Ytkiokdphjfkocaa.txnTells
open Go.RowKit Go.Shelf Go.WideShapes Go.ChangeShapes Go.ChangeAt
open Go.ChangeMaps (open_string shut_string)
attribute [local go_sem] bs_mk bs_append bs_extract bs_size bs_toList bs_get
set_option maxRecDepth 100000 in
theorem walk_no1 (n : Int) (s : List UInt8) (t u : Tx) (p q p' q' : Pl) (w : World) (hn : okI n) (hs : s.length ≤ maxLen) (hL : IsPn w t.plan p q) (hM : IsPn w u.plan p' q') (hg : few t [] = false) :
    Calls Try.prog 7 #[.int .i64 n, .string (bs s), tval t p q, tval u p' q'] w fun e w' => e = .returned (.bool true) ∧ Below w.heap.size w w' := by
  have hG := fun (W : World) (hb : Below w.heap.size w W) => few06 t p q [] none 0 W (hL.below hb) (.inl rfl) (Nat.le_refl _) (Nat.zero_le _) (fun s h => by cases h)
  have hG' := fun (W : World) (hb : Below w.heap.size w W) => few06 u p' q' [] none 0 W (hM.below hb) (.inl rfl) (Nat.le_refl _) (Nat.zero_le _) (fun s h => by cases h)
  rw [hg] at hG
  clear hL hM hg hG'
  have hB := Below.refl w.heap.size w
  have x := Blk.new w 28 #[.int .u64 t.seq, .slice p.a t.plan.targets.length p.c, .slice q.a t.plan.data.length q.c]
  have xk := blk3 x
  have hB_1 := hB.alloc hB.size (.cells #[.int .u64 t.seq, .slice p.a t.plan.targets.length p.c, .slice q.a t.plan.data.length q.c] 28)
  have y := Blk.new (w.alloc (.cells #[.int .u64 t.seq, .slice p.a t.plan.targets.length p.c, .slice q.a t.plan.data.length q.c] 28)) 28 #[.int .u64 u.seq, .slice p'.a u.plan.targets.length p'.c, .slice q'.a u.plan.data.length q'.c]
  simp only [World.size_alloc] at y
  have yk := blk3 y
  have hB_2 := hB_1.alloc hB_1.size (.cells #[.int .u64 u.seq, .slice p'.a u.plan.targets.length p'.c, .slice q'.a u.plan.data.length q'.c] 28)
  have x_3 := x.alloc (.cells #[.int .u64 u.seq, .slice p'.a u.plan.targets.length p'.c, .slice q'.a u.plan.data.length q'.c] 28)
  have xk_3 := blk3 x_3
  go_enter Try.func7, Try.ntmps7
  go_wp2_with fail
  go_at_call 8
  refine ((hG _ hB_2)).mono ?_
  rintro e w1 ⟨rfl, hb1⟩
  replace hB := bt hB_2 hb1
  replace x := x_3.below hb1 x_3.lt
  replace xk := blk3 x
  replace y := y.below hb1 y.lt
  replace yk := blk3 y
  clear hB_1 hB_2 xk_3 x_3
  go_wp2_with fail
  go_at_call 9
  refine ((awake06 _)).mono ?_
  rintro e w2 ⟨rfl, hb2⟩
  replace hB := bt hB hb2
  replace x := x.below hb2 x.lt
  replace xk := blk3 x
  replace y := y.below hb2 y.lt
  replace yk := blk3 y
  go_wp2_with fail
  go_ret
  exact ⟨rfl, hB⟩
set_option maxRecDepth 100000 in
theorem walk_no2 (n : Int) (s : List UInt8) (t u : Tx) (p q p' q' : Pl) (w : World) (hn : okI n) (hs : s.length ≤ maxLen) (hL : IsPn w t.plan p q) (hM : IsPn w u.plan p' q') (hg : few t [] = true) (hg' : few u [] = false) :
    Calls Try.prog 7 #[.int .i64 n, .string (bs s), tval t p q, tval u p' q'] w fun e w' => e = .returned (.bool true) ∧ Below w.heap.size w w' := by
  have hG := fun (W : World) (hb : Below w.heap.size w W) => few06 t p q [] none 0 W (hL.below hb) (.inl rfl) (Nat.le_refl _) (Nat.zero_le _) (fun s h => by cases h)
  have hG' := fun (W : World) (hb : Below w.heap.size w W) => few06 u p' q' [] none 0 W (hM.below hb) (.inl rfl) (Nat.le_refl _) (Nat.zero_le _) (fun s h => by cases h)
  rw [hg] at hG
  rw [hg'] at hG'
  clear hL hM hg hg'
  have hB := Below.refl w.heap.size w
  have x := Blk.new w 28 #[.int .u64 t.seq, .slice p.a t.plan.targets.length p.c, .slice q.a t.plan.data.length q.c]
  have xk := blk3 x
  have hB_1 := hB.alloc hB.size (.cells #[.int .u64 t.seq, .slice p.a t.plan.targets.length p.c, .slice q.a t.plan.data.length q.c] 28)
  have y := Blk.new (w.alloc (.cells #[.int .u64 t.seq, .slice p.a t.plan.targets.length p.c, .slice q.a t.plan.data.length q.c] 28)) 28 #[.int .u64 u.seq, .slice p'.a u.plan.targets.length p'.c, .slice q'.a u.plan.data.length q'.c]
  simp only [World.size_alloc] at y
  have yk := blk3 y
  have hB_2 := hB_1.alloc hB_1.size (.cells #[.int .u64 u.seq, .slice p'.a u.plan.targets.length p'.c, .slice q'.a u.plan.data.length q'.c] 28)
  have x_3 := x.alloc (.cells #[.int .u64 u.seq, .slice p'.a u.plan.targets.length p'.c, .slice q'.a u.plan.data.length q'.c] 28)
  have xk_3 := blk3 x_3
  go_enter Try.func7, Try.ntmps7
  go_wp2_with fail
  go_at_call 8
  refine ((hG _ hB_2)).mono ?_
  rintro e w1 ⟨rfl, hb1⟩
  replace hB := bt hB_2 hb1
  replace x := x_3.below hb1 x_3.lt
  replace xk := blk3 x
  replace y := y.below hb1 y.lt
  replace yk := blk3 y
  clear hB_1 hB_2 xk_3 x_3
  go_wp2_with fail
  go_at_call 8
  refine ((hG' _ hB)).mono ?_
  rintro e w2 ⟨rfl, hb2⟩
  replace hB := bt hB hb2
  replace x := x.below hb2 x.lt
  replace xk := blk3 x
  replace y := y.below hb2 y.lt
  replace yk := blk3 y
  go_wp2_with fail
  go_at_call 9
  refine ((awake06 _)).mono ?_
  rintro e w3 ⟨rfl, hb3⟩
  replace hB := bt hB hb3
  replace x := x.below hb3 x.lt
  replace xk := blk3 x
  replace y := y.below hb3 y.lt
  replace yk := blk3 y
  go_wp2_with fail
  go_ret
  exact ⟨rfl, hB⟩
set_option maxRecDepth 100000 in
set_option maxHeartbeats 1000000 in
theorem walk_ok (n : Int) (s : List UInt8) (t u : Tx) (p q p' q' : Pl) (w : World) (hn : okI n) (hs : s.length ≤ maxLen) (hL : IsPn w t.plan p q) (hM : IsPn w u.plan p' q') (hg : few t [] = true) (hg' : few u [] = true) :
    Calls Try.prog 7 #[.int .i64 n, .string (bs s), tval t p q, tval u p' q'] w fun e w' => e = .returned (.bool true) ∧ Below w.heap.size w w' := by
  obtain ⟨f1, f2, _⟩ := few_iff hg
  obtain ⟨f3, f4, _⟩ := few_iff hg'
  have hG := fun (W : World) (hb : Below w.heap.size w W) => few06 t p q [] none 0 W (hL.below hb) (.inl rfl) (Nat.le_refl _) (Nat.zero_le _) (fun s h => by cases h)
  have hG' := fun (W : World) (hb : Below w.heap.size w W) => few06 u p' q' [] none 0 W (hM.below hb) (.inl rfl) (Nat.le_refl _) (Nat.zero_le _) (fun s h => by cases h)
  rw [hg] at hG
  rw [hg'] at hG'
  have P1 := fun (W : World) (hb : Below w.heap.size w W) => hL.below hb
  have P2 := fun (W : World) (hb : Below w.heap.size w W) => hM.below hb
  clear hL hM hg hg'
  have hB := Below.refl w.heap.size w
  have x := Blk.new w 28 #[.int .u64 t.seq, .slice p.a t.plan.targets.length p.c, .slice q.a t.plan.data.length q.c]
  have xk := blk3 x
  have hB_1 := hB.alloc hB.size (.cells #[.int .u64 t.seq, .slice p.a t.plan.targets.length p.c, .slice q.a t.plan.data.length q.c] 28)
  have y := Blk.new (w.alloc (.cells #[.int .u64 t.seq, .slice p.a t.plan.targets.length p.c, .slice q.a t.plan.data.length q.c] 28)) 28 #[.int .u64 u.seq, .slice p'.a u.plan.targets.length p'.c, .slice q'.a u.plan.data.length q'.c]
  simp only [World.size_alloc] at y
  have yk := blk3 y
  have hB_2 := hB_1.alloc hB_1.size (.cells #[.int .u64 u.seq, .slice p'.a u.plan.targets.length p'.c, .slice q'.a u.plan.data.length q'.c] 28)
  have x_3 := x.alloc (.cells #[.int .u64 u.seq, .slice p'.a u.plan.targets.length p'.c, .slice q'.a u.plan.data.length q'.c] 28)
  have xk_3 := blk3 x_3
  go_enter Try.func7, Try.ntmps7
  go_wp2_with fail
  go_at_call 8
  refine ((hG _ hB_2)).mono ?_
  rintro e w1 ⟨rfl, hb1⟩
  replace hB := bt hB_2 hb1
  replace x := x_3.below hb1 x_3.lt
  replace xk := blk3 x
  replace y := y.below hb1 y.lt
  replace yk := blk3 y
  clear hB_1 hB_2 xk_3 x_3
  go_wp2_with fail
  go_at_call 8
  refine ((hG' _ hB)).mono ?_
  rintro e w2 ⟨rfl, hb2⟩
  replace hB := bt hB hb2
  replace x := x.below hb2 x.lt
  replace xk := blk3 x
  replace y := y.below hb2 y.lt
  replace yk := blk3 y
  go_wp2_with fail
  have X := ext3 x
  have Y := ext3 y
  have D1 := fun e : Ext w2 => tx_size n hn e.world
  have D2 := fun e : Ext w2 => r6_size n hn e.world
  have D3 := fun e : Ext w2 => tx_count s hs e.world
  have D4 := fun e : Ext w2 => r6_count s hs e.world
  have D5 := fun e : Ext w2 => tx_same t u p q p' q' e.world (P1 _ (bt hB e.below)) (P2 _ (bt hB e.below)) (by omega) (by omega) (by omega) (by omega)
  have D6 := fun e : Ext w2 => r6_same t u p q p' q' e.world (P1 _ (bt hB e.below)) (P2 _ (bt hB e.below)) (by omega) (by omega) (by omega) (by omega)
  have D7 := fun e : Ext w2 => tx_same t t p q p q e.world (P1 _ (bt hB e.below)) (P1 _ (bt hB e.below)) (by omega) (by omega) (by omega) (by omega)
  have D8 := fun e : Ext w2 => awake06 e.world
  rw [Tx.same_self] at D7
  generalize txSizeI n = N1 at *
  generalize hcount s = N2 at *
  generalize t.same u = N3 at *
  refine wp_region_ext mixed (by kernel_rfl) ?_
  repeat (go_big_quiet_step ((first | (go_at_call 16; with_reducible exact ext_of (D1 _)) | (go_at_call 17; with_reducible exact ext_of (D2 _)) | (go_at_call 18; with_reducible exact ext_of (D3 _)) | (go_at_call 19; with_reducible exact ext_of (D4 _)) | (go_at_call 20; with_reducible exact ext_of (D5 _)) | (go_at_call 20; with_reducible exact ext_of (D7 _)) | (go_at_call 15; with_reducible exact ext_of (D6 _)) | (go_at_call 9; with_reducible exact ext_of (D8 _)))))
  refine wpQuiet_nil ?_
  rintro w3 ⟨pq_, hpq_⟩
  have hb3 := pq_.below
  rw [← hpq_] at hb3
  clear hpq_ pq_
  go_wp2_with fail
  go_ret
  exact ⟨rfl, bt hB hb3⟩
theorem walk (w : World) (n : Int) (wn : (Lit.int .i64 n).wf = true) (s : ByteArray) (hs : s.size ≤ maxLen) (z : Nat) (L : Pn) (p q : Pl) (h1 : z < 18446744073709551616 ∧ IsPn w L p q) (z' : Nat) (M : Pn) (p' q' : Pl) (h2 : z' < 18446744073709551616 ∧ IsPn w M p' q') :
    Calls Try.prog 7 #[.int .i64 n, .string s, tval ⟨z, L⟩ p q, tval ⟨z', M⟩ p' q'] w fun e w' => e = .returned (.bool true) ∧ Below w.heap.size w w' := by
  obtain ⟨s, rfl⟩ := bs_of s
  rw [bs_size] at hs
  cases hg : few ⟨z, L⟩ [] with
  | false => exact walk_no1 n s ⟨z, L⟩ ⟨z', M⟩ p q p' q' w (okInt_of wn) hs h1.2 h2.2 hg
  | true =>
    cases hg' : few ⟨z', M⟩ [] with
    | false => exact walk_no2 n s ⟨z, L⟩ ⟨z', M⟩ p q p' q' w (okInt_of wn) hs h1.2 h2.2 hg hg'
    | true => exact walk_ok n s ⟨z, L⟩ ⟨z', M⟩ p q p' q' w (okInt_of wn) hs h1.2 h2.2 hg hg'
/-! ### The row -/
theorem own : ownKnob Try.prog.godebug = none := by kernel_rfl
set_option maxRecDepth 100000 in
theorem lifted (os : Os) (started : os.Started) (H : Type) (enc : TypeId × Value → H) :
    ReturnsInHanded {} Try.checked os 7 .any (Rows.txnTellsSpec.pre6 enc Try.prog Try.f7 Rows.txnTellsRow.domain false) (Rows.txnTellsSpec.post enc Try.prog Try.f7 false true false false) := by
  refine returnsInHanded_of_change (C := Try.checked) own started (by kernel_rfl) Try.func7
    (ChangeSpec.witness6 (enc := enc) (C := Try.checked) false ⟨#[], #[.int .i64 0, .string ByteArray.empty, .agg #[.int .u64 0, .slice none 0 0, .slice none 0 0], .agg #[.int .u64 0, .slice none 0 0, .slice none 0 0]], []⟩ 8 (by kernel_rfl) (by kernel_rfl) (by kernel_rfl) (by kernel_rfl)) ?_
  intro W base args ds gs before hval0 hW hcnd _
  have hval : ∀ (j : Nat) t v, Try.f7.params[j]? = some t → args[j]? = some v → Value.okWide Try.prog W .any base t v := hval0
  have hW' := hW
  obtain ⟨p, q, hA0, hV, rfl, hfz, hnd⟩ := hW
  have hA : DataW.TrodAll enc Try.prog W 0 (fun _ => true) true Try.f7.params.toList args.toList ds p := hA0
  have hAk := hA
  rw [Try.params7] at hA hval
  obtain ⟨v0, vs0, d0, ds0, p0, q0, hargs, rfl, rfl, h0, r0⟩ := trodAll_cons hA
  obtain ⟨v1, vs1, d1, ds1, p1, q1, rfl, rfl, rfl, h1, r1⟩ := trodAll_cons r0
  obtain ⟨v2, vs2, d2, ds2, p2, q2, rfl, rfl, rfl, h2, r2⟩ := trodAll_cons r1
  obtain ⟨v3, vs3, d3, ds3, p3, q3, rfl, rfl, rfl, h3, r3⟩ := trodAll_cons r2
  obtain ⟨rfl, rfl, rfl⟩ := trodAll_nil r3
  obtain rfl : args = #[v0, v1, v2, v3] := by cases args; simp_all
  obtain ⟨rfl, rfl⟩ := trodVars_none hV
  obtain ⟨a0, rfl, rfl, rfl, w0⟩ := open_int Try.underlying3 (hval 0 3 v0 rfl rfl) h0
  obtain ⟨a1, rfl, rfl, rfl, w1⟩ := open_string Try.underlying9 (hval 1 9 v1 rfl rfl) h1
  obtain ⟨s2, D2, P2, Q2, rfl, w2⟩ := open_txn Try.underlying28 ⟨by kernel_rfl, by kernel_rfl⟩ ⟨by kernel_rfl, by kernel_rfl⟩ (by kernel_rfl) Try.underlying22 Try.underlying26 (by kernel_rfl) Try.underlying23 Try.underlying24 Try.underlying3 (by kernel_rfl) Try.underlying9 (by kernel_rfl) (hval 2 28 v2 rfl rfl) h2
  obtain ⟨s3, D3, P3, Q3, rfl, w3⟩ := open_txn Try.underlying28 ⟨by kernel_rfl, by kernel_rfl⟩ ⟨by kernel_rfl, by kernel_rfl⟩ (by kernel_rfl) Try.underlying22 Try.underlying26 (by kernel_rfl) Try.underlying23 Try.underlying24 Try.underlying3 (by kernel_rfl) Try.underlying9 (by kernel_rfl) (hval 3 28 v3 rfl rfl) h3
  clear hA0 hval0
  simp only [List.append_nil] at hW'
  refine (walk W a0 w0 a1 w1 s2 D2 P2 Q2 w2 s3 D3 P3 Q3 w3).mono fun e W' ⟨he, hb⟩ => ?_
  subst he
  exact ⟨_, rfl, post_of_below (pa := _) (pv := []) hW' (fun _ _ _ => (trodAll_cons_mk (shut_bool Try.underlying4 _) trodAll_mk0)) (fun sp hsp => trodAll_stays (by kernel_rfl) hb (by kernel_rfl) hAk (fun x hx => hW'.lt x (by simpa using hx)) (fun x hx => hsp x (by simpa using hx))) (fun _ _ => rfl) (by simp) hb (ok_one (by kernel_rfl) rfl (okWide_bool_mk Try.underlying4 _))⟩
theorem over_ : Rows.txnTellsRow.holds Try.pinned (OpenSpec.ofChange Rows.txnTellsSpec) :=
  OpenClaim.holds_of_wide 7 Try.f7 rfl rfl rfl rfl rfl rfl rfl ⟨rfl, rfl, rfl, rfl, rfl⟩ rfl rfl rfl rfl rfl (by kernel_rfl) Try.func7 (by kernel_rfl)
    (of_decide_eq_true (by kernel_rfl)) (by unfold Func.isWrapper; first | (rw [if_pos (by decide +kernel)]; kernel_rfl) | (rw [if_neg (by decide +kernel)]; exact ⟨rfl, rfl⟩))
    (fun os started H enc _ => lifted os started H enc)
/-- The statement. -/
theorem proved : Rows.TxnTellsSaid := over_
#print axioms proved
end Go.Proofs.Ytkiokdphjfkocaa.txnTells
