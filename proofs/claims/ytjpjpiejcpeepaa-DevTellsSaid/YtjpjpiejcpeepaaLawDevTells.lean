/- DevTells: new devices, which can be, and which are the same, is the document's: any devices, any number. No condition. -/
import Derived.Test.YtjpjpiejcpeepaaLaw01c
import Derived.Test.YtjpjpiejcpeepaaDev8
import Derived.Test.YtjpjpiejcpeepaaOpen2
set_option linter.unusedVariables false
namespace Go.Proofs.Ytjpjpiejcpeepaa.devTells
open Go.RowKit Go.Shelf Go.WideShapes Go.ChangeShapes Go.ChangeAt
open Go.ChangeMaps (open_string shut_string)
attribute [local go_sem] bs_mk bs_append bs_extract bs_size bs_toList bs_get

section
variable (D E : Dk) (p q p' q' : Pl) (n : Int)
abbrev args : Array Value := #[dval D p q, dval E p' q', .int .i64 n]
abbrev Heavy : Prop := 70000 < D.data.length ∨ 70000 < E.data.length ∨ 5000 < D.cache.length + E.cache.length ∨ 5000 < D.bad.length + E.bad.length
set_option maxRecDepth 100000 in
theorem walk_heavy (w : World) (d1 : D.data.length ≤ 9223372036854775807) (d2 : E.data.length ≤ 9223372036854775807) (c1 : D.cache.length ≤ 140737488355328) (c2 : E.cache.length ≤ 140737488355328) (b1 : D.bad.length ≤ 140737488355328) (b2 : E.bad.length ≤ 140737488355328)
    (h : Heavy D E) :
    Calls Try.prog 8 (args D E p q p' q' n) w fun e w' => e = .returned (.bool true) ∧ Below w.heap.size w w' := by
  have h' : 70000 < D.data.length ∨ (¬ 70000 < D.data.length ∧ 70000 < E.data.length) ∨ (¬ 70000 < D.data.length ∧ ¬ 70000 < E.data.length ∧ 5000 < D.cache.length + E.cache.length) ∨
      (¬ 70000 < D.data.length ∧ ¬ 70000 < E.data.length ∧ ¬ 5000 < D.cache.length + E.cache.length ∧ 5000 < D.bad.length + E.bad.length) := by
    unfold Heavy at h; omega
  clear h
  obtain ⟨A1, a1⟩ := p
  obtain ⟨A2, a2⟩ := q
  obtain ⟨B1, e1⟩ := p'
  obtain ⟨B2, e2⟩ := q'
  rcases h' with h1 | ⟨h1, h2⟩ | ⟨h1, h2, h3⟩ | ⟨h1, h2, h3, h4⟩
  · go_enter Try.func8, Try.ntmps8
    go_wp2_with fail
    go_at_call 21
    refine (awake01 _).mono ?_
    rintro e w2 ⟨rfl, hb2⟩
    go_wp2_with fail
    go_ret
    exact ⟨rfl, bt (below_two _ _ _) hb2⟩
  · go_enter Try.func8, Try.ntmps8
    go_wp2_with fail
    go_at_call 21
    refine (awake01 _).mono ?_
    rintro e w2 ⟨rfl, hb2⟩
    go_wp2_with fail
    go_ret
    exact ⟨rfl, bt (below_two _ _ _) hb2⟩
  · go_enter Try.func8, Try.ntmps8
    go_wp2_with fail
    go_at_call 21
    refine (awake01 _).mono ?_
    rintro e w2 ⟨rfl, hb2⟩
    go_wp2_with fail
    go_ret
    exact ⟨rfl, bt (below_two _ _ _) hb2⟩
  · go_enter Try.func8, Try.ntmps8
    go_wp2_with fail
    go_at_call 21
    refine (awake01 _).mono ?_
    rintro e w2 ⟨rfl, hb2⟩
    go_wp2_with fail
    go_ret
    exact ⟨rfl, bt (below_two _ _ _) hb2⟩
set_option maxRecDepth 100000 in
set_option maxHeartbeats 1000000 in
theorem walk_light (w : World) (hD : IsDk w D p q) (hE : IsDk w E p' q') (h : ¬ Heavy D E) (F : Dk) (er : Int) (hF : Dk.fresh n = (F, er)) :
    Calls Try.prog 8 (args D E p q p' q' n) w fun e w' => e = .returned (.bool true) ∧ Below w.heap.size w w' := by
  have h1 : ¬ 70000 < D.data.length := by unfold Heavy at h; omega
  have h2 : ¬ 70000 < E.data.length := by unfold Heavy at h; omega
  have h3 : ¬ 5000 < D.cache.length + E.cache.length := by unfold Heavy at h; omega
  have h4 : ¬ 5000 < D.bad.length + E.bad.length := by unfold Heavy at h; omega
  clear h
  have hn1 := fun W => d_new n W
  have hn2 := fun W => r1_new n W
  rw [hF] at hn1 hn2
  clear hF
  obtain ⟨A1, a1⟩ := p
  obtain ⟨A2, a2⟩ := q
  obtain ⟨B1, e1⟩ := p'
  obtain ⟨B2, e2⟩ := q'
  have b0 := below_two w (.cells #[.string (bs D.data), .slice A1 D.cache.length a1, .int .i64 D.fuse, .bool D.off, .slice A2 D.bad.length a2] 25) (.cells #[.string (bs E.data), .slice B1 E.cache.length e1, .int .i64 E.fuse, .bool E.off, .slice B2 E.bad.length e2] 25)
  have x0 := (Blk.new w 25 #[.string (bs D.data), .slice A1 D.cache.length a1, .int .i64 D.fuse, .bool D.off, .slice A2 D.bad.length a2]).alloc (.cells #[.string (bs E.data), .slice B1 E.cache.length e1, .int .i64 E.fuse, .bool E.off, .slice B2 E.bad.length e2] 25)
  have y0 := Blk.new (w.alloc (.cells #[.string (bs D.data), .slice A1 D.cache.length a1, .int .i64 D.fuse, .bool D.off, .slice A2 D.bad.length a2] 25)) 25 #[.string (bs E.data), .slice B1 E.cache.length e1, .int .i64 E.fuse, .bool E.off, .slice B2 E.bad.length e2]
  simp only [World.size_alloc] at y0
  go_enter Try.func8, Try.ntmps8
  go_wp2_with fail
  go_at_call 31
  refine (hn1 _).mono ?_
  rintro e w1 ⟨⟨p1, q1, rfl, hF1⟩, hb1⟩
  have x1 := x0.below hb1 (by simp; omega)
  have y1 := y0.below hb1 (by simp)
  have b1 := bt b0 hb1
  have i1 : IsDk (w1.alloc (.cells #[.string (bs F.data), .slice p1.a F.cache.length p1.c, .int .i64 F.fuse, .bool F.off, .slice q1.a F.bad.length q1.c] 25)) F p1 q1 := hF1.below ((Below.refl _ _).alloc (Nat.le_refl _) _)
  have z1 := Blk.new w1 25 #[.string (bs F.data), .slice p1.a F.cache.length p1.c, .int .i64 F.fuse, .bool F.off, .slice q1.a F.bad.length q1.c]
  have x2 := x1.alloc (.cells #[.string (bs F.data), .slice p1.a F.cache.length p1.c, .int .i64 F.fuse, .bool F.off, .slice q1.a F.bad.length q1.c] 25)
  have y2 := y1.alloc (.cells #[.string (bs F.data), .slice p1.a F.cache.length p1.c, .int .i64 F.fuse, .bool F.off, .slice q1.a F.bad.length q1.c] 25)
  have b2 := b1.alloc b1.size (.cells #[.string (bs F.data), .slice p1.a F.cache.length p1.c, .int .i64 F.fuse, .bool F.off, .slice q1.a F.bad.length q1.c] 25)
  have n1 : ¬ w1.heap.size = w.heap.size := by have := x1.lt; omega
  have n2 : ¬ w.heap.size = w1.heap.size := by omega
  have n3 : ¬ w1.heap.size = w.heap.size + 1 := by have := y1.lt; omega
  have n4 : ¬ w.heap.size + 1 = w1.heap.size := by omega
  clear x0 y0 b0 x1 y1 b1 hb1 hF1
  go_wp2_with fail
  go_at_call 32
  refine (hn2 _).mono ?_
  rintro e w3 ⟨⟨p2, q2, rfl, hF2⟩, hb3⟩
  have x3 := x2.below hb3 x2.lt
  have y3 := y2.below hb3 y2.lt
  have z3 := z1.below hb3 z1.lt
  have b3 := bt b2 hb3
  have i3 := i1.below hb3
  have n5 : ¬ w3.heap.size = w.heap.size := by have := x3.lt; omega
  have n6 : ¬ w.heap.size = w3.heap.size := by omega
  have n7 : ¬ w3.heap.size = w.heap.size + 1 := by have := y3.lt; omega
  have n8 : ¬ w.heap.size + 1 = w3.heap.size := by omega
  have n9 : ¬ w3.heap.size = w1.heap.size := by have := z3.lt; omega
  have n10 : ¬ w1.heap.size = w3.heap.size := by omega
  have i4 : IsDk (w3.alloc (.cells #[.string (bs F.data), .slice p2.a F.cache.length p2.c, .int .i64 F.fuse, .bool F.off, .slice q2.a F.bad.length q2.c] 25)) F p1 q1 := i3.below ((Below.refl _ _).alloc (Nat.le_refl _) _)
  have j4 : IsDk (w3.alloc (.cells #[.string (bs F.data), .slice p2.a F.cache.length p2.c, .int .i64 F.fuse, .bool F.off, .slice q2.a F.bad.length q2.c] 25)) F p2 q2 := hF2.below ((Below.refl _ _).alloc (Nat.le_refl _) _)
  have x4 := x3.alloc (.cells #[.string (bs F.data), .slice p2.a F.cache.length p2.c, .int .i64 F.fuse, .bool F.off, .slice q2.a F.bad.length q2.c] 25)
  have y4 := y3.alloc (.cells #[.string (bs F.data), .slice p2.a F.cache.length p2.c, .int .i64 F.fuse, .bool F.off, .slice q2.a F.bad.length q2.c] 25)
  have z4 := z3.alloc (.cells #[.string (bs F.data), .slice p2.a F.cache.length p2.c, .int .i64 F.fuse, .bool F.off, .slice q2.a F.bad.length q2.c] 25)
  have v4 := Blk.new w3 25 #[.string (bs F.data), .slice p2.a F.cache.length p2.c, .int .i64 F.fuse, .bool F.off, .slice q2.a F.bad.length q2.c]
  have b4 := b3.alloc b3.size (.cells #[.string (bs F.data), .slice p2.a F.cache.length p2.c, .int .i64 F.fuse, .bool F.off, .slice q2.a F.bad.length q2.c] 25)
  clear x2 y2 z1 b2 i1 hb3 hF2 x3 y3 z3 b3 i3
  go_wp2_with fail
  generalize w3.alloc (.cells #[.string (bs F.data), .slice p2.a F.cache.length p2.c, .int .i64 F.fuse, .bool F.off, .slice q2.a F.bad.length q2.c] 25) = w4 at *
  have X := ext5 x4
  have Y := ext5 y4
  have Z := ext5 z4
  have V := ext5 v4
  have c1 := fun e : Ext w4 => r1_same F F p1 q1 p2 q2 e.world (i4.below e.below) (j4.below e.below)
  have c2 := fun e : Ext w4 => d_fit D ⟨A1, a1⟩ ⟨A2, a2⟩ e.world (hD.below (bt b4 e.below))
  have c3 := fun e : Ext w4 => r1_fit D ⟨A1, a1⟩ ⟨A2, a2⟩ e.world (hD.below (bt b4 e.below)) (by omega)
  have c4 := fun e : Ext w4 => d_same D E ⟨A1, a1⟩ ⟨A2, a2⟩ ⟨B1, e1⟩ ⟨B2, e2⟩ e.world (hD.below (bt b4 e.below)) (hE.below (bt b4 e.below))
  have c5 := fun e : Ext w4 => r1_same D E ⟨A1, a1⟩ ⟨A2, a2⟩ ⟨B1, e1⟩ ⟨B2, e2⟩ e.world (hD.below (bt b4 e.below)) (hE.below (bt b4 e.below))
  have c6 := fun e : Ext w4 => d_same D D ⟨A1, a1⟩ ⟨A2, a2⟩ ⟨A1, a1⟩ ⟨A2, a2⟩ e.world (hD.below (bt b4 e.below)) (hD.below (bt b4 e.below))
  have c7 := fun e : Ext w4 => awake01 e.world
  simp only [Dk.same_self] at c1 c6
  generalize D.same E = s1 at *
  generalize D.fit = s2 at *
  refine wp_region_ext mixed (by kernel_rfl) ?_
  repeat (go_big_quiet_step ((first | (go_at_call 26; with_reducible exact ext_of (c1 _)) | (go_at_call 26; with_reducible exact ext_of (c5 _)) | (go_at_call 33; with_reducible exact ext_of (c2 _)) | (go_at_call 20; with_reducible exact ext_of (c3 _)) | (go_at_call 34; with_reducible exact ext_of (c4 _)) | (go_at_call 34; with_reducible exact ext_of (c6 _)) | (go_at_call 21; with_reducible exact ext_of (c7 _)))))
  refine wpQuiet_nil ?_
  rintro _ ⟨⟨w5, hb5⟩, rfl⟩
  go_wp2_with fail
  go_ret
  exact ⟨rfl, bt b4 hb5⟩
end
theorem walk (w : World) (D : Dk) (p q : Pl) (hD : IsDk0 w D p q ∧ D.cache.length * Try.prog.bytesOf 45 ≤ reachBytes ∧ D.bad.length * Try.prog.bytesOf 3 ≤ reachBytes) (E : Dk) (p' q' : Pl)
    (hE : IsDk0 w E p' q' ∧ E.cache.length * Try.prog.bytesOf 45 ≤ reachBytes ∧ E.bad.length * Try.prog.bytesOf 3 ≤ reachBytes) (n : Int) (wn : (Lit.int .i64 n).wf = true) :
    Calls Try.prog 8 #[dval D p q, dval E p' q', .int .i64 n] w fun e w' => e = .returned (.bool true) ∧ Below w.heap.size w w' := by
  obtain ⟨hD, c1, b1⟩ := hD
  obtain ⟨hE, c2, b2⟩ := hE
  rw [show Try.prog.bytesOf 45 = 24 by kernel_rfl] at c1 c2
  rw [show Try.prog.bytesOf 3 = 8 by kernel_rfl] at b1 b2
  unfold reachBytes at c1 c2 b1 b2
  by_cases h : Heavy D E
  · exact walk_heavy D E p q p' q' n w hD.data hE.data (by omega) (by omega) (by omega) (by omega) h
  · have h' := h
    unfold Heavy at h'
    exact walk_light D E p q p' q' n w (hD.full (by omega) (by omega) (by omega)) (hE.full (by omega) (by omega) (by omega)) h _ _ rfl
/-! ### The row -/
theorem own : ownKnob Try.prog.godebug = none := by kernel_rfl
set_option maxRecDepth 100000 in
theorem lifted (os : Os) (started : os.Started) (H : Type) (enc : TypeId × Value → H) :
    ReturnsInHanded {} Try.checked os 8 .any (Rows.devTellsSpec.pre6 enc Try.prog Try.f8 Rows.devTellsRow.domain false) (Rows.devTellsSpec.post enc Try.prog Try.f8 false true false false) := by
  refine returnsInHanded_of_change_sized (C := Try.checked) own started (by kernel_rfl) Try.func8
    (ChangeSpec.witness6 (enc := enc) (C := Try.checked) false ⟨#[], #[.agg #[.string ByteArray.empty, .slice none 0 0, .int .i64 0, .bool false, .slice none 0 0], .agg #[.string ByteArray.empty, .slice none 0 0, .int .i64 0, .bool false, .slice none 0 0], .int .i64 0], []⟩ 8 (by kernel_rfl) (by kernel_rfl) (by kernel_rfl) (by kernel_rfl)) ?_
  intro W base args ds gs before hval0 hW hcnd hsz0 _
  have hval : ∀ (j : Nat) t v, Try.f8.params[j]? = some t → args[j]? = some v → Value.okWide Try.prog W .any base t v := hval0
  have hW' := hW
  obtain ⟨p, q, hA0, hV, rfl, hfz, hnd⟩ := hW
  have hA : DataW.TrodAll enc Try.prog W 0 (fun _ => true) true Try.f8.params.toList args.toList ds p := hA0
  have hAk := hA
  have hsz : (DataW.weightsEach Try.prog (Try.f8.params.toList ++ Rows.devTellsSpec.plain.varTypes Try.prog) (ds ++ gs)).all (· ≤ reachBytes) = true := hsz0
  rw [Try.params8] at hA hval hsz
  obtain ⟨v0, vs0, d0, ds0, p0, q0, hargs, rfl, rfl, h0, r0⟩ := trodAll_cons hA
  obtain ⟨v1, vs1, d1, ds1, p1, q1, rfl, rfl, rfl, h1, r1⟩ := trodAll_cons r0
  obtain ⟨v2, vs2, d2, ds2, p2, q2, rfl, rfl, rfl, h2, r2⟩ := trodAll_cons r1
  obtain ⟨rfl, rfl, rfl⟩ := trodAll_nil r2
  obtain rfl : args = #[v0, v1, v2] := by cases args; simp_all
  obtain ⟨rfl, rfl⟩ := trodVars_none hV
  obtain ⟨D0, P0, Q0, rfl, w0⟩ := open_dk_sized Try.underlying25 (by kernel_rfl) (by kernel_rfl) Try.underlying9 Try.underlying22 Try.underlying3 Try.underlying4 Try.underlying23 Try.underlying45 (by kernel_rfl) (by kernel_rfl) Try.underlying3 Try.underlying9 Try.underlying3 (by kernel_rfl) (hval 0 25 v0 rfl rfl) h0 (weights_each hsz (j := 0) rfl rfl)
  obtain ⟨D1, P1, Q1, rfl, w1⟩ := open_dk_sized Try.underlying25 (by kernel_rfl) (by kernel_rfl) Try.underlying9 Try.underlying22 Try.underlying3 Try.underlying4 Try.underlying23 Try.underlying45 (by kernel_rfl) (by kernel_rfl) Try.underlying3 Try.underlying9 Try.underlying3 (by kernel_rfl) (hval 1 25 v1 rfl rfl) h1 (weights_each hsz (j := 1) rfl rfl)
  obtain ⟨a2, rfl, rfl, rfl, w2⟩ := open_int Try.underlying3 (hval 2 3 v2 rfl rfl) h2
  clear hA0 hval0
  simp only [List.append_nil] at hW'
  refine (walk W D0 P0 Q0 w0 D1 P1 Q1 w1 a2 w2).mono fun e W' ⟨he, hb⟩ => ?_
  subst he
  exact ⟨_, rfl, post_of_below (pa := _) (pv := []) hW' (fun _ _ _ => (trodAll_cons_mk (shut_bool Try.underlying4 _) trodAll_mk0)) (fun sp hsp => trodAll_stays (by kernel_rfl) hb (by kernel_rfl) hAk (fun x hx => hW'.lt x (by simpa using hx)) (fun x hx => hsp x (by simpa using hx))) (fun _ _ => rfl) (by simp) hb (ok_one (by kernel_rfl) rfl (okWide_bool_mk Try.underlying4 _))⟩
theorem over_ : Rows.devTellsRow.holds Try.pinned (OpenSpec.ofChange Rows.devTellsSpec) :=
  OpenClaim.holds_of_wide 8 Try.f8 rfl rfl rfl rfl rfl rfl rfl ⟨rfl, rfl, rfl, rfl, rfl⟩ rfl rfl rfl rfl rfl (by kernel_rfl) Try.func8 (by kernel_rfl)
    (of_decide_eq_true (by kernel_rfl)) (by unfold Func.isWrapper; first | (rw [if_pos (by decide +kernel)]; kernel_rfl) | (rw [if_neg (by decide +kernel)]; exact ⟨rfl, rfl⟩))
    (fun os started H enc _ => lifted os started H enc)
/-- The statement. -/
theorem proved : Rows.DevTellsSaid := over_
#print axioms proved
end Go.Proofs.Ytjpjpiejcpeepaa.devTells
