/- SuperByte: with one byte changed a first sector is not read: any geometry, any place, any change. The listed variables of unicode/utf8 start as the program's text lays them (a tied card). -/
import Derived.Test.YtkiokdphjfkocaaDoorSuper5
import Derived.Test.YtkiokdphjfkocaaDoorOpen
import Derived.Test.YtkiokdphjfkocaaDoorCards
import Derived.Test.YtkiokdphjfkocaaDoorTie
import Derived.ProofKit
import Derived.LaidMore
import Derived.Stop.Joined
import Derived.SevenTiedAt
set_option linter.unusedVariables false
namespace Go.Proofs.YtkiokdphjfkocaaDoor.superByte
open Go.RowKit Go.Shelf Go.WideShapes Go.ChangeShapes Go.ChangeAt Go.Joins
open Go.ChangeMaps (open_string shut_string)
attribute [local go_sem] bs_mk bs_append bs_extract bs_size bs_toList bs_get
theorem bs_of (b : ByteArray) : ∃ l, b = bs l := ⟨b.data.toList, by cases b; rfl⟩
theorem bs_ln (l : List UInt8) : (bs l).size = l.length := bs_size l

theorem xor_ne {a b : UInt8} (h : b ≠ 0) : a ≠ a ^^^ b := by
  intro e
  apply h
  have := congrArg (a ^^^ ·) e
  simpa [← UInt8.xor_assoc] using this.symm
set_option maxRecDepth 100000 in
set_option maxHeartbeats 1000000 in
theorem walk_quit (w : World) (g h z : Int) (y : Nat) (hy : y < 256) (hq : geomOk g h = false ∨ (geomOk g h = true ∧ y = 0)) :
    Calls Tryd.prog 7 #[gval g h, .int .i64 z, .int .u8 y] w fun e w' => e = .returned (.bool true) ∧ Below w.heap.size w w' := by
  have hb := (Below.refl w.heap.size w).alloc (Nat.le_refl _) (.cells #[.int .i64 g, .int .i64 h] 23)
  have x0 := Blk.new w 23 #[.int .i64 g, .int .i64 h]
  have c1 := fun W => s_write g h W
  have cf := fun W => s_fit g h W
  rcases hq with hk | ⟨hk, rfl⟩
  · have e1 : writeW g h = [] := by simp [writeW, hk]
    have e2 : writeE g h = 25 := by simp [writeE, hk]
    rw [e1, e2] at c1
    rw [hk] at cf
    clear e1 e2 hk
    go_enter Tryd.func7, Tryd.ntmps7
    go_wp2_with fail
    go_at_call 18
    refine (c1 _).mono ?_
    rintro e w1 ⟨rfl, hb1⟩
    have b1 := bt hb hb1
    have x1 := x0.below hb1 x0.lt
    have k1 := blk2 x1
    go_wp2_with fail
    go_at_call 10
    refine (cf _).mono ?_
    rintro e w2 ⟨rfl, hb2⟩
    have b2 := bt b1 hb2
    go_wp2_with fail
    go_at_call 9
    refine (awake04 _).mono ?_
    rintro e w3 ⟨rfl, hb3⟩
    go_wp2_with fail
    go_ret
    exact ⟨rfl, bt b2 hb3⟩
  · obtain ⟨r1, r2, r3, r4⟩ := write_read hk
    have e2 : writeE g h = 0 := by simp [writeE, hk]
    rw [e2] at c1
    rw [hk] at cf
    have l64 : ((writeW g h).length : Int) = 64 := by rw [r4]; rfl
    clear e2 hk r1 r2 r3
    generalize writeW g h = ww at *
    go_enter Tryd.func7, Tryd.ntmps7
    go_wp2_with fail
    go_at_call 18
    refine (c1 _).mono ?_
    rintro e w1 ⟨rfl, hb1⟩
    have b1 := bt hb hb1
    have x1 := x0.below hb1 x0.lt
    have k1 := blk2 x1
    go_wp2_with fail
    go_at_call 10
    refine (cf _).mono ?_
    rintro e w2 ⟨rfl, hb2⟩
    have b2 := bt b1 hb2
    go_wp2_with fail
    go_at_call 9
    refine (awake04 _).mono ?_
    rintro e w3 ⟨rfl, hb3⟩
    go_wp2_with fail
    go_ret
    exact ⟨rfl, bt b2 hb3⟩
set_option maxRecDepth 100000 in
set_option maxHeartbeats 1000000 in
theorem walk_on (w : World) (g h z : Int) (y : Nat) (hy : y < 256) (h0 : y ≠ 0) (hk : geomOk g h = true) (i : Nat) (hi : i < 64) (hz : (IntKind.u64.wrap z).tmod 64 = i) :
    Calls Tryd.prog 7 #[gval g h, .int .i64 z, .int .u8 y] w fun e w' => e = .returned (.bool true) ∧ Below w.heap.size w w' := by
  have hb := (Below.refl w.heap.size w).alloc (Nat.le_refl _) (.cells #[.int .i64 g, .int .i64 h] 23)
  have x0 := Blk.new w 23 #[.int .i64 g, .int .i64 h]
  have c1 := fun W => s_write g h W
  obtain ⟨r1, r2, r3, r4⟩ := write_read hk
  have e2 : writeE g h = 0 := by simp [writeE, hk]
  rw [e2] at c1
  have l64 : ((writeW g h).length : Int) = 64 := by rw [r4]; rfl
  have hil : i < (writeW g h).length := by omega
  have Hn := hid (show readE ((writeW g h).set i ((writeW g h)[i] ^^^ UInt8.ofNat y)) ≠ 0 by
    have hgo := geomOk_iff.1 hk
    have ew : writeW g h = supOf g.toNat h.toNat := by unfold writeW; rw [if_pos hk]
    generalize hU : writeW g h = U at *
    subst ew
    refine sup_byte (by omega) (by omega) hi ?_
    refine xor_ne ?_
    intro e
    have := congrArg UInt8.toNat e
    rw [UInt8.toNat_ofNat'] at this
    have e0 : (0 : UInt8).toNat = 0 := rfl
    omega)
  have c4 := fun W => s_read ((writeW g h).set i ((writeW g h)[i] ^^^ UInt8.ofNat y)) (by rw [List.length_set, r4]; decide) W
  have n0 : ((y : Int) == 0) = false := by simp; omega
  have n0' : ¬ (y : Int) = 0 := by omega
  clear r1 r2 r3 e2 hk
  generalize writeW g h = U at *
  have hx : bits .xor .u8 (U[i].toNat : Int) (y : Int) = ((U[i] ^^^ UInt8.ofNat y).toNat : Int) := by
    rw [u8_xor_nat _ _ (UInt8.toNat_lt _) hy]
    simp [UInt8.toNat_xor, UInt8.toNat_ofNat', Nat.mod_eq_of_lt hy]
  go_enter Tryd.func7, Tryd.ntmps7
  go_wp2_with fail
  go_at_call 18
  refine (c1 _).mono ?_
  rintro e w1 ⟨rfl, hb1⟩
  have b1 := bt hb hb1
  obtain ⟨q1, q2⟩ := bytesWorld_row2 w1 5 U
  have hcap : 64 ≤ grownCap w1 64 0 5 := grownCap_ge _ _ _ _
  have hcv := fun (W : World) => Lib.run_convert_string_bytes (P := Tryd.prog) W 9 42 5 (bs U) Tryd.underlying9 Tryd.underlying42 Tryd.underlying5
  simp only [bs_size, r4] at hcv
  have q5 := (Lib.bytesWorld_size w1 5 (bs U))
  obtain ⟨q3, q4⟩ := q2 i hil
  have q6 := q2.set i (U[i] ^^^ UInt8.ofNat y) hil
  have b2 := (bt b1 q1).setCell (p := ⟨w1.heap.size, i, none⟩) b1.size (.int .u8 ((U[i] ^^^ UInt8.ofNat y).toNat : Int))
  have hcb := run_convert_bytes_back (P := Tryd.prog) ((Lib.bytesWorld w1 5 (bs U)).setCell ⟨w1.heap.size, i, none⟩ (.int .u8 ((U[i] ^^^ UInt8.ofNat y).toNat : Int))) 42 9 5 ⟨w1.heap.size, 0, none⟩ (grownCap w1 64 0 5) (U.set i (U[i] ^^^ UInt8.ofNat y)) Tryd.underlying42 Tryd.underlying5 Tryd.underlying9 (fun j hj => by
    have := (q6 j (by have := hj; simp at this ⊢; omega)).1
    rw [add_at, Nat.zero_add]
    exact this)
  have hz2 := i64w (x := (i : Int)) ⟨by omega, by omega⟩
  have hzi : (i : Int) < (U.length : Int) := by omega
  have hv : (U[i] ^^^ UInt8.ofNat y).toNat = U[i].toNat ^^^ y % 256 := by simp [UInt8.toNat_xor, UInt8.toNat_ofNat']
  rw [hv] at hcb b2
  rw [List.length_set, r4] at hcb
  have nz : (readE (U.set i (U[i] ^^^ UInt8.ofNat y)) != 0) = true := by simpa using Hn.out
  clear q2 q6 q1
  generalize U.set i (U[i] ^^^ UInt8.ofNat y) = U' at *
  generalize readE U' = re at *
  generalize readG U' = rg at *
  generalize readH U' = rh at *
  go_wp2_with fail
  go_at_call 20
  refine (c4 _).mono ?_
  rintro e w4 ⟨rfl, hb4⟩
  have b4' := bt b2 hb4
  have b4 := b4'.alloc b4'.size (.cells #[.int .i64 rg, .int .i64 rh] 23)
  go_wp2_with fail
  go_at_call 9
  refine (awake04 _).mono ?_
  rintro e w5 ⟨rfl, hb5⟩
  go_wp2_with fail
  go_ret
  exact ⟨rfl, bt b4 hb5⟩
theorem walk (w : World) (g h : Int) (_ : (Lit.int .i64 g).wf = true) (_ : (Lit.int .i64 h).wf = true) (z : Int) (_ : (Lit.int .i64 z).wf = true) (y : Int) (wy : (Lit.int .u8 y).wf = true) :
    Calls Tryd.prog 7 #[gval g h, .int .i64 z, .int .u8 y] w fun e w' => e = .returned (.bool true) ∧ Below w.heap.size w w' := by
  have hy : 0 ≤ y ∧ y < 256 := by simp [Lit.wf, IntKind.min, IntKind.max, IntKind.bits, IntKind.signed] at wy; omega
  obtain ⟨y, rfl⟩ := Int.eq_ofNat_of_zero_le hy.1
  have hz : ∃ i : Nat, i < 64 ∧ (IntKind.u64.wrap z).tmod 64 = i := by
    have : 0 ≤ IntKind.u64.wrap z := by simp [IntKind.wrap, IntKind.bits, IntKind.signed]; omega
    obtain ⟨u, hu⟩ := Int.eq_ofNat_of_zero_le this
    exact ⟨u % 64, by omega, by rw [hu, Int.tmod_eq_emod_of_nonneg (by omega)]; omega⟩
  obtain ⟨i, hi, hz⟩ := hz
  have hy2 : y < 256 := by omega
  cases hk : geomOk g h with
  | false => exact walk_quit w g h z y hy2 (.inl hk)
  | true =>
    by_cases h0 : y = 0
    · exact walk_quit w g h z y hy2 (.inr ⟨hk, h0⟩)
    · exact walk_on w g h z y hy2 h0 hk i hi hz
/-! ### The row: the listed variables lie in the witness's world as the condition says -/
theorem own : ownKnob Tryd.prog.godebug = none := by kernel_rfl
/-- Utf8's table of first bytes, cell by cell. -/
def firstCells : Array Value := match Go.Pinned.utf8First with | .agg l => (l.map fun | .lit (.int k m) => Value.int k m | _ => undef).toArray | _ => #[]
/-- The heap that the door's own run leaves, with the pinned table laid. -/
noncomputable def laidWorld (os : Os) : World :=
  let w0 := World.doorLaid Tryd.prog 4000 os
  { w0 with heap := w0.heap.modify 0 fun | .cells _ t fr => .cells firstCells t fr | o => o }
set_option maxRecDepth 100000 in
theorem door_met (os : Os) (args : Array Value) : laidMetH Tryd.prog Rows.superByteRow.laid ((laidWorld os).forCall (fun _ _ => 0) ⟨#[], args, []⟩).memory :=
  laidMetH_of_parts3 (fuel := 8) (laidMet_of_run' 8 (by kernel_rfl) (by kernel_rfl)) (by kernel_rfl) (by kernel_rfl)
set_option maxRecDepth 100000 in
theorem lifted (os : Os) (started : os.Started) (H : Type) (enc : TypeId × Value → H) :
    ReturnsInHanded {} Tryd.checked os 7 .any (fun w args => (Rows.superByteSpec.pre enc Tryd.prog Tryd.f7 [] false w args ∧ laidMetH Tryd.prog Rows.superByteRow.laid w) ∧ sizedMet enc Tryd.prog Tryd.f7 (OpenSpec.ofChange Rows.superByteSpec) false w args)
      (Rows.superByteSpec.post enc Tryd.prog Tryd.f7 false true false false) := by
  refine returnsInHanded_of_change_and (C := Tryd.checked) (X := fun w _ => laidMetH Tryd.prog Rows.superByteRow.laid w) (fun _ _ _ hh h => h.of_heap hh) own started (by kernel_rfl) Tryd.func7
    (ChangeSpec.witness_shaped (enc := enc) (C := Tryd.checked) (os := os) (X := fun w _ => laidMetH Tryd.prog Rows.superByteRow.laid w) false (laidWorld os) #[.agg #[.int .i64 0, .int .i64 0], .int .i64 0, .int .u8 0] 8 rfl (World.shaped_of_RefB (by kernel_rfl) (by kernel_rfl)) (by kernel_rfl) (by kernel_rfl) (by kernel_rfl) (door_met os _)) ?_
  intro W base args ds gs before hval0 hW _ _ hL _
  have hval : ∀ (j : Nat) t v, Tryd.f7.params[j]? = some t → args[j]? = some v → Value.okWide Tryd.prog W .any base t v := hval0
  have hW' := hW
  obtain ⟨p, q, hA0, hV, rfl, hfz, hnd⟩ := hW
  have hA : DataW.TrodAll enc Tryd.prog W 0 (fun _ => true) true Tryd.f7.params.toList args.toList ds p := hA0
  have hAk := hA
  rw [Tryd.params7] at hA hval
  obtain ⟨v0, vs0, d0, ds0, p0, q0, hargs, rfl, rfl, h0, r0⟩ := trodAll_cons hA
  obtain ⟨v1, vs1, d1, ds1, p1, q1, rfl, rfl, rfl, h1, r1⟩ := trodAll_cons r0
  obtain ⟨v2, vs2, d2, ds2, p2, q2, rfl, rfl, rfl, h2, r2⟩ := trodAll_cons r1
  obtain ⟨rfl, rfl, rfl⟩ := trodAll_nil r2
  obtain rfl : args = #[v0, v1, v2] := by cases args; simp_all
  obtain ⟨rfl, rfl⟩ := trodVars_none hV
  obtain ⟨u0, x0, y0, z0, m0, rfl, _, _, t0, s0⟩ := open_agg2 Tryd.underlying23 (by kernel_rfl) (by kernel_rfl) (hval 0 23 v0 rfl rfl) h0
  obtain ⟨g0, e0, _, w0⟩ := DataW.trod_int Tryd.underlying3 t0
  obtain ⟨k0, f0, _, v0⟩ := DataW.trod_int Tryd.underlying3 s0
  injection e0 with e0
  injection f0 with f0
  subst e0; subst f0
  obtain ⟨a1, rfl, rfl, rfl, w1⟩ := open_int Tryd.underlying3 (hval 1 3 v1 rfl rfl) h1
  obtain ⟨a2, rfl, rfl, rfl, w2⟩ := open_int Tryd.underlying5 (hval 2 5 v2 rfl rfl) h2
  clear hA0 hval0
  simp only [List.append_nil] at hW'
  refine (walk W g0 k0 w0 v0 a1 w1 a2 w2).mono fun e W' ⟨he, hb⟩ => ?_
  subst he
  exact ⟨_, rfl, post_of_below (pa := _) (pv := []) hW' (fun _ _ _ => (trodAll_cons_mk (shut_bool Tryd.underlying4 _) trodAll_mk0)) (fun sp hsp => trodAll_stays (by kernel_rfl) hb (by kernel_rfl) hAk (fun x hx => hW'.lt x (by simpa using hx)) (fun x hx => hsp x (by simpa using hx))) (fun _ _ => rfl) (by simp) hb (ok_one (by kernel_rfl) rfl (okWide_bool_mk Tryd.underlying4 _))⟩
theorem row_ : Rows.SuperByteSaid :=
  OpenClaim.holds_of_wide 7 Tryd.f7 rfl rfl rfl rfl rfl rfl rfl ⟨rfl, rfl, rfl, rfl, rfl⟩ rfl rfl rfl rfl rfl (by kernel_rfl) Tryd.func7 (by kernel_rfl)
    (of_decide_eq_true (by kernel_rfl)) (by unfold Func.isWrapper; first | (rw [if_pos (by decide +kernel)]; kernel_rfl) | (rw [if_neg (by decide +kernel)]; exact ⟨rfl, rfl⟩))
    (fun os started H enc _ => lifted os started H enc)
/-- The statement: the tied card. -/
theorem proved : Rows.SuperByteCardSaid :=
  Claim7.holds_tied_plain_at .later [] [.data, .pinned] true (true, "b795209f8e7f0a9d5cc7c2730c89a80d3d8e1f435cbe53d2da0227eaffed61d6") false
    row_ (fun _ h => by cases h) (by kernel_rfl) (fun _ h => by cases h) superByte_row_tie rfl ⟨rfl, rfl⟩ (by kernel_rfl) rfl
    (fun f fn hf hfn => by
      obtain rfl : f = 7 := Option.some.inj ((show Tryd.prog.funcNamed "cofferdam/cofferdamlaw04.SuperByte" = some 7 by kernel_rfl).symm.trans hf) |>.symm
      obtain rfl : fn = Tryd.f7 := (Option.some.inj (Tryd.func7.symm.trans hfn)).symm
      exact ⟨by kernel_rfl, fun j t ht => by
        rw [Tryd.params7] at ht
        have hm : t ∈ [23, 3, 5] := by have := Array.mem_of_getElem? ht; simpa using this
        have hall : ([23, 3, 5].all fun u => !Tryd.prog.wantsStandIn u) = true := by kernel_rfl
        exact (show Tryd.prog.wantsStandIn t = false by simpa using List.all_eq_true.1 hall t hm)⟩)
    (by kernel_rfl)
#print axioms proved
end Go.Proofs.YtkiokdphjfkocaaDoor.superByte
