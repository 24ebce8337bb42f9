/- SpanWhole: extents are the whole range, none is empty, no two side by side have the same flags; what is told to be 0 reads as bytes 0: any fit image of few writes, any numbers. No condition. -/
import Derived.Test.YtlapjkbefkmohaaGreatSwLaw15b
import Derived.Test.YtlapjkbefkmohaaGreatSwGood15
import Derived.Test.YtlapjkbefkmohaaGreatSwRoot3
set_option linter.unusedVariables false
namespace Go.Proofs.YtlapjkbefkmohaaGreat.spanWhole
open Go.RowKit Go.Shelf Go.WideShapes Go.ChangeShapes Go.ChangeAt
open Go.ChangeMaps (open_string shut_string)
attribute [local go_sem] bs_mk bs_append bs_extract bs_size bs_toList bs_get
/-- The m-th extent: where it begins, that it lies within, what its clusters are. -/
theorem ext_at {F : Int → Int} {a n : Int} {L : List Xt} (hp : Paints F a L) (hl : lenX L = n) (h1 : ∀ x ∈ L, 1 ≤ x.1) {m : Nat} (hm : m < L.length) :
    0 ≤ lenX (L.take m) ∧ 1 ≤ L[m].1 ∧ lenX (L.take m) + L[m].1 ≤ n ∧ ∀ k, a + lenX (L.take m) ≤ k → k < a + lenX (L.take m) + L[m].1 → F k = L[m].2 := by
  have H : ∀ l : List Xt, (∀ x ∈ l, 1 ≤ x.1) → 0 ≤ lenX l := fun l => by
    induction l with
    | nil => exact fun _ => Int.le_refl _
    | cons x l ih => intro h; have := ih fun y hy => h y (List.mem_cons_of_mem _ hy); have := h x List.mem_cons_self; show 0 ≤ x.1 + lenX l; omega
  have e : L = L.take m ++ ([L[m]] ++ L.drop (m + 1)) := by rw [List.singleton_append, ← List.drop_eq_getElem_cons hm, List.take_append_drop]
  have h0 : 0 ≤ lenX (L.take m) := H _ fun x hx => h1 x (List.mem_of_mem_take hx)
  have h2 : 0 ≤ lenX (L.drop (m + 1)) := H _ fun x hx => h1 x (List.mem_of_mem_drop hx)
  have h3 : lenX L = lenX (L.take m) + (L[m].1 + lenX (L.drop (m + 1))) := by
    conv => lhs; rw [e]
    rw [lenX_append, lenX_append, lenX_one]
  have h4 : Paints F a (L.take m ++ ([L[m]] ++ L.drop (m + 1))) := e ▸ hp
  rw [paints_append, paints_append, paints_one] at h4
  exact ⟨h0, h1 _ (List.getElem_mem hm), by omega, fun k k1 k2 => h4.2.1 k k1 k2⟩
set_option maxRecDepth 100000 in
theorem walk_no (D : Dk) (g h : Int) (j : Jr) (maps : List Dm) (br : Bool) (p q r : Pl) (l1 a n : Int) (w : World) (hI : IsIm0 w D g h j maps p q r) (hg : goodI D g h j maps = false) :
    Calls Tryz.prog 3 #[imval0 D g h j maps br p q r, .int .i64 l1, .int .i64 a, .int .i64 n] w fun e w' => e = .returned (.bool true) ∧ Below w.heap.size w w' := by
  have hG := fun (W : World) (hb : Below w.heap.size w W) => good15 D g h j maps br p q r W (hI.below hb)
  rw [hg] at hG
  clear hI hg
  obtain ⟨sq, pos⟩ := j
  obtain ⟨A1, a1⟩ := p
  obtain ⟨A2, a2⟩ := q
  obtain ⟨A3, a3⟩ := r
  have hB := Below.refl w.heap.size w
  have x := Blk.new w 33 #[.string (bs D.data), .slice A1 D.cache.length a1, .int .i64 D.fuse, .bool D.off, .slice A2 D.bad.length a2, .int .i64 g, .int .i64 h, .int .u64 sq, .int .i64 pos, .slice A3 maps.length a3, .bool br]
  have xk := blk11 x
  have hB_1 := hB.alloc hB.size (.cells #[.string (bs D.data), .slice A1 D.cache.length a1, .int .i64 D.fuse, .bool D.off, .slice A2 D.bad.length a2, .int .i64 g, .int .i64 h, .int .u64 sq, .int .i64 pos, .slice A3 maps.length a3, .bool br] 33)
  go_enter Tryz.func3, Tryz.ntmps3
  go_wp2_with fail
  go_at_call 6
  refine ((hG _ hB_1)).mono ?_
  rintro e w1 ⟨rfl, hb1⟩
  replace hB := bt hB_1 hb1
  replace x := x.below hb1 x.lt
  replace xk := blk11 x
  clear hB_1
  go_wp2_with fail
  go_at_call 7
  refine ((awake15 _)).mono ?_
  rintro e w2 ⟨rfl, hb2⟩
  replace hB := bt hB hb2
  replace x := x.below hb2 x.lt
  replace xk := blk11 x
  go_wp2_with fail
  go_ret
  exact ⟨rfl, hB⟩
set_option maxRecDepth 100000 in
set_option maxHeartbeats 2000000 in
theorem walk_yes (D : Dk) (g : Int) (h : Nat) (j : Jr) (maps : List Dm) (br : Bool) (p q r : Pl) (l1 a n : Int) (ha : okInt a) (hn : okInt n) (w : World) (hI0 : IsIm0 w D g h j maps p q r) (hg : goodI D g h j maps = true) (hI : IsIm w ⟨D, g, h, j, maps, br⟩ p q r) (ok : (⟨D, g, h, j, maps, br⟩ : Im).Ok) :
    Calls Tryz.prog 3 #[imval0 D g h j maps br p q r, .int .i64 l1, .int .i64 a, .int .i64 n] w fun e w' => e = .returned (.bool true) ∧ Below w.heap.size w w' := by
  have hG := fun (W : World) (hb : Below w.heap.size w W) => good15 D g h j maps br p q r W (hI0.below hb)
  rw [hg] at hG
  have hst := fun (W : World) (hb : Below w.heap.size w W) => sp_status ⟨D, g, h, j, maps, br⟩ p q r W (hI.below hb) ok.d ok.g l1 a n ha hn
  have hrd := fun (W : World) (hb : Below w.heap.size w W) (u : Int) => r13_read D p q W (hI.d.below hb) ok.d l1 u
  have hgg : 0 < g ∧ g ≤ 64 := ok.g
  have Herr := hid (fun (e : (Im.status D g l1 a n).2 ≠ 0) => spanOf_err e)
  have Hok := hid (fun (e : (Im.status D g l1 a n).2 = 0) => spanOf_ok hgg e)
  obtain ⟨⟨L, er⟩, hX⟩ : ∃ X, Im.status D g l1 a n = X := ⟨_, rfl⟩
  have hX' : spanOf (Im.entFlags D l1) g a n = (L, er) := hX
  simp only at hst
  rw [hX] at hst
  rw [hX, hX'] at Herr Hok
  clear hI0 hg hI ok hX hX'
  obtain ⟨sq, pos⟩ := j
  obtain ⟨A1, a1⟩ := p
  obtain ⟨A2, a2⟩ := q
  obtain ⟨A3, a3⟩ := r
  have hB := Below.refl w.heap.size w
  have x := Blk.new w 33 #[.string (bs D.data), .slice A1 D.cache.length a1, .int .i64 D.fuse, .bool D.off, .slice A2 D.bad.length a2, .int .i64 g, .int .i64 h, .int .u64 sq, .int .i64 pos, .slice A3 maps.length a3, .bool br]
  have xk := blk11 x
  have hB_1 := hB.alloc hB.size (.cells #[.string (bs D.data), .slice A1 D.cache.length a1, .int .i64 D.fuse, .bool D.off, .slice A2 D.bad.length a2, .int .i64 g, .int .i64 h, .int .u64 sq, .int .i64 pos, .slice A3 maps.length a3, .bool br] 33)
  go_enter Tryz.func3, Tryz.ntmps3
  go_wp2_with fail
  go_at_call 6
  refine ((hG _ hB_1)).mono ?_
  rintro e w1 ⟨rfl, hb1⟩
  replace hB := bt hB_1 hb1
  replace x := x.below hb1 x.lt
  replace xk := blk11 x
  clear hB_1
  go_wp2_with fail
  go_at_call 8
  refine ((hst _ hB)).mono ?_
  rintro e w2 ⟨⟨v, rfl, hv⟩, hb2⟩
  replace hB := bt hB hb2
  replace x := x.below hb2 x.lt
  replace xk := blk11 x
  by_cases he : er = 0
  rotate_left
  · have hL : L = [] := Herr.out he
    subst hL
    have n1 : (er != 0) = true := by simpa using he
    obtain ⟨A4, a4, rfl, _, _, _⟩ := own_slice hv
    clear he hv
    go_wp2_with fail
    go_at_call 7
    have hBw := hB
    refine (awake15 _).mono ?_
    rintro e w3 ⟨rfl, hb3⟩
    go_wp2_with fail
    go_ret
    exact ⟨rfl, bt hBw hb3⟩
  obtain ⟨q1, q2, q3, q4, q5, q6, q7⟩ := Hok.out he
  subst he
  obtain ⟨A4, a4, rfl, hLa, hLm, _⟩ := own_slice hv
  have hL8 : L.length ≤ a4 := hLa
  have hL9 : L.length ≤ 9223372036854775807 := by unfold maxLen at hLm; omega
  clear hLa
  have cv := Cells.of_own hv
  have Hat := hid (fun (m : Nat) (hm : m < L.length) => ext_at q6 q5 (fun x hx => (q4.1 x hx).1) hm)
  have Hne := hid q4.2
  have H7 := hid q7
  have Hlen := hid q5
  have hBw := hB
  have xw := x
  have HC := hid (fun (W : World) (hb : Below w2.heap.size w2 W) => cv.below hb)
  have hz := hid (fun (k : Int) (h0 : (Im.entFlags D l1 k).2 = 0) (hf : (Im.entFlags D l1 k).1 ≠ 0) => Im.status_zero h0 hf)
  have Hfl := hid (fun (k : Int) => show (Im.entFlags D l1 k).1 = 0 ∨ (Im.entFlags D l1 k).1 = 2 ∨ (Im.entFlags D l1 k).1 = 3 from by
    show Im.flagsOf _ = 0 ∨ Im.flagsOf _ = 2 ∨ Im.flagsOf _ = 3
    unfold Im.flagsOf
    split
    · exact .inl rfl
    split
    · exact .inr (.inl rfl)
    · exact .inr (.inr rfl))
  have wan := i64w (x := a + n) (by omega)
  clear q4 q5 q6 q7 hst hG Herr Hok hv cv
  go_wp2_with fail
  go_loopw [11, 12, 41] (fun at_ lst x W => ∃ (m : Nat) (lv : Int), m ≤ L.length ∧ x = .int .i64 m ∧ at_ = .int .i64 (a + lenX (L.take m)) ∧ lst = .int .i64 lv ∧ Hid (∀ h : m < L.length, L[m].2 ≠ lv) ∧ Below w2.heap.size w2 W) (fun _ _ x _ => L.length - (intOf x).toNat)
  case atStart =>
    refine ⟨0, -1, Nat.zero_le _, rfl, by show _ = Value.int .i64 (a + 0); rw [Int.add_zero], rfl, hid fun h0 => ?_, Below.refl _ _⟩
    obtain ⟨_, h2, h3, h4⟩ := Hat.out 0 h0
    have e0 : lenX (L.take 0) = 0 := rfl
    rw [e0] at h4
    have := h4 a (by omega) (by omega)
    have := Hfl.out (a / 128)
    omega
  case round =>
    obtain ⟨m, lv, hm, rfl, rfl, rfl, hlv, hb⟩ := hrel
    have hbw := hBw.trans (hb.mono hBw.size)
    by_cases hlt : m < L.length
    · obtain ⟨gA, oA, e1, hc⟩ := (HC.out _ hb).ent hlt
      replace hc := hc m hlt
      obtain ⟨h0, h2, h3, h4⟩ := Hat.out m hlt
      have hlv1 := hlv.out hlt
      obtain ⟨⟨xl, xf⟩, hx⟩ : ∃ x, L[m] = x := ⟨_, rfl⟩
      have Hnx := hid (fun (h : m + 1 < L.length) => show L[m + 1].2 ≠ xf by have h9 := Hne.out m h; rw [hx] at h9; exact fun e => h9 e.symm)
      rw [hx] at hc h2 h3 h4 hlv1
      simp only at hc h2 h3 h4 hlv1
      obtain ⟨T, hT⟩ : ∃ T, lenX (L.take m) = T := ⟨_, rfl⟩
      have HT1 := hid (show lenX (L.take (m + 1)) = T + xl by rw [List.take_succ_eq_append_getElem hlt, lenX_append, lenX_one, hx, hT])
      rw [hT] at h0 h3 h4 ⊢
      have Hk := hid h4
      have hxf : xf = 0 ∨ xf = 2 ∨ xf = 3 := by
        have e5 := h4 (a + T) (by omega) (by omega)
        rw [← e5]; exact Hfl.out _
      clear hx hT hlv h4
      subst e1
      obtain ⟨b0, hb0⟩ : ∃ b0, wr.heap.size = b0 := ⟨_, rfl⟩
      have x1 := Blk.new wr 41 #[.int .i64 xl, .int .i64 xf]
      have hb2' := hb.alloc hb.size (.cells #[.int .i64 xl, .int .i64 xf] 41)
      rw [hb0] at x1
      have kx := blk2 x1
      have n1 : ¬ xl < 1 := by omega
      have n2 : (xf == lv) = false := by simpa using hlv1
      have w3 := i64w (x := a + n - (a + T)) (by omega)
      have n3 : ¬ a + n - (a + T) < xl := by omega
      have wat := i64w (x := a + T + xl) (by omega)
      go_wp2_with fail
      go_loopw [15] (fun kv W => ∃ k : Int, kv = .int .i64 k ∧ a + T ≤ k ∧ k ≤ a + T + xl ∧ Below w2.heap.size w2 W ∧ Blk W b0 41 #[.int .i64 xl, .int .i64 xf]) (fun kv _ => (a + T + xl - intOf kv).toNat)
      case atStart => exact ⟨_, rfl, Int.le_refl _, by omega, hb2', x1⟩
      case round =>
        obtain ⟨k, rfl, hk1, hk2, hb3, x3⟩ := hrel
        clear kx x1 hb2'
        have kx := blk2 x3
        have hbw3 := hBw.trans (hb3.mono hBw.size)
        by_cases hk : k < a + T + xl
        · by_cases hf0 : xf = 0
          · subst hf0
            go_wp2_with fail
            go_quiet (fail)
            go_wp2_with fail
            go_roundw
            case rel => exact ⟨m + 1, 0, by omega, by go_num, by rw [HT1.out, ← Int.add_assoc], rfl, hid (fun h9 => Hnx.out h9), by first | exact hb3 | exact below_drewN hb3 _⟩
            case measure => simp [intOf]; omega
          · have hfk := Hk.out k hk1 hk
            have hrz := hz.out (k / 128) (H7.out k (by omega) (by omega)) (by rw [hfk]; exact hf0)
            obtain ⟨R, hR⟩ : ∃ R : Nat, k % 128 = R := ⟨(k % 128).toNat, by omega⟩
            have hR2 : R < 128 := by omega
            have tR : k.tmod 128 = (R : Int) := by rw [Int.tmod_eq_emod_of_nonneg (by omega), ← hR]
            have tA : k.tdiv 128 = k / 128 := Int.tdiv_eq_ediv_of_nonneg (by omega)
            have wA := i64w (x := k / 128) (by omega)
            have wk := i64w (x := k + 1) (by omega)
            have hr := hrd wr (hbw3) (k / 128)
            rw [hrz] at hr
            simp only at hr
            have zR : ∀ (h : R < (List.replicate 128 (0 : UInt8)).length), (List.replicate 128 (0 : UInt8))[R] = 0 := fun h => List.getElem_replicate ..
            have lR : R < (List.replicate 128 (0 : UInt8)).length := by rw [List.length_replicate]; exact hR2
            generalize List.replicate 128 (0 : UInt8) = Z at *
            have zR := zR lR
            clear hR hrz hfk
            have xw3 := blk11 (xw.below hb3 xw.lt)
            rcases hxf with h9 | h9 | h9
            · exact absurd h9 hf0
            · subst h9
              go_wp2_with fail
              go_at_call 9
              refine hr.mono ?_
              rintro e w3 ⟨rfl, hb4⟩
              go_wp2_with fail
              exact ⟨⟨k + 1, rfl, by omega, by omega, bt hb3 hb4, x3.below hb4 x3.lt⟩, by simp [intOf]; omega⟩
            · subst h9
              go_wp2_with fail
              go_at_call 9
              refine hr.mono ?_
              rintro e w3 ⟨rfl, hb4⟩
              go_wp2_with fail
              exact ⟨⟨k + 1, rfl, by omega, by omega, bt hb3 hb4, x3.below hb4 x3.lt⟩, by simp [intOf]; omega⟩
        · have hk' : ¬ k < a + T + xl := hk
          go_wp2_with fail
          go_quiet (fail)
          go_wp2_with fail
          go_roundw
          case rel => exact ⟨m + 1, xf, by omega, by go_num, by rw [HT1.out, ← Int.add_assoc], rfl, hid (fun h9 => Hnx.out h9), by first | exact hb3 | exact below_drewN hb3 _⟩
          case measure => simp [intOf]; omega
    · obtain rfl : m = L.length := by omega
      rw [List.take_length, Hlen.out]
      go_wp2_with fail
      go_at_call 7
      refine (awake15 _).mono ?_
      rintro e w4 ⟨rfl, hb5⟩
      go_wp2_with fail
      go_ret
      exact ⟨rfl, bt hbw hb5⟩
theorem walk (w : World) (D : Dk) (g h : Int) (j : Jr) (maps : List Dm) (br : Bool) (p q r : Pl) (hI : IsIm0 w D g h j maps p q r) (l1 : Int) (h1 : (Lit.int .i64 l1).wf = true) (a : Int) (ha : (Lit.int .i64 a).wf = true) (n : Int) (hn : (Lit.int .i64 n).wf = true) :
    Calls Tryz.prog 3 #[imval0 D g h j maps br p q r, .int .i64 l1, .int .i64 a, .int .i64 n] w fun e w' => e = .returned (.bool true) ∧ Below w.heap.size w w' := by
  cases hg : goodI D g h j maps with
  | false => exact walk_no D g h j maps br p q r l1 a n w hI hg
  | true =>
    obtain ⟨hh, rfl, h2, ok⟩ := good_ok br hI hg
    exact walk_yes D g hh j maps br p q r l1 a n (okInt_of ha) (okInt_of hn) w hI hg h2 ok
/-! ### The row -/
theorem own : ownKnob Tryz.prog.godebug = none := by kernel_rfl
set_option maxRecDepth 100000 in
theorem lifted (os : Os) (started : os.Started) (H : Type) (enc : TypeId × Value → H) :
    ReturnsInHanded {} Tryz.checked os 3 .any (Rows.spanWholeSpec.pre6 enc Tryz.prog Tryz.f3 Rows.spanWholeRow.domain false) (Rows.spanWholeSpec.post enc Tryz.prog Tryz.f3 false true false false) := by
  refine returnsInHanded_of_change_sized (C := Tryz.checked) own started (by kernel_rfl) Tryz.func3
    (ChangeSpec.witness6 (enc := enc) (C := Tryz.checked) false ⟨#[], #[.agg #[.string ByteArray.empty, .slice none 0 0, .int .i64 0, .bool false, .slice none 0 0, .int .i64 0, .int .i64 0, .int .u64 0, .int .i64 0, .slice none 0 0, .bool false], .int .i64 0, .int .i64 0, .int .i64 0], []⟩ 8 (by kernel_rfl) (by kernel_rfl) (by kernel_rfl) (by kernel_rfl)) ?_
  intro W base args ds gs before hval0 hW hcnd hsz0 _
  have hval : ∀ (j : Nat) t v, Tryz.f3.params[j]? = some t → args[j]? = some v → Value.okWide Tryz.prog W .any base t v := hval0
  have hW' := hW
  obtain ⟨p, q, hA0, hV, rfl, hfz, hnd⟩ := hW
  have hA : DataW.TrodAll enc Tryz.prog W 0 (fun _ => true) true Tryz.f3.params.toList args.toList ds p := hA0
  have hAk := hA
  have hsz : (DataW.weightsEach Tryz.prog (Tryz.f3.params.toList ++ Rows.spanWholeSpec.plain.varTypes Tryz.prog) (ds ++ gs)).all (· ≤ reachBytes) = true := hsz0
  rw [Tryz.params3] at hA hval hsz
  obtain ⟨v0, vs0, d0, ds0, p0, q0, hargs, rfl, rfl, h0, r0⟩ := trodAll_cons hA
  obtain ⟨v1, vs1, d1, ds1, p1, q1, rfl, rfl, rfl, h1, r1⟩ := trodAll_cons r0
  obtain ⟨v2, vs2, d2, ds2, p2, q2, rfl, rfl, rfl, h2, r2⟩ := trodAll_cons r1
  obtain ⟨v3, vs3, d3, ds3, p3, q3, rfl, rfl, rfl, h3, r3⟩ := trodAll_cons r2
  obtain ⟨rfl, rfl, rfl⟩ := trodAll_nil r3
  obtain rfl : args = #[v0, v1, v2, v3] := by cases args; simp_all
  obtain ⟨rfl, rfl⟩ := trodVars_none hV
  obtain ⟨D0, g0, n0, j0, m0, b0, P0, Q0, R0, rfl, w0⟩ := open_image Tryz.underlying33 (by kernel_rfl) ⟨by kernel_rfl, by kernel_rfl⟩ ⟨by kernel_rfl, by kernel_rfl⟩ ⟨by kernel_rfl, by kernel_rfl⟩ ⟨by kernel_rfl, by kernel_rfl⟩ ⟨by kernel_rfl, by kernel_rfl⟩ Tryz.underlying25 (by kernel_rfl) Tryz.underlying9 Tryz.underlying22 Tryz.underlying3 Tryz.underlying4 Tryz.underlying23 Tryz.underlying133 (by kernel_rfl) (by kernel_rfl) Tryz.underlying3 Tryz.underlying9 Tryz.underlying3 (by kernel_rfl) (by kernel_rfl) Tryz.underlying27 (by kernel_rfl) Tryz.underlying3 Tryz.underlying3 Tryz.underlying30 (by kernel_rfl) Tryz.underlying28 Tryz.underlying3 Tryz.underlying31 Tryz.underlying57 ⟨by kernel_rfl, by kernel_rfl⟩ ⟨by kernel_rfl, by kernel_rfl⟩ ⟨by kernel_rfl, by kernel_rfl⟩ (by kernel_rfl) Tryz.underlying9 Tryz.underlying4 Tryz.underlying55 Tryz.underlying4 (by kernel_rfl) Tryz.underlying4 (hval 0 33 v0 rfl rfl) h0 (weights_each hsz (j := 0) rfl rfl)
  obtain ⟨a1, rfl, rfl, rfl, w1⟩ := open_int Tryz.underlying3 (hval 1 3 v1 rfl rfl) h1
  obtain ⟨a2, rfl, rfl, rfl, w2⟩ := open_int Tryz.underlying3 (hval 2 3 v2 rfl rfl) h2
  obtain ⟨a3, rfl, rfl, rfl, w3⟩ := open_int Tryz.underlying3 (hval 3 3 v3 rfl rfl) h3
  clear hA0 hval0
  simp only [List.append_nil] at hW'
  refine (walk W D0 g0 n0 j0 m0 b0 P0 Q0 R0 w0 a1 w1 a2 w2 a3 w3).mono fun e W' ⟨he, hb⟩ => ?_
  subst he
  exact ⟨_, rfl, post_of_below (pa := _) (pv := []) hW' (fun _ _ _ => (trodAll_cons_mk (shut_bool Tryz.underlying4 _) trodAll_mk0)) (fun sp hsp => trodAll_stays (by kernel_rfl) hb (by kernel_rfl) hAk (fun x hx => hW'.lt x (by simpa using hx)) (fun x hx => hsp x (by simpa using hx))) (fun _ _ => rfl) (by simp) hb (ok_one (by kernel_rfl) rfl (okWide_bool_mk Tryz.underlying4 _))⟩
theorem over_ : Rows.spanWholeRow.holds Tryz.pinned (OpenSpec.ofChange Rows.spanWholeSpec) :=
  OpenClaim.holds_of_wide 3 Tryz.f3 rfl rfl rfl rfl rfl rfl rfl ⟨rfl, rfl, rfl, rfl, rfl⟩ rfl rfl rfl rfl rfl (by kernel_rfl) Tryz.func3 (by kernel_rfl)
    (of_decide_eq_true (by kernel_rfl)) (by unfold Func.isWrapper; first | (rw [if_pos (by decide +kernel)]; kernel_rfl) | (rw [if_neg (by decide +kernel)]; exact ⟨rfl, rfl⟩))
    (fun os started H enc _ => lifted os started H enc)
/-- The statement. -/
theorem proved : Rows.SpanWholeSaid := over_
#print axioms proved
end Go.Proofs.YtlapjkbefkmohaaGreat.spanWhole
