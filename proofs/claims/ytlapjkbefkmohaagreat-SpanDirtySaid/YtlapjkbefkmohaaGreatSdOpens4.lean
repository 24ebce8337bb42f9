/- Arguments opened: images. -/
import Derived.Test.YtlapjkbefkmohaaGreatSdRoot3
import Derived.Test.YtlapjkbefkmohaaGreatSdImg9
set_option linter.unusedVariables false
namespace Go.Proofs.YtlapjkbefkmohaaGreat
open Go.RowKit Go.Shelf Go.WideShapes Go.ChangeShapes Go.Deep Go.Joins
section
variable {H : Type} {enc : TypeId × Value → H} {P : Program} {w : World} {base : Nat} {spare : Nat → Bool} {held : Bool}
theorem open_dmap_cells {t e : TypeId} {f0 f1 f2 : Field} {l : List Value} {x : DataW H × List MemPlace} {fuel : Nat}
 (hs : P.underlying t = some (.struct #[f0, f1, f2])) (ho0 : f0.offset = 0 ∧ P.cellsOf f0.type = 1) (ho1 : f1.offset = 1 ∧ P.cellsOf f1.type = 1) (ho2 : f2.offset = 2 ∧ P.cellsOf f2.type = 64) (hC : P.cellsOf t = 66)
 (u0 : P.underlying f0.type = some .string) (u1 : P.underlying f1.type = some .bool) (u2 : P.underlying f2.type = some (.array 64 e)) (ue : P.underlying e = some .bool) (ce : P.cellsOf e = 1)
 (hsz : l.length = 66) (hf : DataW.trod enc P w base spare held fuel t l = some x) : ∃ m : Dm, l = dmCells m ∧ m.name.length ≤ maxLen ∧ m.bits.length = 64 := by
 match l, hsz with
 | x0 :: x1 :: r, hr =>
  have hr64 : r.length = 64 := by simpa using hr
  clear hr
  obtain ⟨xs, n, _, hx, _, hlen, hg⟩ := DataW.trod_struct hs hf
  match xs, hlen with
  | [y0, y1, y2], _ =>
   have t0 : DataW.trod enc P w base spare held n f0.type [x0] = some y0 := by simpa [ho0.1, ho0.2] using hg 0 f0 rfl
   have t1 : DataW.trod enc P w base spare held n f1.type [x1] = some y1 := by simpa [ho1.1, ho1.2] using hg 1 f1 rfl
   have t2 : DataW.trod enc P w base spare held n f2.type r = some y2 := by
    have := hg 2 f2 rfl
    simp only [ho2.1, ho2.2] at this
    rw [show ((x0 :: x1 :: r).drop 2).take 64 = r by rw [show (x0 :: x1 :: r).drop 2 = r from rfl, List.take_of_length_le (by omega)]] at this
    simpa using this
   obtain ⟨s, hs0, _, hws⟩ := DataW.trod_string u0 t0
   obtain ⟨b, hb, _⟩ := DataW.trod_bool u1 t1
   injection hs0 with hs0
   injection hb with hb
   subst hs0 hb
   obtain ⟨zs, m, _, _, _, hzl, hel⟩ := DataW.trod_array u2 t2
   have hbits : ∀ i, i < 64 → ∃ b : Bool, r[i]? = some (.bool b) := fun i hi => by
    have := hel i hi
    rw [ce, Nat.mul_one] at this
    obtain ⟨z, hz⟩ : ∃ z, zs[i]? = some z := ⟨_, List.getElem?_eq_getElem (by omega)⟩
    rw [hz] at this
    have e1 : (r.drop i).take 1 = [r[i]'(by omega)] := by
     rw [List.drop_eq_getElem_cons (by omega)]
     rfl
    rw [e1] at this
    obtain ⟨b, hb, _⟩ := DataW.trod_bool ue this
    injection hb with hb
    exact ⟨b, by rw [List.getElem?_eq_getElem (by omega), hb]⟩
   obtain ⟨q, rfl⟩ : ∃ q : List Bool, r = q.map .bool := by
    clear hel hx hg t2 hsz hf
    have H : ∀ (n : Nat) (r : List Value), r.length = n → (∀ i, i < n → ∃ b : Bool, r[i]? = some (.bool b)) → ∃ q : List Bool, r = q.map .bool := fun n => by
     induction n with
     | zero => intro r hr _; exact ⟨[], by rw [List.length_eq_zero_iff.1 hr]; rfl⟩
     | succ n ih =>
      intro r hr h
      match r, hr with
      | x :: r, hr =>
       obtain ⟨b, hb⟩ := h 0 (by omega)
       obtain ⟨q, rfl⟩ := ih r (by simpa using hr) fun i hi => h (i + 1) (by omega)
       refine ⟨b :: q, ?_⟩
       have : x = .bool b := by simpa using hb
       rw [this]; rfl
    exact H 64 r hr64 hbits
   obtain ⟨l, rfl⟩ := bs_of s
   exact ⟨⟨l, b, q⟩, rfl, by rw [bs_size] at hws; exact hws, by simpa using hr64⟩
theorem dmRows_at : ∀ (l : List Dm), (∀ m ∈ l, m.bits.length = 64) → ∀ (j : Nat) (u : Value), (dmRows l)[j]? = some u → ∃ i, ∃ hi : i < l.length, ∃ k, k < 66 ∧ j = i * 66 + k ∧ (dmCells l[i])[k]? = some u := by
 intro l
 induction l with
 | nil => intro _ j u h; simp [dmRows] at h
 | cons x l ih =>
  intro h64 j u h
  have hx := dmCells_length (h64 x (by simp))
  have h : (dmCells x ++ dmRows l)[j]? = some u := h
  by_cases hj : j < 66
  · rw [List.getElem?_append_left (by omega)] at h
    exact ⟨0, by simp, j, hj, by omega, h⟩
  · rw [List.getElem?_append_right (by omega), hx] at h
    obtain ⟨i, hi, k, hk, e, hu⟩ := ih (fun m hm => h64 m (by simp [hm])) (j - 66) u h
    exact ⟨i + 1, by simpa using hi, k, hk, by omega, by simpa using hu⟩
theorem open_dmaps {t e eb : TypeId} {f0 f1 f2 : Field} {fuel : Nat} {v : Value} {x : DataW H × List MemPlace} (ht : P.underlying t = some (.slice e))
 (hs : P.underlying e = some (.struct #[f0, f1, f2])) (ho0 : f0.offset = 0 ∧ P.cellsOf f0.type = 1) (ho1 : f1.offset = 1 ∧ P.cellsOf f1.type = 1) (ho2 : f2.offset = 2 ∧ P.cellsOf f2.type = 64) (hC : P.cellsOf e = 66)
 (u0 : P.underlying f0.type = some .string) (u1 : P.underlying f1.type = some .bool) (u2 : P.underlying f2.type = some (.array 64 eb)) (ue : P.underlying eb = some .bool) (ce : P.cellsOf eb = 1)
 (h : DataW.trod enc P w base spare held fuel t [v] = some x) : ∃ (l : List Dm) (r : Pl), v = .slice r.a l.length r.c ∧ IsMs w l r := by
 rcases open_slice ht h with ⟨h0, _⟩ | ⟨a, len, cap, m, n, D, Pl, hcs, _, hl, hm, hmm, _, hi⟩
 · injection h0 with h0
   exact ⟨[], ⟨none, 0⟩, h0, isMs_nil w⟩
 · injection hcs with hcs
   have hlm : len ≤ m := by rw [hmm]; split <;> omega
   obtain ⟨l, hl', hR⟩ := list_of (α := Dm) (n := len) (R := fun i x => (∀ k u, (dmCells x)[k]? = some u → w.cell? (a.add (i * 66 + k)) = some u) ∧ x.name.length ≤ maxLen ∧ x.bits.length = 64) fun i h => by
    obtain ⟨cs', hc, ht'⟩ := hi i (by omega)
    rw [hC] at hc
    obtain ⟨_, hcl, hat⟩ := World.cells?_some hc
    obtain ⟨x, rfl, h1, h2⟩ := open_dmap_cells hs ho0 ho1 ho2 hC u0 u1 u2 ue ce hcl ht'
    refine ⟨x, fun k u hu => ?_, h1, h2⟩
    have hk := (List.getElem?_eq_some_iff.1 hu).1
    rw [← Go.Deep.add_add, hat k (by omega), hu]
   subst hl'
   have h64 : ∀ x ∈ l, x.bits.length = 64 := fun x hx => by obtain ⟨j, hj, rfl⟩ := List.getElem_of_mem hx; exact (hR j hj).2.2
   refine ⟨l, ⟨some a, cap⟩, hcs, cells_some fun j u hu => ?_, (by intro h; cases h), hl, hm, h64, fun x hx => by obtain ⟨j, hj, rfl⟩ := List.getElem_of_mem hx; exact (hR j hj).2.1⟩
   obtain ⟨i, hi, k, hk, rfl, hu'⟩ := dmRows_at l h64 j u hu
   exact (hR i hi).1 k u hu'
/-- An image that came as an argument. -/
structure IsIm0 (w : World) (D : Dk) (g h : Int) (j : Jr) (maps : List Dm) (p q r : Pl) : Prop where
 d : IsDk0 w D p q
 m : IsMs w maps r
 data : D.data.length ≤ 140737488355328
 bad : D.bad.length ≤ 17592186044416
 g : okInt g
 h : okInt h
 seq : j.seq < 18446744073709551616
 pos : okInt j.pos
theorem IsIm0.below {w w' : World} {D : Dk} {g h : Int} {j : Jr} {maps : List Dm} {p q r : Pl} (hI : IsIm0 w D g h j maps p q r) (hb : Below w.heap.size w w') : IsIm0 w' D g h j maps p q r := { hI with d := hI.d.below hb, m := hI.m.below hb }
abbrev imval0 (D : Dk) (g h : Int) (j : Jr) (maps : List Dm) (br : Bool) (p q r : Pl) : Value :=
 .agg #[.string (bs D.data), .slice p.a D.cache.length p.c, .int .i64 D.fuse, .bool D.off, .slice q.a D.bad.length q.c, .int .i64 g, .int .i64 h, .int .u64 j.seq, .int .i64 j.pos, .slice r.a maps.length r.c, .bool br]
theorem open_image {t tp ti te eb : TypeId} {F0 F1 F2 F3 F4 f0 f1 f2 f3 f4 g0 g1 a0 a1 j0 j1 m0 m1 m2 : Field} {v : Value} {d : DataW H} {pp : List MemPlace} {r : Reach} {b0 : Nat}
 (hs : P.underlying t = some (.struct #[F0, F1, F2, F3, F4])) (hC : P.cellsOf t = 11)
 (o0 : F0.offset = 0 ∧ P.cellsOf F0.type = 5) (o1 : F1.offset = 5 ∧ P.cellsOf F1.type = 2) (o2 : F2.offset = 7 ∧ P.cellsOf F2.type = 2) (o3 : F3.offset = 9 ∧ P.cellsOf F3.type = 1) (o4 : F4.offset = 10 ∧ P.cellsOf F4.type = 1)
 (hd : P.underlying F0.type = some (.struct #[f0, f1, f2, f3, f4])) (hone : oneCellFields P #[f0, f1, f2, f3, f4] = true)
 (u0 : P.underlying f0.type = some .string) (u1 : P.underlying f1.type = some (.slice tp)) (u2 : P.underlying f2.type = some (.int .i64)) (u3 : P.underlying f3.type = some .bool) (u4 : P.underlying f4.type = some (.slice ti))
 (k1 : P.underlying tp = some (.struct #[g0, g1])) (hone' : oneCellFields P #[g0, g1] = true) (hC' : P.cellsOf tp = 2) (g0i : P.underlying g0.type = some (.int .i64)) (g1s : P.underlying g1.type = some .string)
 (k4 : P.underlying ti = some (.int .i64)) (hC4 : P.cellsOf ti = 1) (hB4 : P.bytesOf ti = 8)
 (hg : P.underlying F1.type = some (.struct #[a0, a1])) (hone2 : oneCellFields P #[a0, a1] = true) (a0i : P.underlying a0.type = some (.int .i64)) (a1i : P.underlying a1.type = some (.int .i64))
 (hj : P.underlying F2.type = some (.struct #[j0, j1])) (hone3 : oneCellFields P #[j0, j1] = true) (j0i : P.underlying j0.type = some (.int .u64)) (j1i : P.underlying j1.type = some (.int .i64))
 (hm : P.underlying F3.type = some (.slice te)) (he : P.underlying te = some (.struct #[m0, m1, m2])) (q0 : m0.offset = 0 ∧ P.cellsOf m0.type = 1) (q1 : m1.offset = 1 ∧ P.cellsOf m1.type = 1) (q2 : m2.offset = 2 ∧ P.cellsOf m2.type = 64) (hCe : P.cellsOf te = 66)
 (v0 : P.underlying m0.type = some .string) (v1 : P.underlying m1.type = some .bool) (v2 : P.underlying m2.type = some (.array 64 eb)) (vb : P.underlying eb = some .bool) (cb : P.cellsOf eb = 1)
 (hb : P.underlying F4.type = some .bool)
 (hv : Value.okWide P w r b0 t v) (h : DataW.Trod enc P w base spare held t v d pp) (hw : (d.weights P t).all (· ≤ reachBytes) = true) :
 ∃ (D : Dk) (g h : Int) (j : Jr) (maps : List Dm) (br : Bool) (p q r : Pl), v = imval0 D g h j maps br p q r ∧ IsIm0 w D g h j maps p q r := by
 obtain ⟨cs, rfl, hsz⟩ := okWide_struct hs hv
 obtain ⟨l⟩ := cs
 match l, hsz.trans hC with
 | [x0, x1, x2, x3, x4, x5, x6, x7, x8, x9, x10], _ =>
  obtain ⟨fuel, hf⟩ := h
  obtain ⟨xs, n, _, hx, _, hlen, hgt⟩ := DataW.trod_struct hs hf
  match xs, hlen with
  | [y0, y1, y2, y3, y4], _ =>
   have t0 : DataW.trod enc P w base spare held n F0.type [x0, x1, x2, x3, x4] = some y0 := by simpa [Value.cells, o0.1, o0.2] using hgt 0 F0 rfl
   have t1 : DataW.trod enc P w base spare held n F1.type [x5, x6] = some y1 := by simpa [Value.cells, o1.1, o1.2] using hgt 1 F1 rfl
   have t2 : DataW.trod enc P w base spare held n F2.type [x7, x8] = some y2 := by simpa [Value.cells, o2.1, o2.2] using hgt 2 F2 rfl
   have t3 : DataW.trod enc P w base spare held n F3.type [x9] = some y3 := by simpa [Value.cells, o3.1, o3.2] using hgt 3 F3 rfl
   have t4 : DataW.trod enc P w base spare held n F4.type [x10] = some y4 := by simpa [Value.cells, o4.1, o4.2] using hgt 4 F4 rfl
   have hx1 : d = .agg [y0.1, y1.1, y2.1, y3.1, y4.1] := by injection hx
   rw [hx1] at hw
   simp only [DataW.weights, hs, List.map_cons, List.map_nil, DataW.weightsEach, List.all_append, Bool.and_eq_true] at hw
   have hw0 := hw.1
   clear hw hx hgt hf
   -- the device
   obtain ⟨zs, m, _, hz, _, hlen', hg'⟩ := DataW.trod_struct hd t0
   obtain ⟨p0, e0⟩ := hone_of hone 0 f0 rfl
   obtain ⟨p1, e1⟩ := hone_of hone 1 f1 rfl
   obtain ⟨p2, e2⟩ := hone_of hone 2 f2 rfl
   obtain ⟨p3, e3⟩ := hone_of hone 3 f3 rfl
   obtain ⟨p4, e4⟩ := hone_of hone 4 f4 rfl
   match zs, hlen' with
   | [z0, z1, z2, z3, z4], _ =>
    have s0 : DataW.trod enc P w base spare held m f0.type [x0] = some z0 := by simpa [p0, e0] using hg' 0 f0 rfl
    have s1 : DataW.trod enc P w base spare held m f1.type [x1] = some z1 := by simpa [p1, e1] using hg' 1 f1 rfl
    have s2 : DataW.trod enc P w base spare held m f2.type [x2] = some z2 := by simpa [p2, e2] using hg' 2 f2 rfl
    have s3 : DataW.trod enc P w base spare held m f3.type [x3] = some z3 := by simpa [p3, e3] using hg' 3 f3 rfl
    have s4 : DataW.trod enc P w base spare held m f4.type [x4] = some z4 := by simpa [p4, e4] using hg' 4 f4 rfl
    have hz1 : y0.1 = .agg [z0.1, z1.1, z2.1, z3.1, z4.1] := by rw [hz]; rfl
    rw [hz1] at hw0
    simp only [DataW.weights, hd, List.map_cons, List.map_nil, DataW.weightsEach, List.all_append, Bool.and_eq_true] at hw0
    obtain ⟨s, hs0, hzs, hws⟩ := DataW.trod_string u0 s0
    obtain ⟨A, c, l, rfl, hc, hn, hl, hml, hxl⟩ := open_puts (fs := #[g0, g1]) u1 k1 hone' hC' rfl g0i g1s s1
    obtain ⟨k, hk, _, hw2⟩ := DataW.trod_int u2 s2
    obtain ⟨b, hbo, _⟩ := DataW.trod_bool u3 s3
    obtain ⟨A', c', l', rfl, hc', hn', hl', hm', hx'⟩ := open_ints u4 k4 hC4 s4
    injection hs0 with hs0
    injection hk with hk
    injection hbo with hbo
    subst hs0; subst hk; subst hbo
    have hsd := hw0.1
    rw [hzs] at hsd
    simp only [DataW.weights, List.all_cons, List.all_nil, Bool.and_true, decide_eq_true_eq] at hsd
    have hbd := slice_weight u4 s4 hw0.2.2.2.2.1
    rw [hB4] at hbd
    obtain ⟨sl, rfl⟩ := bs_of s
    rw [bs_size] at hws
    -- geometry, journal
    obtain ⟨gs, mg, _, _, _, hleng, hgg⟩ := DataW.trod_struct hg t1
    obtain ⟨pg0, eg0⟩ := hone_of hone2 0 a0 rfl
    obtain ⟨pg1, eg1⟩ := hone_of hone2 1 a1 rfl
    obtain ⟨js, mj, _, _, _, hlenj, hgj⟩ := DataW.trod_struct hj t2
    obtain ⟨pj0, ej0⟩ := hone_of hone3 0 j0 rfl
    obtain ⟨pj1, ej1⟩ := hone_of hone3 1 j1 rfl
    match gs, hleng, js, hlenj with
    | [w0, w1], _, [i0, i1], _ =>
     have r0 : DataW.trod enc P w base spare held mg a0.type [x5] = some w0 := by simpa [pg0, eg0] using hgg 0 a0 rfl
     have r1 : DataW.trod enc P w base spare held mg a1.type [x6] = some w1 := by simpa [pg1, eg1] using hgg 1 a1 rfl
     have r2 : DataW.trod enc P w base spare held mj j0.type [x7] = some i0 := by simpa [pj0, ej0] using hgj 0 j0 rfl
     have r3 : DataW.trod enc P w base spare held mj j1.type [x8] = some i1 := by simpa [pj1, ej1] using hgj 1 j1 rfl
     obtain ⟨G, hG, _, wG⟩ := DataW.trod_int a0i r0
     obtain ⟨N, hN, _, wN⟩ := DataW.trod_int a1i r1
     obtain ⟨S, hS, _, wS⟩ := DataW.trod_int j0i r2
     obtain ⟨O, hO, _, wO⟩ := DataW.trod_int j1i r3
     obtain ⟨B, hB, _⟩ := DataW.trod_bool hb t4
     injection hG with hG
     injection hN with hN
     injection hS with hS
     injection hO with hO
     injection hB with hB
     subst hG; subst hN; subst hS; subst hO; subst hB
     have hSb : 0 ≤ S ∧ S < 18446744073709551616 := by simp [Lit.wf, IntKind.min, IntKind.max, IntKind.bits, IntKind.signed] at wS; omega
     obtain ⟨S, rfl⟩ := Int.eq_ofNat_of_zero_le hSb.1
     obtain ⟨maps, rr, rfl, hM⟩ := open_dmaps hm he q0 q1 q2 hCe v0 v1 v2 vb cb t3
     refine ⟨⟨sl, l, k, b, l'⟩, G, N, ⟨S, O⟩, maps, B, ⟨A, c⟩, ⟨A', c'⟩, rr, rfl, ⟨⟨hc, hc', hn, hn', hl, hl', hml, hm', hws, okInt_of hw2, fun x h => (hxl x h).2, fun x h => (hxl x h).1, hx'⟩, hM, ?_, ?_, okInt_of wG, okInt_of wN, by show S < _; omega, okInt_of wO⟩⟩
     · have h9 : (bs sl).size ≤ reachBytes := by simpa using hsd
       have : sl.length ≤ reachBytes := by rwa [bs_size] at h9
       unfold reachBytes at this; show sl.length ≤ _; omega
     · unfold reachBytes at hbd; show l'.length ≤ _; omega
end
end Go.Proofs.YtlapjkbefkmohaaGreat
