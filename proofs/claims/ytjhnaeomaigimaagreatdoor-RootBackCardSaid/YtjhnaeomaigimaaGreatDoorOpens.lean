/- The row's last step where the call has made memory of its own. Arguments opened: slices of numbers, of strings, of bools, and devices and plans by value; and an argument that reads as before. Arguments opened, with the form's own reach: what a slice may weigh. Arguments opened: two numbers by value. Nothing of the program stands here. Arguments opened: a plan, with its size. Nothing of the program stands here. Arguments opened: a struct whose second field is a plan. Nothing of the program stands here. Arguments opened: a journal's place. Nothing of the program stands here. -/
import Derived.Test.YtjhnaeomaigimaaGreatDoorBase
import Derived.ProofKit
import Derived.OpenShut
import Derived.ShutString
import Derived.Test.YtjhnaeomaigimaaGreatDoorMem
import Derived.Deep.Slices
import Derived.Deep.Fields
import Derived.ChangeSame
import Derived.Lib.SmallJoins
import Derived.Carry
import Derived.SizedLaws
import Derived.Test.YtjhnaeomaigimaaGreatDoorPlain1
namespace Go.Proofs.YtjhnaeomaigimaaGreatDoor
open Go.RowKit Go.WideShapes Go.ChangeShapes
section
variable {H : Type} {enc : TypeId × Value → H} {P : Program}
theorem post_of_below {f : Func} {s : ChangeSpec} {apart fresh handsOn again : Bool} {W W' : World} {args : Array Value} {v : Value} {ds gs : List (DataW H)} {before pa pv : List MemPlace}
    (hW : DataW.Whole enc P f.params.toList s.vars apart W args.toList ds gs before)
    (hres : ∀ (b : Nat) (sp : Nat → Bool) (hd : Bool), DataW.TrodAll enc P W' b sp hd f.resultTypes.toList (v.resultList f.resultTypes.size) (s.fn H (ds ++ gs)).results [])
    (hargs : ∀ sp : Nat → Bool, (∀ p ∈ before, sp p.block = true) → DataW.TrodAll enc P W' 0 sp true f.params.toList args.toList (s.fn H (ds ++ gs)).args pa)
    (hvars : ∀ sp : Nat → Bool, (∀ p ∈ before, sp p.block = true) → DataW.TrodVars enc P W' sp s.vars (s.fn H (ds ++ gs)).vars pv)
    (hps : before = pa ++ pv) (hb : Below W.heap.size W W')
    (hok : ∀ (j : Nat) (t : TypeId) (r : Value), f.resultTypes[j]? = some t → (v.resultList f.resultTypes.size)[j]? = some r → Value.okWide P W' .any 0 t r) :
    s.post enc P f apart fresh handsOn again W args v W' := by
  have hlt : ∀ p ∈ before, p.block < W.heap.size := fun p hp => hW.lt p hp
  have hold : ∀ p ∈ before, (fun b => decide (b < W.heap.size)) p.block = true := fun p hp => by simpa using hlt p hp
  refine ⟨ds, gs, before, [], pa, pv, hW, hres _ _ _, hargs _ hold, hvars _ hold, World.keptBut_mono (fun p hp => ⟨hp, ?_⟩) (hb.frame (· ∈ before)), fun _ => ?_⟩
  · rw [hps, List.mem_append] at hp
    exact Or.inr hp
  · obtain ⟨_, _, _, _, _, hz, hn⟩ := hW
    refine ⟨hok, _, _, ([] ++ pa) ++ pv, ⟨[] ++ pa, pv, trodAll_append (hargs _ (fun _ _ => rfl)) (hres _ _ _), hvars _ (fun _ _ => rfl), rfl, ?_, ?_⟩, ?_⟩
    · intro b off hp
      have hin : MemPlace.cell b off ∈ before := by rw [hps]; simpa using hp
      rw [hb.frozen (hlt _ hin)]
      exact hz b off hin
    · intro ha
      have := hn ha
      rw [hps] at this
      simpa using this
    · intro p hp _
      rw [hps]
      simpa using hp
end
end Go.Proofs.YtjhnaeomaigimaaGreatDoor
set_option linter.unusedVariables false
namespace Go.Proofs.YtjhnaeomaigimaaGreatDoor
open Go.RowKit Go.WideShapes Go.ChangeShapes Go.Deep Go.Joins

section
variable {H : Type} {enc : TypeId × Value → H} {P : Program} {w : World} {base : Nat} {spare : Nat → Bool} {held : Bool}
theorem open_slice_fields {t e : TypeId} {fs : Array Field} {fuel : Nat} {cs : List Value} {x : DataW H × List MemPlace} (ht : P.underlying t = some (.slice e)) (he : P.underlying e = some (.struct fs))
    (hone : oneCellFields P fs = true) (hC : P.cellsOf e = fs.size) (h : DataW.trod enc P w base spare held fuel t cs = some x) :
    (cs = [.slice none 0 0] ∧ x = (.nil, [])) ∨
    ∃ (a : Addr) (len cap m : Nat) (D : Nat → DataW H) (Pl : Nat → List MemPlace), cs = [.slice (some a) len cap] ∧ base ≤ a.block ∧ len ≤ cap ∧ cap ≤ maxLen ∧ m = (if spare a.block then cap else len) ∧
      x = (.slice ((List.range len).map D) ((List.range (m - len)).map fun j => D (len + j)), MemPlace.row a (m * fs.size) ++ (List.range m).flatMap Pl) ∧
      ∀ i, i < m → ∃ (ys : List (DataW H × List MemPlace)) (n : Nat), D i = .agg (ys.map (·.1)) ∧ Pl i = ys.flatMap (·.2) ∧ ys.length = fs.size ∧
        ∀ (j : Nat) (f : Field), fs[j]? = some f → ∃ (v : Value) (y : DataW H × List MemPlace), w.cell? (a.add (i * fs.size + j)) = some v ∧ ys[j]? = some y ∧ DataW.trod enc P w base spare held n f.type [v] = some y := by
  rcases open_slice ht h with h0 | ⟨a, len, cap, m, n, D, Pl, hcs, hb, hl, hm, hmm, hx, hi⟩
  · exact .inl h0
  · refine .inr ⟨a, len, cap, m, D, Pl, hcs, hb, hl, hm, hmm, by rw [hC] at hx; exact hx, fun i him => ?_⟩
    obtain ⟨cs', hc, ht'⟩ := hi i him
    rw [hC] at hc
    obtain ⟨ys, n', hn', hy, hlen, hyl, hf⟩ := DataW.trod_struct he ht'
    obtain ⟨_, hcl, hat⟩ := World.cells?_some hc
    simp only [Prod.mk.injEq] at hy
    refine ⟨ys, n', hy.1, hy.2, hyl, fun j f hj => ?_⟩
    obtain ⟨ho, hk⟩ := hone_of hone j f hj
    have hjl : j < fs.size := (Array.getElem?_eq_some_iff.1 hj).1
    have hcell := hat j hjl
    have hv : cs'[j]? = some (cs'[j]'(by omega)) := List.getElem?_eq_getElem (by omega)
    have h1 := hf j f hj
    rw [ho, hk] at h1
    have hone' : (cs'.drop j).take 1 = [cs'[j]'(by omega)] := by
      rw [List.drop_eq_getElem_cons (by omega)]
      rfl
    rw [hone'] at h1
    have hys : ys[j]? = some (ys[j]'(by omega)) := List.getElem?_eq_getElem (by omega)
    refine ⟨_, _, ?_, hys, h1.trans hys⟩
    rw [← Go.Deep.add_add, hcell, hv]
theorem open_agg5 {r : Reach} {b0 : Nat} {t : TypeId} {f0 f1 f2 f3 f4 : Field} {v : Value} {d : DataW H} {p : List MemPlace} (hs : P.underlying t = some (.struct #[f0, f1, f2, f3, f4])) (hone : oneCellFields P #[f0, f1, f2, f3, f4] = true) (hC : P.cellsOf t = 5)
    (hv : Value.okWide P w r b0 t v) (h : DataW.Trod enc P w base spare held t v d p) :
    ∃ (v0 v1 v2 v3 v4 : Value) (y0 y1 y2 y3 y4 : DataW H × List MemPlace) (n : Nat), v = .agg #[v0, v1, v2, v3, v4] ∧ d = .agg [y0.1, y1.1, y2.1, y3.1, y4.1] ∧ p = y0.2 ++ (y1.2 ++ (y2.2 ++ (y3.2 ++ y4.2))) ∧
      DataW.trod enc P w base spare held n f0.type [v0] = some y0 ∧ DataW.trod enc P w base spare held n f1.type [v1] = some y1 ∧ DataW.trod enc P w base spare held n f2.type [v2] = some y2 ∧ DataW.trod enc P w base spare held n f3.type [v3] = some y3 ∧ DataW.trod enc P w base spare held n f4.type [v4] = some y4 := by
  obtain ⟨cs, rfl, hsz⟩ := okWide_struct hs hv
  obtain ⟨l⟩ := cs
  match l, hsz.trans hC with
  | [c0, c1, c2, c3, c4], _ =>
    obtain ⟨fuel, hf⟩ := h
    obtain ⟨xs, n, _, hx, _, hlen, hg⟩ := DataW.trod_struct hs hf
    obtain ⟨o0, k0⟩ := hone_of hone 0 f0 rfl
    obtain ⟨o1, k1⟩ := hone_of hone 1 f1 rfl
    obtain ⟨o2, k2⟩ := hone_of hone 2 f2 rfl
    obtain ⟨o3, k3⟩ := hone_of hone 3 f3 rfl
    obtain ⟨o4, k4⟩ := hone_of hone 4 f4 rfl
    match xs, hlen with
    | [y0, y1, y2, y3, y4], _ =>
      simp only [Prod.mk.injEq] at hx
      exact ⟨c0, c1, c2, c3, c4, y0, y1, y2, y3, y4, n, rfl, by simpa using hx.1, by simpa using hx.2, by simpa [Value.cells, o0, k0] using hg 0 f0 rfl, by simpa [Value.cells, o1, k1] using hg 1 f1 rfl, by simpa [Value.cells, o2, k2] using hg 2 f2 rfl, by simpa [Value.cells, o3, k3] using hg 3 f3 rfl, by simpa [Value.cells, o4, k4] using hg 4 f4 rfl⟩
theorem list_of {α : Type} {R : Nat → α → Prop} : ∀ {n : Nat}, (∀ i, i < n → ∃ x, R i x) → ∃ l : List α, l.length = n ∧ ∀ i (hi : i < l.length), R i l[i]
  | 0, _ => ⟨[], rfl, fun i hi => by cases hi⟩
  | n + 1, h => by
    obtain ⟨l, hl, hR⟩ := list_of (n := n) fun i hi => h i (by omega)
    obtain ⟨x, hx⟩ := h n (by omega)
    refine ⟨l ++ [x], by simp [hl], fun i hi => ?_⟩
    by_cases hin : i < l.length
    · rw [List.getElem_append_left hin]; exact hR i hin
    · have : i = l.length := by simp at hi; omega
      subst this
      rw [List.getElem_append_right (Nat.le_refl _)]
      simp only [Nat.sub_self, List.getElem_cons_zero, hl]
      exact hx
theorem cells_some {a : Addr} {cs : List Value} (h : ∀ j u, cs[j]? = some u → w.cell? (a.add j) = some u) : Cells w (some a) cs := by
  cases cs with
  | nil => exact .inl rfl
  | cons u0 r =>
    have h0 := World.cell?_spot (h 0 u0 rfl)
    obtain ⟨b, off, sp⟩ := a
    have hsp : sp = none := by
      cases sp with
      | none => rfl
      | some s => simp [Addr.add] at h0; try (split at h0 <;> simp_all)
    subst hsp
    exact .inr ⟨b, off, rfl, fun j u hu => by have := h j u hu; rwa [add_at] at this⟩
/-- A slice of one-cell elements, each of which reads as one of the numbers f x. -/
theorem open_list {α : Type} {f : α → Value} {R : α → Prop} {t e : TypeId} {fuel : Nat} {v : Value} {x : DataW H × List MemPlace} (ht : P.underlying t = some (.slice e)) (hc : P.cellsOf e = 1)
    (hf : ∀ {n : Nat} {v : Value} {y : DataW H × List MemPlace}, DataW.trod enc P w base spare held n e [v] = some y → ∃ x, v = f x ∧ R x) (h : DataW.trod enc P w base spare held fuel t [v] = some x) :
    ∃ (A : Option Addr) (c : Nat) (l : List α), v = .slice A l.length c ∧ Cells w A (l.map f) ∧ (A = none → c = 0) ∧ l.length ≤ c ∧ c ≤ maxLen ∧ ∀ x ∈ l, R x := by
  rcases open_slice1 ht hc h with ⟨h0, _⟩ | ⟨a, len, cap, m, n, V, D, Pl, hcs, _, hl, hm, hmm, _, hi⟩
  · injection h0 with h0
    exact ⟨none, 0, [], h0, .inl rfl, fun _ => rfl, Nat.le_refl _, Nat.zero_le _, fun x hx => by cases hx⟩
  · injection hcs with hcs
    have hlm : len ≤ m := by rw [hmm]; split <;> omega
    obtain ⟨l, hl', hR⟩ := list_of (α := α) (n := len) (R := fun i x => w.cell? (a.add i) = some (f x) ∧ R x) fun i h => by
      obtain ⟨hcell, ht'⟩ := hi i (by omega)
      obtain ⟨x, hx, hRx⟩ := hf ht'
      exact ⟨x, by rw [hcell, hx], hRx⟩
    subst hl'
    refine ⟨some a, cap, l, hcs, cells_some fun j u hu => ?_, (by intro h; cases h), hl, hm, fun x hx => ?_⟩
    · rw [List.getElem?_map] at hu
      obtain ⟨y, hy, rfl⟩ := Option.map_eq_some_iff.1 hu
      obtain ⟨hj, rfl⟩ := List.getElem?_eq_some_iff.1 hy
      exact (hR j hj).1
    · obtain ⟨j, hj, rfl⟩ := List.getElem_of_mem hx
      exact (hR j hj).2
abbrev okInt (x : Int) : Prop := -9223372036854775808 ≤ x ∧ x ≤ 9223372036854775807
theorem okInt_of {x : Int} (h : (Lit.int .i64 x).wf = true) : okInt x := by
  have := bounds_i64 h
  exact ⟨by omega, by omega⟩
theorem open_ints {t e : TypeId} {fuel : Nat} {v : Value} {x : DataW H × List MemPlace} (ht : P.underlying t = some (.slice e)) (he : P.underlying e = some (.int .i64)) (hc : P.cellsOf e = 1) (h : DataW.trod enc P w base spare held fuel t [v] = some x) :
    ∃ (A : Option Addr) (c : Nat) (l : List Int), v = .slice A l.length c ∧ Cells w A (intCells l) ∧ (A = none → c = 0) ∧ l.length ≤ c ∧ c ≤ maxLen ∧ ∀ x ∈ l, okInt x :=
  open_list ht hc (fun hy => by
    obtain ⟨n, hn, _, hw⟩ := DataW.trod_int he hy
    injection hn with hn
    exact ⟨n, hn, okInt_of hw⟩) h
theorem open_strs {t e : TypeId} {fuel : Nat} {v : Value} {x : DataW H × List MemPlace} (ht : P.underlying t = some (.slice e)) (he : P.underlying e = some .string) (hc : P.cellsOf e = 1) (h : DataW.trod enc P w base spare held fuel t [v] = some x) :
    ∃ (A : Option Addr) (c : Nat) (l : List (List UInt8)), v = .slice A l.length c ∧ Cells w A (strCells l) ∧ (A = none → c = 0) ∧ l.length ≤ c ∧ c ≤ maxLen ∧ ∀ x ∈ l, x.length ≤ maxLen :=
  open_list ht hc (fun hy => by
    obtain ⟨s, hn, _, hw⟩ := DataW.trod_string he hy
    injection hn with hn
    obtain ⟨l, rfl⟩ := bs_of s
    rw [bs_size] at hw
    exact ⟨l, hn, hw⟩) h
theorem open_bools {t e : TypeId} {fuel : Nat} {v : Value} {x : DataW H × List MemPlace} (ht : P.underlying t = some (.slice e)) (he : P.underlying e = some .bool) (hc : P.cellsOf e = 1) (h : DataW.trod enc P w base spare held fuel t [v] = some x) :
    ∃ (A : Option Addr) (c : Nat) (l : List Bool), v = .slice A l.length c ∧ Cells w A (boolCells l) ∧ (A = none → c = 0) ∧ l.length ≤ c ∧ c ≤ maxLen ∧ ∀ x ∈ l, True :=
  open_list ht hc (fun hy => by
    obtain ⟨b, hn, _⟩ := DataW.trod_bool he hy
    injection hn with hn
    exact ⟨b, hn, trivial⟩) h
theorem putCells_at (l : List (Int × List UInt8)) (j : Nat) (u : Value) (h : (putCells l)[j]? = some u) : ∃ i, ∃ hi : i < l.length, (j = i * 2 ∧ u = .int .i64 l[i].1) ∨ (j = i * 2 + 1 ∧ u = .string (bs l[i].2)) := by
  have hj := (List.getElem?_eq_some_iff.1 h).1
  rw [putCells_length] at hj
  have hi : j / 2 < l.length := by omega
  refine ⟨j / 2, hi, ?_⟩
  obtain ⟨h1, h2⟩ := putCells_get l (j / 2) hi
  rcases Nat.mod_two_eq_zero_or_one j with h0 | h0
  · left
    have e : j = j / 2 * 2 := by omega
    rw [← e, h] at h1
    exact ⟨e, Option.some.inj h1⟩
  · right
    have e : j = j / 2 * 2 + 1 := by omega
    rw [← e, h] at h2
    exact ⟨e, Option.some.inj h2⟩
theorem open_puts {t e : TypeId} {fuel : Nat} {v : Value} {x : DataW H × List MemPlace} {fs : Array Field} (ht : P.underlying t = some (.slice e)) (he : P.underlying e = some (.struct fs))
    (hone : oneCellFields P fs = true) (hC : P.cellsOf e = 2) {f0 f1 : Field} (hfs : fs = #[f0, f1]) (h0 : P.underlying f0.type = some (.int .i64)) (h1 : P.underlying f1.type = some .string) (h : DataW.trod enc P w base spare held fuel t [v] = some x) :
    ∃ (A : Option Addr) (c : Nat) (l : List (Int × List UInt8)), v = .slice A l.length c ∧ Cells w A (putCells l) ∧ (A = none → c = 0) ∧ l.length ≤ c ∧ c ≤ maxLen ∧ ∀ x ∈ l, okInt x.1 ∧ x.2.length ≤ maxLen := by
  subst hfs
  rcases open_slice_fields ht he hone hC h with ⟨h0, _⟩ | ⟨a, len, cap, m, D, Pl, hcs, _, hl, hm, hmm, _, hi⟩
  · injection h0 with h0
    exact ⟨none, 0, [], h0, .inl rfl, fun _ => rfl, Nat.le_refl _, Nat.zero_le _, fun x hx => by cases hx⟩
  · injection hcs with hcs
    have hlm : len ≤ m := by rw [hmm]; split <;> omega
    obtain ⟨l, hl', hR⟩ := list_of (α := Int × List UInt8) (n := len) (R := fun i x => w.cell? (a.add (i * 2)) = some (.int .i64 x.1) ∧ w.cell? (a.add (i * 2 + 1)) = some (.string (bs x.2)) ∧ okInt x.1 ∧ x.2.length ≤ maxLen) fun i h => by
      obtain ⟨ys, n, _, _, _, hf⟩ := hi i (by omega)
      obtain ⟨v0, y0, c0, _, t0⟩ := hf 0 f0 rfl
      obtain ⟨v1, y1, c1, _, t1⟩ := hf 1 f1 rfl
      obtain ⟨k, hk, _, hw⟩ := DataW.trod_int h0 t0
      obtain ⟨s, hs, _, hw'⟩ := DataW.trod_string h1 t1
      injection hk with hk
      injection hs with hs
      obtain ⟨sl, rfl⟩ := bs_of s
      rw [bs_size] at hw'
      subst hk; subst hs
      exact ⟨(k, sl), c0, c1, okInt_of hw, hw'⟩
    subst hl'
    refine ⟨some a, cap, l, hcs, cells_some fun j u hu => ?_, (by intro h; cases h), hl, hm, fun x hx => ?_⟩
    · obtain ⟨i, hi, ⟨rfl, rfl⟩ | ⟨rfl, rfl⟩⟩ := putCells_at l j u hu
      · exact (hR i hi).1
      · exact (hR i hi).2.1
    · obtain ⟨j, hj, rfl⟩ := List.getElem_of_mem hx
      exact (hR j hj).2.2
/-- The device's value stands in memory, as large as it may be. -/
structure IsDk0 (w : World) (D : Dk) (p q : Pl) : Prop where
  cache : Cells w p.a (putCells D.cache)
  bad : Cells w q.a (intCells D.bad)
  pn : p.a = none → p.c = 0
  qn : q.a = none → q.c = 0
  pc : D.cache.length ≤ p.c
  qc : D.bad.length ≤ q.c
  pm : p.c ≤ maxLen
  qm : q.c ≤ maxLen
  data : D.data.length ≤ maxLen
  fuse : okInt D.fuse
  strs : ∀ x ∈ D.cache, x.2.length ≤ maxLen
  ats : ∀ x ∈ D.cache, okInt x.1
  bads : ∀ x ∈ D.bad, okInt x
theorem IsDk0.below {w w' : World} {D : Dk} {p q : Pl} (h : IsDk0 w D p q) (hb : Below w.heap.size w w') : IsDk0 w' D p q :=
  { h with cache := h.cache.below hb, bad := h.bad.below hb }
theorem IsDk0.full {w : World} {D : Dk} {p q : Pl} (h : IsDk0 w D p q) (h1 : D.cache.length ≤ 1099511627776) (h2 : D.bad.length ≤ 17592186044416) (h3 : D.data.length ≤ 140737488355328) : IsDk w D p q :=
  { h with cl := h1, bl := h2, data := h3 }
theorem open_dk {t tp ti : TypeId} {f0 f1 f2 f3 f4 g0 g1 : Field} {v : Value} {d : DataW H} {pp : List MemPlace} {r : Reach} {b0 : Nat}
    (hs : P.underlying t = some (.struct #[f0, f1, f2, f3, f4])) (hone : oneCellFields P #[f0, f1, f2, f3, f4] = true) (hC : P.cellsOf t = 5)
    (u0 : P.underlying f0.type = some .string) (u1 : P.underlying f1.type = some (.slice tp)) (u2 : P.underlying f2.type = some (.int .i64)) (u3 : P.underlying f3.type = some .bool) (u4 : P.underlying f4.type = some (.slice ti))
    (k1 : P.underlying tp = some (.struct #[g0, g1])) (hone' : oneCellFields P #[g0, g1] = true) (hC' : P.cellsOf tp = 2) (g0i : P.underlying g0.type = some (.int .i64)) (g1s : P.underlying g1.type = some .string)
    (k4 : P.underlying ti = some (.int .i64)) (hC4 : P.cellsOf ti = 1)
    (hv : Value.okWide P w r b0 t v) (h : DataW.Trod enc P w base spare held t v d pp) : ∃ D p q, v = dval D p q ∧ IsDk0 w D p q := by
  obtain ⟨v0, v1, v2, v3, v4, y0, y1, y2, y3, y4, n, rfl, _, _, t0, t1, t2, t3, t4⟩ := open_agg5 hs hone hC hv h
  obtain ⟨s, hs0, _, hw0⟩ := DataW.trod_string u0 t0
  obtain ⟨A, c, l, rfl, hc, hn, hl, hm, hx⟩ := open_puts (fs := #[g0, g1]) u1 k1 hone' hC' rfl g0i g1s t1
  obtain ⟨k, hk, _, hw2⟩ := DataW.trod_int u2 t2
  obtain ⟨b, hb, _⟩ := DataW.trod_bool u3 t3
  obtain ⟨A', c', l', rfl, hc', hn', hl', hm', hx'⟩ := open_ints u4 k4 hC4 t4
  injection hs0 with hs0
  injection hk with hk
  injection hb with hb
  subst hs0; subst hk; subst hb
  obtain ⟨sl, rfl⟩ := bs_of s
  rw [bs_size] at hw0
  exact ⟨⟨sl, l, k, b, l'⟩, ⟨A, c⟩, ⟨A', c'⟩, rfl, hc, hc', hn, hn', hl, hl', hm, hm', hw0, okInt_of hw2, fun x h => (hx x h).2, fun x h => (hx x h).1, hx'⟩
/-- All arguments read as before. -/
theorem trodAll_stays (hl : laidOutB P = true) {W W' : World} {sp : Nat → Bool} (hb : Below W.heap.size W W') : ∀ {ts : List TypeId} {vs : List Value} {ds : List (DataW H)} {ps : List MemPlace}, ts.all (fun t => P.readableRec t && decide (t < P.types.size)) = true →
    DataW.TrodAll enc P W 0 (fun _ => true) true ts vs ds ps → (∀ x ∈ ps, x.block < W.heap.size) → (∀ x ∈ ps, sp x.block = true) → DataW.TrodAll enc P W' 0 sp true ts vs ds ps
  | [], [], [], _, _, h, _, _ => h
  | t :: ts, _ :: _, _ :: _, _, ht, ⟨p, q, h1, h2, e⟩, hlt, hs => by
    subst e
    simp only [List.all_cons, Bool.and_eq_true, decide_eq_true_eq] at ht
    exact ⟨p, q, WideElems.Trod_stays hl ht.1.1 ht.1.2 h1 (fun x hx => hb.same (hlt x (List.mem_append_left _ hx))) (fun x hx => hs x (List.mem_append_left _ hx)),
      trodAll_stays hl hb ht.2 h2 (fun x hx => hlt x (List.mem_append_right _ hx)) (fun x hx => hs x (List.mem_append_right _ hx)), rfl⟩
end
end Go.Proofs.YtjhnaeomaigimaaGreatDoor
set_option linter.unusedVariables false
namespace Go.Proofs.YtjhnaeomaigimaaGreatDoor
open Go.RowKit Go.WideShapes Go.ChangeShapes Go.Deep Go.Joins

section
variable {H : Type} {enc : TypeId × Value → H} {P : Program} {w : World} {base : Nat} {spare : Nat → Bool} {held : Bool}
theorem slice_weight {t e : TypeId} {fuel : Nat} {A : Option Addr} {n c : Nat} {x : DataW H × List MemPlace} (ht : P.underlying t = some (.slice e)) (h : DataW.trod enc P w base spare held fuel t [.slice A n c] = some x)
    (hw : (x.1.weights P t).all (· ≤ reachBytes) = true) : n * P.bytesOf e ≤ reachBytes := by
  rcases open_slice ht h with ⟨h0, _⟩ | ⟨a, len, cap, m, k, D, Pl, hcs, _, hl, hm, hmm, hx, _⟩
  · simp only [List.cons.injEq, Value.slice.injEq, and_true] at h0
    rw [h0.2.1]; simp
  · simp only [List.cons.injEq, Value.slice.injEq, and_true] at hcs
    rw [hx] at hw
    simp only [DataW.weights, ht, List.all_cons, Bool.and_eq_true, decide_eq_true_eq, List.length_map, List.length_range] at hw
    rw [hcs.2.1]
    exact Nat.le_trans (Nat.mul_le_mul_right _ (Nat.le_add_right _ _)) hw.1
theorem open_dk_sized {t tp ti : TypeId} {f0 f1 f2 f3 f4 g0 g1 : Field} {v : Value} {d : DataW H} {pp : List MemPlace} {r : Reach} {b0 : Nat}
    (hs : P.underlying t = some (.struct #[f0, f1, f2, f3, f4])) (hone : oneCellFields P #[f0, f1, f2, f3, f4] = true) (hC : P.cellsOf t = 5)
    (u0 : P.underlying f0.type = some .string) (u1 : P.underlying f1.type = some (.slice tp)) (u2 : P.underlying f2.type = some (.int .i64)) (u3 : P.underlying f3.type = some .bool) (u4 : P.underlying f4.type = some (.slice ti))
    (k1 : P.underlying tp = some (.struct #[g0, g1])) (hone' : oneCellFields P #[g0, g1] = true) (hC' : P.cellsOf tp = 2) (g0i : P.underlying g0.type = some (.int .i64)) (g1s : P.underlying g1.type = some .string)
    (k4 : P.underlying ti = some (.int .i64)) (hC4 : P.cellsOf ti = 1)
    (hv : Value.okWide P w r b0 t v) (h : DataW.Trod enc P w base spare held t v d pp) (hw : (d.weights P t).all (· ≤ reachBytes) = true) :
    ∃ D p q, v = dval D p q ∧ IsDk0 w D p q ∧ D.cache.length * P.bytesOf tp ≤ reachBytes ∧ D.bad.length * P.bytesOf ti ≤ reachBytes := by
  obtain ⟨v0, v1, v2, v3, v4, y0, y1, y2, y3, y4, n, rfl, hd, _, t0, t1, t2, t3, t4⟩ := open_agg5 hs hone hC hv h
  obtain ⟨s, hs0, _, hw0⟩ := DataW.trod_string u0 t0
  obtain ⟨A, c, l, rfl, hc, hn, hl, hm, hx⟩ := open_puts (fs := #[g0, g1]) u1 k1 hone' hC' rfl g0i g1s t1
  obtain ⟨k, hk, _, hw2⟩ := DataW.trod_int u2 t2
  obtain ⟨b, hb, _⟩ := DataW.trod_bool u3 t3
  obtain ⟨A', c', l', rfl, hc', hn', hl', hm', hx'⟩ := open_ints u4 k4 hC4 t4
  injection hs0 with hs0
  injection hk with hk
  injection hb with hb
  subst hs0; subst hk; subst hb
  obtain ⟨sl, rfl⟩ := bs_of s
  rw [bs_size] at hw0
  rw [hd] at hw
  simp only [DataW.weights, hs, List.map_cons, List.map_nil, DataW.weightsEach, List.all_append, Bool.and_eq_true] at hw
  refine ⟨⟨sl, l, k, b, l'⟩, ⟨A, c⟩, ⟨A', c'⟩, rfl, ⟨hc, hc', hn, hn', hl, hl', hm, hm', hw0, okInt_of hw2, fun x h => (hx x h).2, fun x h => (hx x h).1, hx'⟩, slice_weight u1 t1 hw.2.1, slice_weight u4 t4 hw.2.2.2.2.1⟩
theorem weights_each {ts : List TypeId} {ds : List (DataW H)} {j : Nat} {t : TypeId} {d : DataW H} (h : (DataW.weightsEach P ts ds).all (· ≤ reachBytes) = true) (ht : ts[j]? = some t) (hd : ds[j]? = some d) : (d.weights P t).all (· ≤ reachBytes) = true :=
  List.all_eq_true.2 fun n hn => List.all_eq_true.1 h n (DataW.weights_mem_each ht hd n hn)
end
end Go.Proofs.YtjhnaeomaigimaaGreatDoor
set_option linter.unusedVariables false
namespace Go.Proofs.YtjhnaeomaigimaaGreatDoor
open Go.RowKit Go.Shelf Go.WideShapes Go.ChangeShapes Go.Deep Go.Joins
section
variable {H : Type} {enc : TypeId × Value → H} {P : Program} {w : World} {base : Nat} {spare : Nat → Bool} {held : Bool}
theorem open_pair {t : TypeId} {f0 f1 : Field} {v : Value} {d : DataW H} {pp : List MemPlace} {r : Reach} {b0 : Nat}
    (hs : P.underlying t = some (.struct #[f0, f1])) (hone : oneCellFields P #[f0, f1] = true) (hC : P.cellsOf t = 2)
    (u0 : P.underlying f0.type = some (.int .i64)) (u1 : P.underlying f1.type = some (.int .i64))
    (hv : Value.okWide P w r b0 t v) (h : DataW.Trod enc P w base spare held t v d pp) : ∃ a b, v = .agg #[.int .i64 a, .int .i64 b] ∧ okInt a ∧ okInt b := by
  obtain ⟨v0, v1, y0, y1, n, rfl, _, _, t0, t1⟩ := open_agg2 hs hone hC hv h
  obtain ⟨a, ha, _, hwa⟩ := DataW.trod_int u0 t0
  obtain ⟨b, hb, _, hwb⟩ := DataW.trod_int u1 t1
  injection ha with ha
  injection hb with hb
  subst ha; subst hb
  exact ⟨_, _, rfl, okInt_of hwa, okInt_of hwb⟩
end
end Go.Proofs.YtjhnaeomaigimaaGreatDoor
set_option linter.unusedVariables false
namespace Go.Proofs.YtjhnaeomaigimaaGreatDoor
open Go.RowKit Go.Shelf Go.WideShapes Go.ChangeShapes Go.Deep Go.Joins
section
variable {H : Type} {enc : TypeId × Value → H} {P : Program} {w : World} {base : Nat} {spare : Nat → Bool} {held : Bool}
theorem open_plan_sized {t ei es : TypeId} {f0 f1 : Field} {v : Value} {d : DataW H} {pp : List MemPlace} {r : Reach} {b0 : Nat}
    (hs : P.underlying t = some (.struct #[f0, f1])) (hone : oneCellFields P #[f0, f1] = true) (hC : P.cellsOf t = 2)
    (u0 : P.underlying f0.type = some (.slice ei)) (u1 : P.underlying f1.type = some (.slice es)) (k0 : P.underlying ei = some (.int .i64)) (c0 : P.cellsOf ei = 1) (k1 : P.underlying es = some .string) (c1 : P.cellsOf es = 1)
    (hv : Value.okWide P w r b0 t v) (h : DataW.Trod enc P w base spare held t v d pp) (hw : (d.weights P t).all (· ≤ reachBytes) = true) :
    ∃ L p q, v = pval L p q ∧ IsPn w L p q ∧ L.targets.length * P.bytesOf ei ≤ reachBytes ∧ L.data.length * P.bytesOf es ≤ reachBytes := by
  obtain ⟨v0, v1, y0, y1, n, rfl, hd, _, t0, t1⟩ := open_agg2 hs hone hC hv h
  obtain ⟨A, c, l, rfl, hc, hn, hl, hm, hx⟩ := open_ints u0 k0 c0 t0
  obtain ⟨A', c', l', rfl, hc', hn', hl', hm', hx'⟩ := open_strs u1 k1 c1 t1
  rw [hd] at hw
  simp only [DataW.weights, hs, List.map_cons, List.map_nil, DataW.weightsEach, List.all_append, Bool.and_eq_true] at hw
  exact ⟨⟨l, l'⟩, ⟨A, c⟩, ⟨A', c'⟩, rfl, ⟨hc, hc', hn, hn', hl, hl', hm, hm', hx, hx'⟩, slice_weight u0 t0 hw.1, slice_weight u1 t1 hw.2.1⟩
end
end Go.Proofs.YtjhnaeomaigimaaGreatDoor
set_option linter.unusedVariables false
namespace Go.Proofs.YtjhnaeomaigimaaGreatDoor
open Go.RowKit Go.Shelf Go.WideShapes Go.ChangeShapes Go.Deep Go.Joins
section
variable {H : Type} {enc : TypeId × Value → H} {P : Program} {w : World} {base : Nat} {spare : Nat → Bool} {held : Bool}
theorem open_txn {t ei es : TypeId} {f0 f1 g0 g1 : Field} {v : Value} {d : DataW H} {pp : List MemPlace} {r : Reach} {b0 : Nat}
    (hs : P.underlying t = some (.struct #[f0, f1])) (ho0 : f0.offset = 0 ∧ P.cellsOf f0.type = 1) (ho1 : f1.offset = 1 ∧ P.cellsOf f1.type = 2) (hC : P.cellsOf t = 3) (hk : P.underlying f0.type = some (.int .u64))
    (hs' : P.underlying f1.type = some (.struct #[g0, g1])) (hone : oneCellFields P #[g0, g1] = true)
    (u0 : P.underlying g0.type = some (.slice ei)) (u1 : P.underlying g1.type = some (.slice es)) (k0 : P.underlying ei = some (.int .i64)) (c0 : P.cellsOf ei = 1) (k1 : P.underlying es = some .string) (c1 : P.cellsOf es = 1)
    (hv : Value.okWide P w r b0 t v) (h : DataW.Trod enc P w base spare held t v d pp) :
    ∃ (s : Nat) (L : Pn) (p q : Pl), v = .agg #[.int .u64 s, .slice p.a L.targets.length p.c, .slice q.a L.data.length q.c] ∧ s < 18446744073709551616 ∧ IsPn w L p q := by
  obtain ⟨cs, rfl, hsz⟩ := okWide_struct hs hv
  obtain ⟨l⟩ := cs
  match l, hsz.trans hC with
  | [x0, x1, x2], _ =>
    obtain ⟨fuel, hf⟩ := h
    obtain ⟨xs, n, _, hx, _, hlen, hg⟩ := DataW.trod_struct hs hf
    match xs, hlen with
    | [y0, y1], _ =>
      have t0 : DataW.trod enc P w base spare held n f0.type [x0] = some y0 := by simpa [Value.cells, ho0.1, ho0.2] using hg 0 f0 rfl
      have t1 : DataW.trod enc P w base spare held n f1.type [x1, x2] = some y1 := by simpa [Value.cells, ho1.1, ho1.2] using hg 1 f1 rfl
      obtain ⟨s, hs0, _, hw⟩ := DataW.trod_int hk t0
      injection hs0 with hs0
      subst hs0
      have hb : 0 ≤ s ∧ s < 18446744073709551616 := by simp [Lit.wf, IntKind.min, IntKind.max, IntKind.bits, IntKind.signed] at hw; omega
      obtain ⟨s, rfl⟩ := Int.eq_ofNat_of_zero_le hb.1
      obtain ⟨zs, m, _, hz, _, hlen', hg'⟩ := DataW.trod_struct hs' t1
      obtain ⟨o0, e0⟩ := hone_of hone 0 g0 rfl
      obtain ⟨o1, e1⟩ := hone_of hone 1 g1 rfl
      match zs, hlen' with
      | [z0, z1], _ =>
        have s0 : DataW.trod enc P w base spare held m g0.type [x1] = some z0 := by simpa [o0, e0] using hg' 0 g0 rfl
        have s1 : DataW.trod enc P w base spare held m g1.type [x2] = some z1 := by simpa [o1, e1] using hg' 1 g1 rfl
        obtain ⟨A, c, l, rfl, hc, hn, hl, hm, hx⟩ := open_ints u0 k0 c0 s0
        obtain ⟨A', c', l', rfl, hc', hn', hl', hm', hx'⟩ := open_strs u1 k1 c1 s1
        exact ⟨s, ⟨l, l'⟩, ⟨A, c⟩, ⟨A', c'⟩, rfl, by omega, ⟨hc, hc', hn, hn', hl, hl', hm, hm', hx, hx'⟩⟩
theorem weights_all {e : TypeId} : ∀ {l : List (DataW H)} {d : DataW H}, d ∈ l → ∀ n ∈ d.weights P e, n ∈ DataW.weightsAll P e l
  | [], _, h, _, _ => by cases h
  | x :: l, d, h, n, hn => by
    simp only [DataW.weightsAll, List.mem_append]
    rcases List.mem_cons.1 h with rfl | h
    · exact .inl hn
    · exact .inr (weights_all h n hn)
/-- Strings, no one larger than what a process holds. -/
theorem open_strs_sized {t e : TypeId} {fuel : Nat} {v : Value} {x : DataW H × List MemPlace} (ht : P.underlying t = some (.slice e)) (he : P.underlying e = some .string) (hc : P.cellsOf e = 1) (h : DataW.trod enc P w base spare held fuel t [v] = some x) (hw : (x.1.weights P t).all (· ≤ reachBytes) = true) :
    ∃ (A : Option Addr) (c : Nat) (l : List (List UInt8)), v = .slice A l.length c ∧ (Cells w A (strCells l) ∧ (A = none → c = 0) ∧ l.length ≤ c ∧ c ≤ maxLen ∧ ∀ x ∈ l, x.length ≤ reachBytes) ∧ l.length * P.bytesOf e ≤ reachBytes := by
  rcases open_slice1 ht hc h with ⟨h0, _⟩ | ⟨a, len, cap, m, n, V, D, Pl, hcs, _, hl, hm, hmm, hx, hi⟩
  · injection h0 with h0
    exact ⟨none, 0, [], h0, ⟨.inl rfl, fun _ => rfl, Nat.le_refl _, Nat.zero_le _, fun x hx => by cases hx⟩, by simp⟩
  · injection hcs with hcs
    have hlm : len ≤ m := by rw [hmm]; split <;> omega
    rw [hx] at hw
    simp only [DataW.weights, ht, List.all_cons, List.all_append, Bool.and_eq_true, decide_eq_true_eq, List.length_map, List.length_range] at hw
    obtain ⟨hw1, hw2, _⟩ := hw
    obtain ⟨l, hl', hR⟩ := list_of (α := List UInt8) (n := len) (R := fun i x => w.cell? (a.add i) = some (.string (bs x)) ∧ x.length ≤ reachBytes) fun i h => by
      obtain ⟨hcell, ht'⟩ := hi i (by omega)
      obtain ⟨s, hs, hd, _⟩ := DataW.trod_string he ht'
      injection hs with hs
      obtain ⟨y, rfl⟩ := bs_of s
      refine ⟨y, by rw [hcell, hs], ?_⟩
      have hd' : D i = .lit (.string (bs y).data.toList) := congrArg Prod.fst hd
      have := List.all_eq_true.1 hw2 _ (weights_all (List.mem_map.2 ⟨i, List.mem_range.2 h, rfl⟩) y.length (by rw [hd']; simp [DataW.weights, bs]))
      simpa using this
    subst hl'
    refine ⟨some a, cap, l, hcs, ⟨cells_some fun j u hu => ?_, (by intro h; cases h), hl, hm, fun x hx => ?_⟩, Nat.le_trans (Nat.mul_le_mul_right _ (Nat.le_add_right _ _)) hw1⟩
    · unfold strCells at hu
      rw [List.getElem?_map] at hu
      obtain ⟨y, hy, rfl⟩ := Option.map_eq_some_iff.1 hu
      obtain ⟨hj, rfl⟩ := List.getElem?_eq_some_iff.1 hy
      exact (hR j hj).1
    · obtain ⟨j, hj, rfl⟩ := List.getElem_of_mem hx
      exact (hR j hj).2
end
end Go.Proofs.YtjhnaeomaigimaaGreatDoor
set_option linter.unusedVariables false
namespace Go.Proofs.YtjhnaeomaigimaaGreatDoor
open Go.RowKit Go.Shelf Go.WideShapes Go.ChangeShapes Go.Deep Go.Joins
section
variable {H : Type} {enc : TypeId × Value → H} {P : Program} {w : World} {base : Nat} {spare : Nat → Bool} {held : Bool}
theorem open_jour {t : TypeId} {f0 f1 : Field} {v : Value} {d : DataW H} {pp : List MemPlace} {r : Reach} {b0 : Nat}
    (hs : P.underlying t = some (.struct #[f0, f1])) (hone : oneCellFields P #[f0, f1] = true) (hC : P.cellsOf t = 2)
    (u0 : P.underlying f0.type = some (.int .u64)) (u1 : P.underlying f1.type = some (.int .i64))
    (hv : Value.okWide P w r b0 t v) (h : DataW.Trod enc P w base spare held t v d pp) : ∃ (s : Nat) (b : Int), v = .agg #[.int .u64 s, .int .i64 b] ∧ s < 18446744073709551616 ∧ okInt b := by
  obtain ⟨v0, v1, y0, y1, n, rfl, _, _, t0, t1⟩ := open_agg2 hs hone hC hv h
  obtain ⟨a, ha, _, hwa⟩ := DataW.trod_int u0 t0
  obtain ⟨b, hb, _, hwb⟩ := DataW.trod_int u1 t1
  injection ha with ha
  injection hb with hb
  subst ha; subst hb
  have hb : 0 ≤ a ∧ a < 18446744073709551616 := by simp [Lit.wf, IntKind.min, IntKind.max, IntKind.bits, IntKind.signed] at hwa; omega
  obtain ⟨s, rfl⟩ := Int.eq_ofNat_of_zero_le hb.1
  exact ⟨s, b, rfl, by omega, okInt_of hwb⟩
end
end Go.Proofs.YtjhnaeomaigimaaGreatDoor
