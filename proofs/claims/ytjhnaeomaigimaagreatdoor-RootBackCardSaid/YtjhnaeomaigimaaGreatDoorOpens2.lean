/- Arguments that are roots, snapshots and dirty bitmaps, opened. -/
import Derived.Test.YtjhnaeomaigimaaGreatDoorOpens
import Derived.Test.YtjhnaeomaigimaaGreatDoorRootPlain
import Derived.OpenShut
set_option linter.unusedVariables false
namespace Go.Proofs.YtjhnaeomaigimaaGreatDoor
open Go.RowKit Go.Shelf Go.WideShapes Go.ChangeShapes Go.Deep Go.Joins
section
variable {H : Type} {enc : TypeId × Value → H} {P : Program} {w : World} {base : Nat} {spare : Nat → Bool} {held : Bool}
theorem open_root {t : TypeId} {f0 f1 : Field} {v : Value} {d : DataW H} {pp : List MemPlace} {r : Reach} {b0 : Nat}
    (hs : P.underlying t = some (.struct #[f0, f1])) (hone : oneCellFields P #[f0, f1] = true) (hC : P.cellsOf t = 2)
    (u0 : P.underlying f0.type = some (.int .i64)) (u1 : P.underlying f1.type = some (.int .u32))
    (hv : Value.okWide P w r b0 t v) (h : DataW.Trod enc P w base spare held t v d pp) : ∃ (l : Int) (n : Nat), v = .agg #[.int .i64 l, .int .u32 n] ∧ okInt l ∧ n < 4294967296 := by
  obtain ⟨v0, v1, y0, y1, n, rfl, _, _, t0, t1⟩ := open_agg2 hs hone hC hv h
  obtain ⟨a, ha, _, hwa⟩ := DataW.trod_int u0 t0
  obtain ⟨b, hb, _, hwb⟩ := DataW.trod_int u1 t1
  injection ha with ha
  injection hb with hb
  subst ha; subst hb
  have hb : 0 ≤ b ∧ b < 4294967296 := by simp [Lit.wf, IntKind.min, IntKind.max, IntKind.bits, IntKind.signed] at hwb; omega
  obtain ⟨s, rfl⟩ := Int.eq_ofNat_of_zero_le hb.1
  exact ⟨a, s, rfl, okInt_of hwa, by omega⟩
/-- A snapshot as a value. -/
abbrev snval (s : Sn) : Value := .agg #[.int .u32 s.id, .int .i64 s.l1, .string (bs s.name)]
theorem open_snap {t : TypeId} {f0 f1 f2 : Field} {v : Value} {d : DataW H} {pp : List MemPlace} {r : Reach} {b0 : Nat}
    (hs : P.underlying t = some (.struct #[f0, f1, f2])) (ho0 : f0.offset = 0 ∧ P.cellsOf f0.type = 1) (ho1 : f1.offset = 1 ∧ P.cellsOf f1.type = 1) (ho2 : f2.offset = 2 ∧ P.cellsOf f2.type = 1) (hC : P.cellsOf t = 3)
    (u0 : P.underlying f0.type = some (.int .u32)) (u1 : P.underlying f1.type = some (.int .i64)) (u2 : P.underlying f2.type = some .string)
    (hv : Value.okWide P w r b0 t v) (h : DataW.Trod enc P w base spare held t v d pp) : ∃ s : Sn, v = snval s ∧ s.id < 4294967296 ∧ okInt s.l1 ∧ s.name.length ≤ maxLen := by
  obtain ⟨cs, rfl, hsz⟩ := okWide_struct hs hv
  obtain ⟨l⟩ := cs
  match l, hsz.trans hC with
  | [x0, x1, x2], _ =>
    obtain ⟨fuel, hf⟩ := h
    obtain ⟨xs, n, _, hx, _, hlen, hg⟩ := DataW.trod_struct hs hf
    match xs, hlen with
    | [y0, y1, y2], _ =>
      have t0 : DataW.trod enc P w base spare held n f0.type [x0] = some y0 := by simpa [Value.cells, ho0.1, ho0.2] using hg 0 f0 rfl
      have t1 : DataW.trod enc P w base spare held n f1.type [x1] = some y1 := by simpa [Value.cells, ho1.1, ho1.2] using hg 1 f1 rfl
      have t2 : DataW.trod enc P w base spare held n f2.type [x2] = some y2 := by simpa [Value.cells, ho2.1, ho2.2] using hg 2 f2 rfl
      obtain ⟨a, ha, _, hwa⟩ := DataW.trod_int u0 t0
      obtain ⟨b, hb, _, hwb⟩ := DataW.trod_int u1 t1
      obtain ⟨s, hs0, _, hws⟩ := DataW.trod_string u2 t2
      injection ha with ha
      injection hb with hb
      injection hs0 with hs0
      subst ha hb hs0
      have hb : 0 ≤ a ∧ a < 4294967296 := by simp [Lit.wf, IntKind.min, IntKind.max, IntKind.bits, IntKind.signed] at hwa; omega
      obtain ⟨a, rfl⟩ := Int.eq_ofNat_of_zero_le hb.1
      obtain ⟨l, rfl⟩ := bs_of s
      exact ⟨⟨a, b, l⟩, rfl, by show a < _; omega, okInt_of hwb, by rw [bs_size] at hws; exact hws⟩
/-- A dirty bitmap's cells. -/
def dmCells (m : Dm) : List Value := .string (bs m.name) :: .bool m.use :: m.bits.map .bool
abbrev dmval (m : Dm) : Value := .agg (dmCells m).toArray
theorem dmCells_length {m : Dm} (h : m.bits.length = 64) : (dmCells m).length = 66 := by simp [dmCells, h]
theorem open_dmap {t e : TypeId} {f0 f1 f2 : Field} {v : Value} {d : DataW H} {pp : List MemPlace} {r : Reach} {b0 : Nat}
    (hs : P.underlying t = some (.struct #[f0, f1, f2])) (ho0 : f0.offset = 0 ∧ P.cellsOf f0.type = 1) (ho1 : f1.offset = 1 ∧ P.cellsOf f1.type = 1) (ho2 : f2.offset = 2 ∧ P.cellsOf f2.type = 64) (hC : P.cellsOf t = 66)
    (u0 : P.underlying f0.type = some .string) (u1 : P.underlying f1.type = some .bool) (u2 : P.underlying f2.type = some (.array 64 e)) (ue : P.underlying e = some .bool) (ce : P.cellsOf e = 1)
    (hv : Value.okWide P w r b0 t v) (h : DataW.Trod enc P w base spare held t v d pp) : ∃ m : Dm, v = dmval m ∧ m.name.length ≤ maxLen ∧ m.bits.length = 64 := by
  obtain ⟨cs, rfl, hsz⟩ := okWide_struct hs hv
  obtain ⟨l⟩ := cs
  have hsz : l.length = 66 := hsz.trans hC
  match l, hsz with
  | x0 :: x1 :: r, hr =>
    have hr64 : r.length = 64 := by simpa using hr
    clear hr
    obtain ⟨fuel, hf⟩ := h
    obtain ⟨xs, n, _, hx, _, hlen, hg⟩ := DataW.trod_struct hs hf
    match xs, hlen with
    | [y0, y1, y2], _ =>
      have t0 : DataW.trod enc P w base spare held n f0.type [x0] = some y0 := by simpa [Value.cells, ho0.1, ho0.2] using hg 0 f0 rfl
      have t1 : DataW.trod enc P w base spare held n f1.type [x1] = some y1 := by simpa [Value.cells, ho1.1, ho1.2] using hg 1 f1 rfl
      have t2 : DataW.trod enc P w base spare held n f2.type r = some y2 := by
        have := hg 2 f2 rfl
        simp only [Value.cells, ho2.1, ho2.2] at this
        rw [show ((x0 :: x1 :: r).drop 2).take 64 = r by rw [show (x0 :: x1 :: r).drop 2 = r from rfl, List.take_of_length_le (by omega)]] at this
        simpa using this
      obtain ⟨s, hs0, _, hws⟩ := DataW.trod_string u0 t0
      obtain ⟨b, hb, _⟩ := DataW.trod_bool u1 t1
      injection hs0 with hs0
      injection hb with hb
      subst hs0 hb
      obtain ⟨zs, m, _, _, _, hzl, hel⟩ := DataW.trod_array u2 t2
      have hbits : ∀ i, i < 64 → ∃ b : Bool, r[i]? = some (.bool b) := fun i hi => by
        have := hel i hi
        rw [ce, Nat.mul_one] at this
        obtain ⟨z, hz⟩ : ∃ z, zs[i]? = some z := ⟨_, List.getElem?_eq_getElem (by omega)⟩
        rw [hz] at this
        have e1 : (r.drop i).take 1 = [r[i]'(by omega)] := by
          rw [List.drop_eq_getElem_cons (by omega)]
          rfl
        rw [e1] at this
        obtain ⟨b, hb, _⟩ := DataW.trod_bool ue this
        injection hb with hb
        exact ⟨b, by rw [List.getElem?_eq_getElem (by omega), hb]⟩
      obtain ⟨q, rfl⟩ : ∃ q : List Bool, r = q.map .bool := by
        clear hel hx hg t2 hsz hf hv
        have H : ∀ (n : Nat) (r : List Value), r.length = n → (∀ i, i < n → ∃ b : Bool, r[i]? = some (.bool b)) → ∃ q : List Bool, r = q.map .bool := fun n => by
          induction n with
          | zero => intro r hr _; exact ⟨[], by rw [List.length_eq_zero_iff.1 hr]; rfl⟩
          | succ n ih =>
            intro r hr h
            match r, hr with
            | x :: r, hr =>
              obtain ⟨b, hb⟩ := h 0 (by omega)
              obtain ⟨q, rfl⟩ := ih r (by simpa using hr) fun i hi => h (i + 1) (by omega)
              refine ⟨b :: q, ?_⟩
              have : x = .bool b := by simpa using hb
              rw [this]; rfl
        exact H 64 r hr64 hbits
      obtain ⟨l, rfl⟩ := bs_of s
      exact ⟨⟨l, b, q⟩, rfl, by rw [bs_size] at hws; exact hws, by simpa using hr64⟩
end
end Go.Proofs.YtjhnaeomaigimaaGreatDoor
