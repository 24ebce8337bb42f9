/- The row's last step where the call has made memory of its own. Arguments opened: slices of numbers, of strings, of bools, and devices and plans by value; and an argument that reads as before. Arguments opened, with the form's own reach: what a slice may weigh. Arguments opened: two numbers by value. Nothing of the program stands here. Arguments opened: a plan, with its size. Nothing of the program stands here. Arguments opened: a struct whose second field is a plan. Nothing of the program stands here. Arguments opened: a journal's place. Nothing of the program stands here. Arguments that are roots, snapshots and dirty bitmaps, opened. Package cofferdamref03: names. Package root: snapshots as bytes, and bytes as snapshots. -/
import Derived.Test.YtlapjkbefkmohaaGreatSdPackLaw
import Derived.ProofKit
import Derived.OpenShut
import Derived.ShutString
import Derived.Deep.Slices
import Derived.Deep.Fields
import Derived.ChangeSame
import Derived.Lib.SmallJoins
import Derived.Carry
import Derived.SizedLaws
import Derived.Test.YtlapjkbefkmohaaGreatSdPlain1
import Derived.Test.YtlapjkbefkmohaaGreatSdBlk3
import Derived.Test.YtlapjkbefkmohaaGreatSdRegs
import Derived.Test.YtlapjkbefkmohaaGreatSdRoots
namespace Go.Proofs.YtlapjkbefkmohaaGreat
open Go.RowKit Go.WideShapes Go.ChangeShapes
section
variable {H : Type} {enc : TypeId × Value → H} {P : Program}
theorem post_of_below {f : Func} {s : ChangeSpec} {apart fresh handsOn again : Bool} {W W' : World} {args : Array Value} {v : Value} {ds gs : List (DataW H)} {before pa pv : List MemPlace}
 (hW : DataW.Whole enc P f.params.toList s.vars apart W args.toList ds gs before)
 (hres : ∀ (b : Nat) (sp : Nat → Bool) (hd : Bool), DataW.TrodAll enc P W' b sp hd f.resultTypes.toList (v.resultList f.resultTypes.size) (s.fn H (ds ++ gs)).results [])
 (hargs : ∀ sp : Nat → Bool, (∀ p ∈ before, sp p.block = true) → DataW.TrodAll enc P W' 0 sp true f.params.toList args.toList (s.fn H (ds ++ gs)).args pa)
 (hvars : ∀ sp : Nat → Bool, (∀ p ∈ before, sp p.block = true) → DataW.TrodVars enc P W' sp s.vars (s.fn H (ds ++ gs)).vars pv)
 (hps : before = pa ++ pv) (hb : Below W.heap.size W W')
 (hok : ∀ (j : Nat) (t : TypeId) (r : Value), f.resultTypes[j]? = some t → (v.resultList f.resultTypes.size)[j]? = some r → Value.okWide P W' .any 0 t r) :
 s.post enc P f apart fresh handsOn again W args v W' := by
 have hlt : ∀ p ∈ before, p.block < W.heap.size := fun p hp => hW.lt p hp
 have hold : ∀ p ∈ before, (fun b => decide (b < W.heap.size)) p.block = true := fun p hp => by simpa using hlt p hp
 refine ⟨ds, gs, before, [], pa, pv, hW, hres _ _ _, hargs _ hold, hvars _ hold, World.keptBut_mono (fun p hp => ⟨hp, ?_⟩) (hb.frame (· ∈ before)), fun _ => ?_⟩
 · rw [hps, List.mem_append] at hp
   exact Or.inr hp
 · obtain ⟨_, _, _, _, _, hz, hn⟩ := hW
   refine ⟨hok, _, _, ([] ++ pa) ++ pv, ⟨[] ++ pa, pv, trodAll_append (hargs _ (fun _ _ => rfl)) (hres _ _ _), hvars _ (fun _ _ => rfl), rfl, ?_, ?_⟩, ?_⟩
   · intro b off hp
     have hin : MemPlace.cell b off ∈ before := by rw [hps]; simpa using hp
     rw [hb.frozen (hlt _ hin)]
     exact hz b off hin
   · intro ha
     have := hn ha
     rw [hps] at this
     simpa using this
   · intro p hp _
     rw [hps]
     simpa using hp
end
end Go.Proofs.YtlapjkbefkmohaaGreat
set_option linter.unusedVariables false
namespace Go.Proofs.YtlapjkbefkmohaaGreat
open Go.RowKit Go.WideShapes Go.ChangeShapes Go.Deep Go.Joins

section
variable {H : Type} {enc : TypeId × Value → H} {P : Program} {w : World} {base : Nat} {spare : Nat → Bool} {held : Bool}
theorem open_slice_fields {t e : TypeId} {fs : Array Field} {fuel : Nat} {cs : List Value} {x : DataW H × List MemPlace} (ht : P.underlying t = some (.slice e)) (he : P.underlying e = some (.struct fs))
 (hone : oneCellFields P fs = true) (hC : P.cellsOf e = fs.size) (h : DataW.trod enc P w base spare held fuel t cs = some x) :
 (cs = [.slice none 0 0] ∧ x = (.nil, [])) ∨
 ∃ (a : Addr) (len cap m : Nat) (D : Nat → DataW H) (Pl : Nat → List MemPlace), cs = [.slice (some a) len cap] ∧ base ≤ a.block ∧ len ≤ cap ∧ cap ≤ maxLen ∧ m = (if spare a.block then cap else len) ∧
  x = (.slice ((List.range len).map D) ((List.range (m - len)).map fun j => D (len + j)), MemPlace.row a (m * fs.size) ++ (List.range m).flatMap Pl) ∧
  ∀ i, i < m → ∃ (ys : List (DataW H × List MemPlace)) (n : Nat), D i = .agg (ys.map (·.1)) ∧ Pl i = ys.flatMap (·.2) ∧ ys.length = fs.size ∧
   ∀ (j : Nat) (f : Field), fs[j]? = some f → ∃ (v : Value) (y : DataW H × List MemPlace), w.cell? (a.add (i * fs.size + j)) = some v ∧ ys[j]? = some y ∧ DataW.trod enc P w base spare held n f.type [v] = some y := by
 rcases open_slice ht h with h0 | ⟨a, len, cap, m, n, D, Pl, hcs, hb, hl, hm, hmm, hx, hi⟩
 · exact .inl h0
 · refine .inr ⟨a, len, cap, m, D, Pl, hcs, hb, hl, hm, hmm, by rw [hC] at hx; exact hx, fun i him => ?_⟩
   obtain ⟨cs', hc, ht'⟩ := hi i him
   rw [hC] at hc
   obtain ⟨ys, n', hn', hy, hlen, hyl, hf⟩ := DataW.trod_struct he ht'
   obtain ⟨_, hcl, hat⟩ := World.cells?_some hc
   simp only [Prod.mk.injEq] at hy
   refine ⟨ys, n', hy.1, hy.2, hyl, fun j f hj => ?_⟩
   obtain ⟨ho, hk⟩ := hone_of hone j f hj
   have hjl : j < fs.size := (Array.getElem?_eq_some_iff.1 hj).1
   have hcell := hat j hjl
   have hv : cs'[j]? = some (cs'[j]'(by omega)) := List.getElem?_eq_getElem (by omega)
   have h1 := hf j f hj
   rw [ho, hk] at h1
   have hone' : (cs'.drop j).take 1 = [cs'[j]'(by omega)] := by
    rw [List.drop_eq_getElem_cons (by omega)]
    rfl
   rw [hone'] at h1
   have hys : ys[j]? = some (ys[j]'(by omega)) := List.getElem?_eq_getElem (by omega)
   refine ⟨_, _, ?_, hys, h1.trans hys⟩
   rw [← Go.Deep.add_add, hcell, hv]
theorem list_of {α : Type} {R : Nat → α → Prop} : ∀ {n : Nat}, (∀ i, i < n → ∃ x, R i x) → ∃ l : List α, l.length = n ∧ ∀ i (hi : i < l.length), R i l[i]
 | 0, _ => ⟨[], rfl, fun i hi => by cases hi⟩
 | n + 1, h => by
  obtain ⟨l, hl, hR⟩ := list_of (n := n) fun i hi => h i (by omega)
  obtain ⟨x, hx⟩ := h n (by omega)
  refine ⟨l ++ [x], by simp [hl], fun i hi => ?_⟩
  by_cases hin : i < l.length
  · rw [List.getElem_append_left hin]; exact hR i hin
  · have : i = l.length := by simp at hi; omega
    subst this
    rw [List.getElem_append_right (Nat.le_refl _)]
    simp only [Nat.sub_self, List.getElem_cons_zero, hl]
    exact hx
theorem cells_some {a : Addr} {cs : List Value} (h : ∀ j u, cs[j]? = some u → w.cell? (a.add j) = some u) : Cells w (some a) cs := by
 cases cs with
 | nil => exact .inl rfl
 | cons u0 r =>
  have h0 := World.cell?_spot (h 0 u0 rfl)
  obtain ⟨b, off, sp⟩ := a
  have hsp : sp = none := by
   cases sp with
   | none => rfl
   | some s => simp [Addr.add] at h0; try (split at h0 <;> simp_all)
  subst hsp
  exact .inr ⟨b, off, rfl, fun j u hu => by have := h j u hu; rwa [add_at] at this⟩
/-- A slice of one-cell elements, each of which reads as one of the numbers f x. -/
theorem open_list {α : Type} {f : α → Value} {R : α → Prop} {t e : TypeId} {fuel : Nat} {v : Value} {x : DataW H × List MemPlace} (ht : P.underlying t = some (.slice e)) (hc : P.cellsOf e = 1)
 (hf : ∀ {n : Nat} {v : Value} {y : DataW H × List MemPlace}, DataW.trod enc P w base spare held n e [v] = some y → ∃ x, v = f x ∧ R x) (h : DataW.trod enc P w base spare held fuel t [v] = some x) :
 ∃ (A : Option Addr) (c : Nat) (l : List α), v = .slice A l.length c ∧ Cells w A (l.map f) ∧ (A = none → c = 0) ∧ l.length ≤ c ∧ c ≤ maxLen ∧ ∀ x ∈ l, R x := by
 rcases open_slice1 ht hc h with ⟨h0, _⟩ | ⟨a, len, cap, m, n, V, D, Pl, hcs, _, hl, hm, hmm, _, hi⟩
 · injection h0 with h0
   exact ⟨none, 0, [], h0, .inl rfl, fun _ => rfl, Nat.le_refl _, Nat.zero_le _, fun x hx => by cases hx⟩
 · injection hcs with hcs
   have hlm : len ≤ m := by rw [hmm]; split <;> omega
   obtain ⟨l, hl', hR⟩ := list_of (α := α) (n := len) (R := fun i x => w.cell? (a.add i) = some (f x) ∧ R x) fun i h => by
    obtain ⟨hcell, ht'⟩ := hi i (by omega)
    obtain ⟨x, hx, hRx⟩ := hf ht'
    exact ⟨x, by rw [hcell, hx], hRx⟩
   subst hl'
   refine ⟨some a, cap, l, hcs, cells_some fun j u hu => ?_, (by intro h; cases h), hl, hm, fun x hx => ?_⟩
   · rw [List.getElem?_map] at hu
     obtain ⟨y, hy, rfl⟩ := Option.map_eq_some_iff.1 hu
     obtain ⟨hj, rfl⟩ := List.getElem?_eq_some_iff.1 hy
     exact (hR j hj).1
   · obtain ⟨j, hj, rfl⟩ := List.getElem_of_mem hx
     exact (hR j hj).2
abbrev okInt (x : Int) : Prop := -9223372036854775808 ≤ x ∧ x ≤ 9223372036854775807
theorem okInt_of {x : Int} (h : (Lit.int .i64 x).wf = true) : okInt x := by
 have := bounds_i64 h
 exact ⟨by omega, by omega⟩
theorem open_ints {t e : TypeId} {fuel : Nat} {v : Value} {x : DataW H × List MemPlace} (ht : P.underlying t = some (.slice e)) (he : P.underlying e = some (.int .i64)) (hc : P.cellsOf e = 1) (h : DataW.trod enc P w base spare held fuel t [v] = some x) :
 ∃ (A : Option Addr) (c : Nat) (l : List Int), v = .slice A l.length c ∧ Cells w A (intCells l) ∧ (A = none → c = 0) ∧ l.length ≤ c ∧ c ≤ maxLen ∧ ∀ x ∈ l, okInt x :=
 open_list ht hc (fun hy => by
  obtain ⟨n, hn, _, hw⟩ := DataW.trod_int he hy
  injection hn with hn
  exact ⟨n, hn, okInt_of hw⟩) h
theorem putCells_at (l : List (Int × List UInt8)) (j : Nat) (u : Value) (h : (putCells l)[j]? = some u) : ∃ i, ∃ hi : i < l.length, (j = i * 2 ∧ u = .int .i64 l[i].1) ∨ (j = i * 2 + 1 ∧ u = .string (bs l[i].2)) := by
 have hj := (List.getElem?_eq_some_iff.1 h).1
 rw [putCells_length] at hj
 have hi : j / 2 < l.length := by omega
 refine ⟨j / 2, hi, ?_⟩
 obtain ⟨h1, h2⟩ := putCells_get l (j / 2) hi
 rcases Nat.mod_two_eq_zero_or_one j with h0 | h0
 · left
   have e : j = j / 2 * 2 := by omega
   rw [← e, h] at h1
   exact ⟨e, Option.some.inj h1⟩
 · right
   have e : j = j / 2 * 2 + 1 := by omega
   rw [← e, h] at h2
   exact ⟨e, Option.some.inj h2⟩
theorem open_puts {t e : TypeId} {fuel : Nat} {v : Value} {x : DataW H × List MemPlace} {fs : Array Field} (ht : P.underlying t = some (.slice e)) (he : P.underlying e = some (.struct fs))
 (hone : oneCellFields P fs = true) (hC : P.cellsOf e = 2) {f0 f1 : Field} (hfs : fs = #[f0, f1]) (h0 : P.underlying f0.type = some (.int .i64)) (h1 : P.underlying f1.type = some .string) (h : DataW.trod enc P w base spare held fuel t [v] = some x) :
 ∃ (A : Option Addr) (c : Nat) (l : List (Int × List UInt8)), v = .slice A l.length c ∧ Cells w A (putCells l) ∧ (A = none → c = 0) ∧ l.length ≤ c ∧ c ≤ maxLen ∧ ∀ x ∈ l, okInt x.1 ∧ x.2.length ≤ maxLen := by
 subst hfs
 rcases open_slice_fields ht he hone hC h with ⟨h0, _⟩ | ⟨a, len, cap, m, D, Pl, hcs, _, hl, hm, hmm, _, hi⟩
 · injection h0 with h0
   exact ⟨none, 0, [], h0, .inl rfl, fun _ => rfl, Nat.le_refl _, Nat.zero_le _, fun x hx => by cases hx⟩
 · injection hcs with hcs
   have hlm : len ≤ m := by rw [hmm]; split <;> omega
   obtain ⟨l, hl', hR⟩ := list_of (α := Int × List UInt8) (n := len) (R := fun i x => w.cell? (a.add (i * 2)) = some (.int .i64 x.1) ∧ w.cell? (a.add (i * 2 + 1)) = some (.string (bs x.2)) ∧ okInt x.1 ∧ x.2.length ≤ maxLen) fun i h => by
    obtain ⟨ys, n, _, _, _, hf⟩ := hi i (by omega)
    obtain ⟨v0, y0, c0, _, t0⟩ := hf 0 f0 rfl
    obtain ⟨v1, y1, c1, _, t1⟩ := hf 1 f1 rfl
    obtain ⟨k, hk, _, hw⟩ := DataW.trod_int h0 t0
    obtain ⟨s, hs, _, hw'⟩ := DataW.trod_string h1 t1
    injection hk with hk
    injection hs with hs
    obtain ⟨sl, rfl⟩ := bs_of s
    rw [bs_size] at hw'
    subst hk; subst hs
    exact ⟨(k, sl), c0, c1, okInt_of hw, hw'⟩
   subst hl'
   refine ⟨some a, cap, l, hcs, cells_some fun j u hu => ?_, (by intro h; cases h), hl, hm, fun x hx => ?_⟩
   · obtain ⟨i, hi, ⟨rfl, rfl⟩ | ⟨rfl, rfl⟩⟩ := putCells_at l j u hu
     · exact (hR i hi).1
     · exact (hR i hi).2.1
   · obtain ⟨j, hj, rfl⟩ := List.getElem_of_mem hx
     exact (hR j hj).2.2
/-- The device's value stands in memory, as large as it may be. -/
structure IsDk0 (w : World) (D : Dk) (p q : Pl) : Prop where
 cache : Cells w p.a (putCells D.cache)
 bad : Cells w q.a (intCells D.bad)
 pn : p.a = none → p.c = 0
 qn : q.a = none → q.c = 0
 pc : D.cache.length ≤ p.c
 qc : D.bad.length ≤ q.c
 pm : p.c ≤ maxLen
 qm : q.c ≤ maxLen
 data : D.data.length ≤ maxLen
 fuse : okInt D.fuse
 strs : ∀ x ∈ D.cache, x.2.length ≤ maxLen
 ats : ∀ x ∈ D.cache, okInt x.1
 bads : ∀ x ∈ D.bad, okInt x
theorem IsDk0.below {w w' : World} {D : Dk} {p q : Pl} (h : IsDk0 w D p q) (hb : Below w.heap.size w w') : IsDk0 w' D p q :=
 { h with cache := h.cache.below hb, bad := h.bad.below hb }
theorem IsDk0.full {w : World} {D : Dk} {p q : Pl} (h : IsDk0 w D p q) (h1 : D.cache.length ≤ 1099511627776) (h2 : D.bad.length ≤ 17592186044416) (h3 : D.data.length ≤ 140737488355328) : IsDk w D p q :=
 { h with cl := h1, bl := h2, data := h3 }
/-- All arguments read as before. -/
theorem trodAll_stays (hl : laidOutB P = true) {W W' : World} {sp : Nat → Bool} (hb : Below W.heap.size W W') : ∀ {ts : List TypeId} {vs : List Value} {ds : List (DataW H)} {ps : List MemPlace}, ts.all (fun t => P.readableRec t && decide (t < P.types.size)) = true →
 DataW.TrodAll enc P W 0 (fun _ => true) true ts vs ds ps → (∀ x ∈ ps, x.block < W.heap.size) → (∀ x ∈ ps, sp x.block = true) → DataW.TrodAll enc P W' 0 sp true ts vs ds ps
 | [], [], [], _, _, h, _, _ => h
 | t :: ts, _ :: _, _ :: _, _, ht, ⟨p, q, h1, h2, e⟩, hlt, hs => by
  subst e
  simp only [List.all_cons, Bool.and_eq_true, decide_eq_true_eq] at ht
  exact ⟨p, q, WideElems.Trod_stays hl ht.1.1 ht.1.2 h1 (fun x hx => hb.same (hlt x (List.mem_append_left _ hx))) (fun x hx => hs x (List.mem_append_left _ hx)),
   trodAll_stays hl hb ht.2 h2 (fun x hx => hlt x (List.mem_append_right _ hx)) (fun x hx => hs x (List.mem_append_right _ hx)), rfl⟩
end
end Go.Proofs.YtlapjkbefkmohaaGreat
set_option linter.unusedVariables false
namespace Go.Proofs.YtlapjkbefkmohaaGreat
open Go.RowKit Go.WideShapes Go.ChangeShapes Go.Deep Go.Joins

section
variable {H : Type} {enc : TypeId × Value → H} {P : Program} {w : World} {base : Nat} {spare : Nat → Bool} {held : Bool}
theorem slice_weight {t e : TypeId} {fuel : Nat} {A : Option Addr} {n c : Nat} {x : DataW H × List MemPlace} (ht : P.underlying t = some (.slice e)) (h : DataW.trod enc P w base spare held fuel t [.slice A n c] = some x)
 (hw : (x.1.weights P t).all (· ≤ reachBytes) = true) : n * P.bytesOf e ≤ reachBytes := by
 rcases open_slice ht h with ⟨h0, _⟩ | ⟨a, len, cap, m, k, D, Pl, hcs, _, hl, hm, hmm, hx, _⟩
 · simp only [List.cons.injEq, Value.slice.injEq, and_true] at h0
   rw [h0.2.1]; simp
 · simp only [List.cons.injEq, Value.slice.injEq, and_true] at hcs
   rw [hx] at hw
   simp only [DataW.weights, ht, List.all_cons, Bool.and_eq_true, decide_eq_true_eq, List.length_map, List.length_range] at hw
   rw [hcs.2.1]
   exact Nat.le_trans (Nat.mul_le_mul_right _ (Nat.le_add_right _ _)) hw.1
theorem weights_each {ts : List TypeId} {ds : List (DataW H)} {j : Nat} {t : TypeId} {d : DataW H} (h : (DataW.weightsEach P ts ds).all (· ≤ reachBytes) = true) (ht : ts[j]? = some t) (hd : ds[j]? = some d) : (d.weights P t).all (· ≤ reachBytes) = true :=
 List.all_eq_true.2 fun n hn => List.all_eq_true.1 h n (DataW.weights_mem_each ht hd n hn)
end
end Go.Proofs.YtlapjkbefkmohaaGreat
set_option linter.unusedVariables false
namespace Go.Proofs.YtlapjkbefkmohaaGreat
open Go.RowKit Go.Shelf Go.WideShapes Go.ChangeShapes Go.Deep Go.Joins
section
variable {H : Type} {enc : TypeId × Value → H} {P : Program} {w : World} {base : Nat} {spare : Nat → Bool} {held : Bool}
end
end Go.Proofs.YtlapjkbefkmohaaGreat
set_option linter.unusedVariables false
namespace Go.Proofs.YtlapjkbefkmohaaGreat
open Go.RowKit Go.Shelf Go.WideShapes Go.ChangeShapes Go.Deep Go.Joins
section
variable {H : Type} {enc : TypeId × Value → H} {P : Program} {w : World} {base : Nat} {spare : Nat → Bool} {held : Bool}
end
end Go.Proofs.YtlapjkbefkmohaaGreat
set_option linter.unusedVariables false
namespace Go.Proofs.YtlapjkbefkmohaaGreat
open Go.RowKit Go.Shelf Go.WideShapes Go.ChangeShapes Go.Deep Go.Joins
section
variable {H : Type} {enc : TypeId × Value → H} {P : Program} {w : World} {base : Nat} {spare : Nat → Bool} {held : Bool}
end
end Go.Proofs.YtlapjkbefkmohaaGreat
set_option linter.unusedVariables false
namespace Go.Proofs.YtlapjkbefkmohaaGreat
open Go.RowKit Go.Shelf Go.WideShapes Go.ChangeShapes Go.Deep Go.Joins
section
variable {H : Type} {enc : TypeId × Value → H} {P : Program} {w : World} {base : Nat} {spare : Nat → Bool} {held : Bool}
end
end Go.Proofs.YtlapjkbefkmohaaGreat

set_option linter.unusedVariables false
namespace Go.Proofs.YtlapjkbefkmohaaGreat
open Go.RowKit Go.Shelf Go.WideShapes Go.ChangeShapes Go.Deep Go.Joins
section
variable {H : Type} {enc : TypeId × Value → H} {P : Program} {w : World} {base : Nat} {spare : Nat → Bool} {held : Bool}
/-- A dirty bitmap's cells. -/
def dmCells (m : Dm) : List Value := .string (bs m.name) :: .bool m.use :: m.bits.map .bool
abbrev dmval (m : Dm) : Value := .agg (dmCells m).toArray
theorem dmCells_length {m : Dm} (h : m.bits.length = 64) : (dmCells m).length = 66 := by simp [dmCells, h]
end
end Go.Proofs.YtlapjkbefkmohaaGreat

set_option linter.unusedVariables false
namespace Go.Proofs.YtlapjkbefkmohaaGreat
open Go.RowKit Go.Shelf
attribute [local go_sem] bs_mk bs_append bs_extract bs_size bs_toList bs_get
theorem nameOk_no {s : List UInt8} {i : Nat} (hi : i < s.length) (h : okByte s[i] = false) : nameOk s = false := by
 have : s.all okByte = false := by
  rw [List.all_eq_false]
  exact ⟨s[i], List.getElem_mem hi, by rw [h]; simp⟩
 simp [nameOk, this]
theorem nameOk_all {s : List UInt8} (h : ∀ j (hj : j < s.length), okByte s[j] = true) : nameOk s = (!s.isEmpty && decide (s.length ≤ 8)) := by
 have : s.all okByte = true := by
  rw [List.all_eq_true]
  intro x hx
  obtain ⟨j, hj, rfl⟩ := List.getElem_of_mem hx
  exact h j hj
 simp [nameOk, this]
set_option maxRecDepth 100000 in
theorem r3_named (s : List UInt8) (hm : s.length ≤ maxLen) (w : World) :
 Calls Tryz.prog 47 #[.string (bs s)] w fun e w' => e = .returned (.bool (nameOk s)) ∧ w = w' := by
 have hm' := hm
 unfold maxLen at hm'
 go_enter Tryz.func47, Tryz.ntmps47
 go_wp2_with fail
 go_loop [3] (fun x => ∃ i : Nat, i ≤ s.length ∧ x = .int .i64 i ∧ Hid (∀ j (hj : j < s.length), j < i → okByte s[j] = true)) (fun x => s.length - (intOf x).toNat)
 case atStart => exact ⟨0, Nat.zero_le _, rfl, hid (fun j hj h0 => by omega)⟩
 case round =>
  obtain ⟨i, hi, rfl, hok⟩ := hrel
  by_cases hlt : i < s.length
  · have hb := (s[i]).toNat_lt
    by_cases h1 : s[i].toNat < 33
    · have d1 : decide ((s[i].toNat : Int) < 33) = true := decide_eq_true (by omega)
      have Hw := hid (nameOk_no hlt (by unfold okByte; rw [decide_eq_false (by omega)]; rfl))
      go_wp2_with fail
      go_ret
      exact ⟨by rw [Hw.out]; rfl, rfl⟩
    · have d1 : decide ((s[i].toNat : Int) < 33) = false := decide_eq_false (by omega)
      by_cases h2 : 126 < s[i].toNat
      · have d2 : decide ((126 : Int) < (s[i].toNat : Int)) = true := decide_eq_true (by omega)
        have Hw := hid (nameOk_no hlt (by unfold okByte; rw [decide_eq_true (by omega), decide_eq_false (by omega)]; rfl))
        go_wp2_with fail
        go_ret
        exact ⟨by rw [Hw.out]; rfl, rfl⟩
      · have d2 : decide ((126 : Int) < (s[i].toNat : Int)) = false := decide_eq_false (by omega)
        have Hy := hid (show okByte s[i] = true by unfold okByte; rw [decide_eq_true (by omega), decide_eq_true (by omega)]; rfl)
        go_wp2_with fail
        go_round
        case rel => exact ⟨i + 1, by omega, by go_num, hid (fun j hj hji => by
         rcases Nat.lt_or_ge j i with h' | h'
         · exact hok.out j hj h'
         · obtain rfl : j = i := by omega
           exact Hy.out)⟩
        case measure => simp [intOf]; omega
  · have Hw := hid (nameOk_all fun j hj => hok.out j hj (by omega))
    clear hok
    obtain rfl : i = s.length := by omega
    by_cases hs : s = []
    · subst hs
      go_wp2_with fail
      go_ret
      exact ⟨by rw [Hw.out]; rfl, rfl⟩
    · have hse : s.isEmpty = false := by cases s with
       | nil => exact absurd rfl hs
       | cons a l => rfl
      have d3 : (s == []) = false := by cases s with
       | nil => exact absurd rfl hs
       | cons a l => rfl
      have d4 : (s != []) = true := by cases s with
       | nil => exact absurd rfl hs
       | cons a l => rfl
      by_cases h8 : s.length ≤ 8
      · have d1 : decide ((s.length : Int) ≤ 8) = true := decide_eq_true (by omega)
        have d2 : decide (s.length ≤ 8) = true := decide_eq_true h8
        have Hw2 := hid (show nameOk s = true by rw [Hw.out, d2, hse]; rfl)
        clear hs hse
        go_wp2_with fail
        go_ret
        exact ⟨by rw [Hw2.out]; rfl, rfl⟩
      · have d1 : decide ((s.length : Int) ≤ 8) = false := decide_eq_false (by omega)
        have d2 : decide (s.length ≤ 8) = false := decide_eq_false h8
        have Hw2 := hid (show nameOk s = false by rw [Hw.out, d2]; simp)
        clear hs hse
        go_wp2_with fail
        go_ret
        exact ⟨by rw [Hw2.out]; rfl, rfl⟩
end Go.Proofs.YtlapjkbefkmohaaGreat

set_option linter.unusedVariables false
namespace Go.Proofs.YtlapjkbefkmohaaGreat
open Go.RowKit Go.Shelf
attribute [local go_sem] bs_mk bs_append bs_extract bs_size bs_toList bs_get
theorem r10_clus (k : Int) (w : World) : Calls Tryz.prog 59 #[.int .i64 k] w fun e w' => e = .returned (.bool (decide (0 ≤ k ∧ k < 256))) ∧ Below w.heap.size w w' := by
 by_cases h0 : 0 ≤ k
 · have h1 : decide (0 ≤ k) = true := decide_eq_true h0
   by_cases h : k < 256
   · have h2 : decide (k < 256) = true := decide_eq_true h
     have Hw := hid (show decide (0 ≤ k ∧ k < 256) = true from decide_eq_true ⟨h0, h⟩)
     clear h0 h
     go_enter Tryz.func59, Tryz.ntmps59
     go_wp2_with fail
     go_ret
     exact ⟨by rw [Hw.out]; rfl, Below.refl _ _⟩
   · have h2 : decide (k < 256) = false := decide_eq_false h
     have Hw := hid (show decide (0 ≤ k ∧ k < 256) = false from decide_eq_false (by omega))
     clear h0 h
     go_enter Tryz.func59, Tryz.ntmps59
     go_wp2_with fail
     go_ret
     exact ⟨by rw [Hw.out]; rfl, Below.refl _ _⟩
 · have h1 : decide (0 ≤ k) = false := decide_eq_false h0
   have Hw := hid (show decide (0 ≤ k ∧ k < 256) = false from decide_eq_false (by omega))
   clear h0
   go_enter Tryz.func59, Tryz.ntmps59
   go_wp2_with fail
   go_ret
   exact ⟨by rw [Hw.out]; rfl, Below.refl _ _⟩
--WRITESNAP
end Go.Proofs.YtlapjkbefkmohaaGreat
