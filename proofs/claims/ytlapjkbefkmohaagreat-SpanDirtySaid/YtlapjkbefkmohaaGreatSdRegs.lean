/- The program's operations are drawn as the model says. A device, or a plan, that stands in memory abides what an iterator's records do. Nothing of the program stands here. What is stored into a box of the call's own: the box, all else. Nothing of the program stands here. Regions that draw their order: boxes that are loaded, calls that make memory of their own, a result that is stored. Nothing of the program stands here. A map from numbers to truth values that a call makes and fills with 'true': what a look-up tells. Nothing of the program stands here. A region that draws its order, whose last operations write what its loads read: the loads are taken first all the same, for those last ones wait for them. Nothing of the program stands here. A region in a round of a loop over an iterator: what is proved of it as everywhere holds there, too, where it defers nothing. Nothing of the program stands here. A region that draws its order: its first operations are quiet in a class of worlds and all others wait for them; those others stand in one order but for such as only move values. One walk in the text's order serves. Nothing of the program stands here. A region that draws its order, in a function that ranges over a function: what comes behind a panic may hang on the act, so the walk shows that none comes. Nothing of the program stands here. -/
import Derived.Test.YtlapjkbefkmohaaGreatSdPackLaw
import Derived.Test.YtlapjkbefkmohaaGreatProg
import Derived.Test.YtlapjkbefkmohaaGreatSdPlain1
import Derived.Deep.RegionHeld3
import Derived.Maps.OwnIn
import Derived.Maps.Views
import Derived.OrdersHeld
import Derived.RegionTactic
import Derived.TacticsIn
import Derived.RangeFuncCalls
import Derived.StillTail
import Derived.Deep.Quiet
namespace Go.Proofs.YtlapjkbefkmohaaGreat
theorem mixed : Tryz.prog.follows .mixedOrders = true := by kernel_rfl
end Go.Proofs.YtlapjkbefkmohaaGreat
set_option linter.unusedVariables false
namespace Go.Proofs.YtlapjkbefkmohaaGreat
open Go.RowKit Go.Shelf
theorem cell_kept {X Y : World} {row : Option Nat} {a : Addr} {v : Value} (h : X.cell? a = some v) (hg : X.grownBy Y row) (hr : ∀ r, row = some r → ∃ o : Obj, X.heap[r]? = some o ∧ o.isCells = false) : Y.cell? a = some v := by
 have hb : Y.heap[a.block]? = X.heap[a.block]? := hg.block a.block (lt_of_cell h) (fun e => by
  obtain ⟨o, ho, hc⟩ := hr a.block e.symm
  simp only [World.cell?, ho] at h
  cases o <;> simp_all [Obj.isCells])
 simp only [World.cell?, hb] at h ⊢
 exact h
theorem Cells.kept {X Y : World} {row : Option Nat} {A : Option Addr} {cs : List Value} (h : Cells X A cs) (hg : X.grownBy Y row) (hr : ∀ r, row = some r → ∃ o : Obj, X.heap[r]? = some o ∧ o.isCells = false) : Cells Y A cs := by
 rcases h with h | ⟨b, off, e, hc⟩
 · exact .inl h
 · exact .inr ⟨b, off, e, fun j u hu => cell_kept (hc j u hu) hg hr⟩
theorem IsDk.kept {X Y : World} {row : Option Nat} {D : Dk} {p q : Pl} (h : IsDk X D p q) (hg : X.grownBy Y row) (hr : ∀ r, row = some r → ∃ o : Obj, X.heap[r]? = some o ∧ o.isCells = false) : IsDk Y D p q :=
 { h with cache := h.cache.kept hg hr, bad := h.bad.kept hg hr }
theorem IsPn.kept {X Y : World} {row : Option Nat} {L : Pn} {p q : Pl} (h : IsPn X L p q) (hg : X.grownBy Y row) (hr : ∀ r, row = some r → ∃ o : Obj, X.heap[r]? = some o ∧ o.isCells = false) : IsPn Y L p q :=
 { h with targets := h.targets.kept hg hr, data := h.data.kept hg hr }
end Go.Proofs.YtlapjkbefkmohaaGreat
set_option linter.unusedVariables false
namespace Go.Proofs.YtlapjkbefkmohaaGreat
open Go.RowKit Go.Shelf

theorem blk_set2 {w : World} {g : Nat} {t : TypeId} {a b : Value} (h : Blk w g t #[a, b]) (u v : Value) : Blk ((w.setCell ⟨g, 0, none⟩ u).setCell ⟨g, 1, none⟩ v) g t #[u, v] := by
 have := (h.set 0 u).set 1 v
 simpa using this
theorem blk_off2 {w : World} {g k : Nat} {t : TypeId} {cs : Array Value} (h : Blk w k t cs) (hk : k ≠ g) (u v : Value) : Blk ((w.setCell ⟨g, 0, none⟩ u).setCell ⟨g, 1, none⟩ v) k t cs :=
 (h.other (a := ⟨g, 0, none⟩) hk u).other (a := ⟨g, 1, none⟩) hk v
theorem below_set2 {B : Nat} {w0 w : World} {g : Nat} (h : Below B w0 w) (hg : B ≤ g) (u v : Value) : Below B w0 ((w.setCell ⟨g, 0, none⟩ u).setCell ⟨g, 1, none⟩ v) :=
 (h.setCell (p := ⟨g, 0, none⟩) hg u).setCell (p := ⟨g, 1, none⟩) hg v
theorem IsPn.off2 {w : World} {L : Pn} {p q : Pl} (h : IsPn w L p q) {g : Nat} (ho : PnOff g L p q) (u v : Value) : IsPn ((w.setCell ⟨g, 0, none⟩ u).setCell ⟨g, 1, none⟩ v) L p q :=
 (h.off (a := ⟨g, 0, none⟩) ho u).off (a := ⟨g, 1, none⟩) ho v
theorem IsPn.off5 {w : World} {L : Pn} {p q : Pl} (h : IsPn w L p q) {g : Nat} (ho : PnOff g L p q) (v0 v1 v2 v3 v4 : Value) :
 IsPn (((((w.setCell ⟨g, 0, none⟩ v0).setCell ⟨g, 1, none⟩ v1).setCell ⟨g, 2, none⟩ v2).setCell ⟨g, 3, none⟩ v3).setCell ⟨g, 4, none⟩ v4) L p q :=
 ((((h.off (a := ⟨g, 0, none⟩) ho v0).off (a := ⟨g, 1, none⟩) ho v1).off (a := ⟨g, 2, none⟩) ho v2).off (a := ⟨g, 3, none⟩) ho v3).off (a := ⟨g, 4, none⟩) ho v4
theorem IsDk.off2 {w : World} {D : Dk} {p q : Pl} (h : IsDk w D p q) {g : Nat} (ho : DkOff g D p q) (u v : Value) : IsDk ((w.setCell ⟨g, 0, none⟩ u).setCell ⟨g, 1, none⟩ v) D p q :=
 (h.off (a := ⟨g, 0, none⟩) ho u).off (a := ⟨g, 1, none⟩) ho v
theorem IsDk.off5 {w : World} {D : Dk} {p q : Pl} (h : IsDk w D p q) {g : Nat} (ho : DkOff g D p q) (v0 v1 v2 v3 v4 : Value) :
 IsDk (((((w.setCell ⟨g, 0, none⟩ v0).setCell ⟨g, 1, none⟩ v1).setCell ⟨g, 2, none⟩ v2).setCell ⟨g, 3, none⟩ v3).setCell ⟨g, 4, none⟩ v4) D p q :=
 ((((h.off (a := ⟨g, 0, none⟩) ho v0).off (a := ⟨g, 1, none⟩) ho v1).off (a := ⟨g, 2, none⟩) ho v2).off (a := ⟨g, 3, none⟩) ho v3).off (a := ⟨g, 4, none⟩) ho v4
theorem own_apart {w : World} {b b' : Nat} {e e' : TypeId} {s s' n n' : Nat} {v v' : Value} {xs xs' : List Value} (h : w.ownsRow b e s v n xs) (h' : w.ownsRow b' e' s' v' n' xs') (hne : e ≠ e') : v.ownBlock = none ∨ v.ownBlock ≠ v'.ownBlock := by
 rcases h.2 with ⟨rfl, _⟩ | ⟨g, cap, cur, rfl, _, h3, _⟩
 · exact .inl rfl
 · right
   intro hh
   rcases h'.2 with ⟨rfl, _⟩ | ⟨g', cap', cur', rfl, _, h4, _⟩
   · cases hh
   · injection hh with hh
     have hh : g = g' := hh
     subst hh
     rw [h3] at h4
     injection h4 with h4
     injection h4 with _ h4
     exact hne h4
theorem own_box {w : World} {b : Nat} {e t : TypeId} {s n g : Nat} {v : Value} {xs : List Value} {cs : Array Value} (h : w.ownsRow b e s v n xs) (hb : Blk w g t cs) (hne : t ≠ e) : some g ≠ v.ownBlock := by
 intro hh
 rcases h.2 with ⟨rfl, _⟩ | ⟨g', cap, cur, rfl, _, h3, _⟩
 · cases hh
 · injection hh with hh
   have hh : g = g' := hh
   subst hh
   rw [show w.heap[g]? = _ from hb] at h3
   injection h3 with h3
   injection h3 with _ h3
   exact hne h3
end Go.Proofs.YtlapjkbefkmohaaGreat
set_option linter.unusedVariables false
namespace Go.Proofs.YtlapjkbefkmohaaGreat
open Go.RowKit Go.Shelf
theorem i64w {x : Int} (h : -9223372036854775808 ≤ x ∧ x ≤ 9223372036854775807) : IntKind.i64.wrap x = x := by simp [IntKind.wrap, IntKind.bits, IntKind.signed]; omega
theorem u64w {x : Int} (h : 0 ≤ x ∧ x ≤ 18446744073709551615) : IntKind.u64.wrap x = x := by simp [IntKind.wrap, IntKind.bits, IntKind.signed]; omega
/-- A device and a plan in their boxes, and nothing below is touched. -/
theorem held7 {w W W' : World} {a0 a1 a2 a3 a4 a5 a6 : Addr} {v0 v1 v2 v3 v4 v5 v6 : Value}
 (h : (W.cell? a0 = some v0 ∧ W.cell? a1 = some v1 ∧ W.cell? a2 = some v2 ∧ W.cell? a3 = some v3 ∧ W.cell? a4 = some v4) ∧ (W.cell? a5 = some v5 ∧ W.cell? a6 = some v6) ∧ Below w.heap.size w W) (hb : Below W.heap.size W W') :
 (W'.cell? a0 = some v0 ∧ W'.cell? a1 = some v1 ∧ W'.cell? a2 = some v2 ∧ W'.cell? a3 = some v3 ∧ W'.cell? a4 = some v4) ∧ (W'.cell? a5 = some v5 ∧ W'.cell? a6 = some v6) ∧ Below w.heap.size w W' := by
 obtain ⟨⟨h0, h1, h2, h3, h4⟩, ⟨h5, h6⟩, hB⟩ := h
 exact ⟨⟨cell_below hb h0, cell_below hb h1, cell_below hb h2, cell_below hb h3, cell_below hb h4⟩, ⟨cell_below hb h5, cell_below hb h6⟩, bt hB hb⟩
theorem held7s {w W : World} {b0 b1 o0 o1 o2 o3 o4 o5 o6 : Nat} {v0 v1 v2 v3 v4 v5 v6 : Value}
 (h : (W.cell? ⟨b0, o0, none⟩ = some v0 ∧ W.cell? ⟨b0, o1, none⟩ = some v1 ∧ W.cell? ⟨b0, o2, none⟩ = some v2 ∧ W.cell? ⟨b0, o3, none⟩ = some v3 ∧ W.cell? ⟨b0, o4, none⟩ = some v4) ∧ (W.cell? ⟨b1, o5, none⟩ = some v5 ∧ W.cell? ⟨b1, o6, none⟩ = some v6) ∧ Below w.heap.size w W)
 {g : Nat} (g0 : b0 ≠ g) (g1 : b1 ≠ g) (hg : w.heap.size ≤ g) (u v : Value) :
 (((W.setCell ⟨g, 0, none⟩ u).setCell ⟨g, 1, none⟩ v).cell? ⟨b0, o0, none⟩ = some v0 ∧ ((W.setCell ⟨g, 0, none⟩ u).setCell ⟨g, 1, none⟩ v).cell? ⟨b0, o1, none⟩ = some v1 ∧ ((W.setCell ⟨g, 0, none⟩ u).setCell ⟨g, 1, none⟩ v).cell? ⟨b0, o2, none⟩ = some v2 ∧ ((W.setCell ⟨g, 0, none⟩ u).setCell ⟨g, 1, none⟩ v).cell? ⟨b0, o3, none⟩ = some v3 ∧ ((W.setCell ⟨g, 0, none⟩ u).setCell ⟨g, 1, none⟩ v).cell? ⟨b0, o4, none⟩ = some v4) ∧
 (((W.setCell ⟨g, 0, none⟩ u).setCell ⟨g, 1, none⟩ v).cell? ⟨b1, o5, none⟩ = some v5 ∧ ((W.setCell ⟨g, 0, none⟩ u).setCell ⟨g, 1, none⟩ v).cell? ⟨b1, o6, none⟩ = some v6) ∧ Below w.heap.size w ((W.setCell ⟨g, 0, none⟩ u).setCell ⟨g, 1, none⟩ v) := by
 obtain ⟨⟨h0, h1, h2, h3, h4⟩, ⟨h5, h6⟩, hB⟩ := h
 have k : ∀ (b o : Nat) (x : Value), b ≠ g → W.cell? ⟨b, o, none⟩ = some x → ((W.setCell ⟨g, 0, none⟩ u).setCell ⟨g, 1, none⟩ v).cell? ⟨b, o, none⟩ = some x := fun b o x hb h => by
  rw [World.cell?_setCell_other _ _ _ _ (by intro e; injection e with e; exact hb e.symm), World.cell?_setCell_other _ _ _ _ (by intro e; injection e with e; exact hb e.symm)]; exact h
 exact ⟨⟨k _ _ _ g0 h0, k _ _ _ g0 h1, k _ _ _ g0 h2, k _ _ _ g0 h3, k _ _ _ g0 h4⟩, ⟨k _ _ _ g1 h5, k _ _ _ g1 h6⟩, below_set2 hB hg u v⟩
end Go.Proofs.YtlapjkbefkmohaaGreat
set_option linter.unusedVariables false
namespace Go.Proofs.YtlapjkbefkmohaaGreat
open Go.RowKit Go.Shelf Go.Maps
def seenD (l : List Int) : DataW Unit := l.foldl (fun D x => D.put (.int .i64 x) (.lit (.bool true))) (.map [])
theorem isMap_put {D : DataW Unit} (h : IsMap D) (k : Lit) (d : DataW Unit) : IsMap (D.put k d) := by
 obtain ⟨es, rfl⟩ := h
 exact ⟨_, rfl⟩
theorem seenD_at (l : List Int) (x : Int) : (seenD l).atKey (.int .i64 x) (.lit (.bool false)) = .lit (.bool (decide (x ∈ l))) := by
 suffices h : ∀ (l : List Int) (D : DataW Unit) (s : List Int), IsMap D → D.atKey (.int .i64 x) (.lit (.bool false)) = .lit (.bool (decide (x ∈ s))) →
  (l.foldl (fun D x => D.put (.int .i64 x) (.lit (.bool true))) D).atKey (.int .i64 x) (.lit (.bool false)) = .lit (.bool (decide (x ∈ s ++ l))) by
  have := h l (.map []) [] isMap_empty (by simp [DataW.atKey])
  unfold seenD
  simpa using this
 intro l
 induction l with
 | nil => intro D s _ h; simpa using h
 | cons a l ih =>
  intro D s hD h
  have := ih (D.put (.int .i64 a) (.lit (.bool true))) (s ++ [a]) (isMap_put hD _ _) (by
   by_cases e : x = a
   · subst e
     rw [atKey_put_same hD (by simp [WideAt.IsKeyLit])]
     simp
   · rw [atKey_put_other (by intro h; injection h with _ h; exact e h), h]
     simp [e])
  simpa using this
/-- Block b is a map that holds 'true' at just these numbers. -/
def Seen (P : Program) (ti tb : TypeId) (W : World) (b n : Nat) (l : List Int) : Prop := W.ownsMap (H := Unit) P ti (plainElem P tb) b n (seenD l)
section
variable {P : Program} {ti tb tm : TypeId} {W W' : World} {b n : Nat} {l : List Int}
theorem Seen.look (h : Seen P ti tb W b n l) (hi : P.underlying ti = some (.int .i64)) (hb : P.underlying tb = some .bool) (hm : P.underlying tm = some (.map ti tb)) (hz : (zeroValue tb).run P W = .ok (.bool false) W)
 {x : Int} (hx : (Lit.int .i64 x).wf = true) : (Instr.lookup tm (.map (some b)) (.int .i64 x) false).run P W = .ok (.bool (decide (x ∈ l))) W := by
 obtain ⟨v, ps, hrun, hv⟩ := World.ownsMap.lookup h (int_keyed hi) hm hz (plainElem_bool (H := Unit) hb false) (keyOf_int_mk hi hx)
 rw [hrun]
 have e : v = .bool (decide (x ∈ l)) := by
  have hat := seenD_at l x
  unfold plainElem at hv
  rw [hb] at hv
  cases v with
  | bool c =>
   simp only [Option.some.injEq, Prod.mk.injEq] at hv
   have := hv.1
   rw [hat] at this
   injection this with this
   injection this with this
   rw [this]
  | _ => simp at hv
 rw [e]
theorem Seen.mem (h : Seen P ti tb W b n l) : ∃ es c, W.heap[b]? = some (.map es c) := by
 obtain ⟨es, c, hb, _⟩ := h
 exact ⟨es, c, hb⟩
theorem Seen.at_ (h : Seen P ti tb W b n l) (hk : W'.heap[b]? = W.heap[b]?) : Seen P ti tb W' b n l := by
 obtain ⟨es, c, hb, r⟩ := h
 exact ⟨es, c, hk.trans hb, r⟩
end
end Go.Proofs.YtlapjkbefkmohaaGreat
set_option linter.unusedVariables false
namespace Go.Proofs.YtlapjkbefkmohaaGreat
open Go

section
variable {P : Program} {ops : Array Oper} {Q : Exit → Act → World → Prop} {md : Region.Mode} {S : World → Prop} {late : Nat → Bool}
/-- Whatever order is picked from here on; no operation that is not late turns S. -/
def wpLate (P : Program) (md : Region.Mode) (ops : Array Oper) (Q : Exit → Act → World → Prop) (S : World → Prop) (late : Nat → Bool) : Nat → Array Bool → Act → World → Prop
 | 0, listed, a, w => Region.ready md ops listed = [] ∧ Q .normal a w
 | fuel + 1, listed, a, w =>
  (Region.ready md ops listed = [] → Q .normal a w) ∧
  ∀ i ∈ Region.ready md ops listed, wpOp P ops Q i (fun a' w' => (late i = false → S w → S w') ∧ wpLate P md ops Q S late fuel (listed.setIfInBounds i true) a' w') a w
theorem wpAny_of_late : ∀ (fuel : Nat) (listed : Array Bool) (a : Act) (w : World), wpLate P md ops Q S late fuel listed a w → wpAny P md ops Q fuel listed a w
 | 0, _, _, _, h => h
 | fuel + 1, _, _, _, h => ⟨h.1, fun i hi => wpOp_mono (fun a' w' h' => wpAny_of_late fuel _ a' w' h'.2) (h.2 i hi)⟩
/-- Every late operation waits for number i. -/
def waitFor (md : Region.Mode) (ops : Array Oper) (late : Nat → Bool) (i : Nat) : Bool :=
 (List.range ops.size).all fun j => !late j || match ops[j]? with
  | some oj => oj.after.any fun e => Region.binds md e && e.on == i
  | none => true
theorem waitFor_spec {i : Nat} (h : waitFor md ops late i = true) {j : Nat} {oj : Oper} (hj : ops[j]? = some oj) (hno : ∀ e ∈ oj.after, Region.binds md e = true → e.on ≠ i) : late j = false := by
 simp only [waitFor, List.all_eq_true, List.mem_range] at h
 have h1 := h j (Array.getElem?_eq_some_iff.1 hj).1
 simp only [hj, Bool.or_eq_true, Bool.not_eq_true'] at h1
 rcases h1 with h1 | h1
 · exact h1
 · obtain ⟨e, he, hb⟩ := Array.any_eq_true'.1 h1
   simp only [Bool.and_eq_true, beq_iff_eq] at hb
   exact absurd hb.2 (hno e he hb.1)
theorem wpLate_first {i : Nat} {oi : Oper} {v : Value} (hi : ops[i]? = some oi) (hsel : ∀ (j : Nat) (o : Oper) cs b, ops[j]? = some o → o.op ≠ .select cs b)
 (hQ : ∀ c a w, Q (.panic c) (a.put oi.dst v) w → Q (.panic c) a w) (hlate : waitFor md ops late i = true) :
 ∀ (fuel : Nat) (listed : Array Bool) (a : Act) (w : World),
  (∀ j oj, ops[j]? = some oj → j ≠ i → listed.getD j true = false → (∀ e ∈ oj.after, Region.binds md e = true → e.on ≠ i) → oi.apart ops oj = true) →
  i ∈ Region.ready md ops listed → YieldsIf P ops S oi v a → S w →
  wpLate P md ops Q S late fuel (listed.setIfInBounds i true) (a.put oi.dst v) w → wpLate P md ops Q S late (fuel + 1) listed a w := by
 intro fuel
 induction fuel with
 | zero =>
  intro listed a w _ hr hy hS H
  refine ⟨fun h => (by rw [h] at hr; cases hr), fun j hj => ?_⟩
  by_cases hji : j = i
  · subst hji; exact hy.wpOp hi hS ⟨fun _ h => h, H⟩
  · have := ready_mono hj hji
    rw [H.1] at this
    cases this
 | succ fuel ih =>
  intro listed a w hfree hr hy hS H
  refine ⟨fun h => (by rw [h] at hr; cases hr), fun j hj => ?_⟩
  by_cases hji : j = i
  · subst hji; exact hy.wpOp hi hS ⟨fun _ h => h, H⟩
  · have h1 := H.2 j (ready_mono hj hji)
    obtain ⟨hjun, oj, hoj, hall⟩ := mem_ready.1 hj
    have hnot : ∀ e ∈ oj.after, Region.binds md e = true → e.on ≠ i := fun e he hb heq => by
     have h1 := hall e he hb
     have h0 := (mem_ready.1 hr).1
     rw [heq] at h1
     rcases Nat.lt_or_ge i listed.size with h' | h'
     · simp [h'] at h0 h1; rw [h0] at h1; cases h1
     · simp [Array.getElem?_eq_none h'] at h1
    have hjl := waitFor_spec hlate hoj hnot
    have h2 := wpOp_putIf hoj (hfree j oj hoj hji hjun hnot) (fun cs b => hsel i oi cs b hi) (fun cs b => hsel j oj cs b hoj) hQ hy h1
    have hfree' : ∀ k ok, ops[k]? = some ok → k ≠ i → (listed.setIfInBounds j true).getD k true = false →
     (∀ e ∈ ok.after, Region.binds md e = true → e.on ≠ i) → oi.apart ops ok = true := fun k ok hk hki hun hno => by
     refine hfree k ok hk hki ?_ hno
     by_cases hjk : j = k
     · subst hjk; exact hjun
     · rw [getD_set_ne true hjk] at hun; exact hun
    refine wpOp_mono (fun a' w' h3 => ⟨h3.2.1, ih (listed.setIfInBounds j true) a' w' hfree' (ready_mono hr (Ne.symm hji)) h3.1 (h3.2.1 hjl hS) ?_⟩) h2
    rw [Array.setIfInBounds_comm _ _ hji]
    exact h3.2.2
theorem wpLate_first0 {i : Nat} {oi : Oper} {v : Value} (hi : ops[i]? = some oi) (hsel : ∀ (j : Nat) (o : Oper) cs b, ops[j]? = some o → o.op ≠ .select cs b)
 (hQ : ∀ c a w, Q (.panic c) (a.put oi.dst v) w → Q (.panic c) a w) :
 ∀ (fuel : Nat) (listed : Array Bool) (a : Act) (w : World),
  (∀ j oj, ops[j]? = some oj → j ≠ i → listed.getD j true = false → (∀ e ∈ oj.after, Region.binds md e = true → e.on ≠ i) → oi.apart ops oj = true) →
  i ∈ Region.ready md ops listed → YieldsIf P ops (fun _ => True) oi v a →
  wpLate P md ops Q S late fuel (listed.setIfInBounds i true) (a.put oi.dst v) w → wpLate P md ops Q S late (fuel + 1) listed a w := by
 intro fuel
 induction fuel with
 | zero =>
  intro listed a w _ hr hy H
  refine ⟨fun h => (by rw [h] at hr; cases hr), fun j hj => ?_⟩
  by_cases hji : j = i
  · subst hji; exact hy.wpOp hi trivial ⟨fun _ h => h, H⟩
  · have := ready_mono hj hji
    rw [H.1] at this
    cases this
 | succ fuel ih =>
  intro listed a w hfree hr hy H
  refine ⟨fun h => (by rw [h] at hr; cases hr), fun j hj => ?_⟩
  by_cases hji : j = i
  · subst hji; exact hy.wpOp hi trivial ⟨fun _ h => h, H⟩
  · have h1 := H.2 j (ready_mono hj hji)
    obtain ⟨hjun, oj, hoj, hall⟩ := mem_ready.1 hj
    have hnot : ∀ e ∈ oj.after, Region.binds md e = true → e.on ≠ i := fun e he hb heq => by
     have h1 := hall e he hb
     have h0 := (mem_ready.1 hr).1
     rw [heq] at h1
     rcases Nat.lt_or_ge i listed.size with h' | h'
     · simp [h'] at h0 h1; rw [h0] at h1; cases h1
     · simp [Array.getElem?_eq_none h'] at h1
    have h2 := wpOp_putIf hoj (hfree j oj hoj hji hjun hnot) (fun cs b => hsel i oi cs b hi) (fun cs b => hsel j oj cs b hoj) hQ hy h1
    have hfree' : ∀ k ok, ops[k]? = some ok → k ≠ i → (listed.setIfInBounds j true).getD k true = false →
     (∀ e ∈ ok.after, Region.binds md e = true → e.on ≠ i) → oi.apart ops ok = true := fun k ok hk hki hun hno => by
     refine hfree k ok hk hki ?_ hno
     by_cases hjk : j = k
     · subst hjk; exact hjun
     · rw [getD_set_ne true hjk] at hun; exact hun
    refine wpOp_mono (fun a' w' h3 => ⟨h3.2.1, ih (listed.setIfInBounds j true) a' w' hfree' (ready_mono hr (Ne.symm hji)) h3.1 ?_⟩) h2
    rw [Array.setIfInBounds_comm _ _ hji]
    exact h3.2.2
/-- Take number i first. -/
theorem wpLate_take {i : Nat} {oi : Oper} {v : Value} {d : Option Tmp} {fuel : Nat} {listed : Array Bool} {a : Act} {w : World} (hi : ops[i]? = some oi) (hd : oi.dst = d)
 (hs : Region.noSelect ops = true) (hf : Region.free md ops listed i = true) (hr : (Region.ready md ops listed).contains i = true)
 (hlate : waitFor md ops late i = true)
 (hQ : ∀ c a w, Q (.panic c) (a.put d v) w → Q (.panic c) a w) (hg : oi.guard = none) (hy : ∀ w, S w → (execOp a.eval oi).run P w = .ok (.value v) w) (hS : S w)
 (h : wpLate P md ops Q S late fuel (listed.setIfInBounds i true) (a.put d v) w) : wpLate P md ops Q S late (fuel + 1) listed a w :=
 by
 subst hd
 exact wpLate_first hi (Region.noSelect_spec hs) hQ hlate fuel listed a w (Region.free_spec hi hf) (by simpa using hr) (.inl ⟨by simp [Region.wanted, hg], hy⟩) hS h
/-- Take number i first, which hangs on no world. -/
theorem wpLate_take0 {i : Nat} {oi : Oper} {v : Value} {d : Option Tmp} {fuel : Nat} {listed : Array Bool} {a : Act} {w : World} (hi : ops[i]? = some oi) (hd : oi.dst = d)
 (hs : Region.noSelect ops = true) (hf : Region.free md ops listed i = true) (hr : (Region.ready md ops listed).contains i = true)
 (hQ : ∀ c a w, Q (.panic c) (a.put d v) w → Q (.panic c) a w) (hg : oi.guard = none) (hy : ∀ w, (execOp a.eval oi).run P w = .ok (.value v) w)
 (h : wpLate P md ops Q S late fuel (listed.setIfInBounds i true) (a.put d v) w) : wpLate P md ops Q S late (fuel + 1) listed a w :=
 by
 subst hd
 exact wpLate_first0 hi (Region.noSelect_spec hs) hQ fuel listed a w (Region.free_spec hi hf) (by simpa using hr) (.inl ⟨by simp [Region.wanted, hg], fun w _ => hy w⟩) h
/-- Whichever of those that may come up comes up. -/
theorem wpLate_one {i : Nat} {o : Oper} {fuel : Nat} {listed : Array Bool} {a : Act} {w₀ : World} (hr : Region.ready md ops listed = [i]) (ho : ops[i]? = some o) (hg : o.guard = none)
 (h : ∀ K' : Act → World → Prop, (∀ a w, (late i = false → S w₀ → S w) → wpLate P md ops Q S late fuel (listed.setIfInBounds i true) a w → K' a w) → o.wp P a w₀ K' Q) : wpLate P md ops Q S late (fuel + 1) listed a w₀ :=
 ⟨fun h0 => (by rw [hr] at h0; cases h0), fun j hj => by
  rw [hr] at hj
  rw [List.mem_singleton.1 hj]
  refine wpOp_step ho fun K' hK => ?_
  rw [if_pos (by simp [Region.wanted, hg])]
  exact h K' fun a w h1 h2 => hK a w ⟨h1, h2⟩⟩
theorem wpLate_two {i k : Nat} {o o' : Oper} {fuel : Nat} {listed : Array Bool} {a : Act} {w₀ : World} (hr : Region.ready md ops listed = [i, k]) (ho : ops[i]? = some o) (hg : o.guard = none) (ho' : ops[k]? = some o') (hg' : o'.guard = none)
 (h : ∀ K' : Act → World → Prop, (∀ a w, (late i = false → S w₀ → S w) → wpLate P md ops Q S late fuel (listed.setIfInBounds i true) a w → K' a w) → o.wp P a w₀ K' Q)
 (h' : ∀ K' : Act → World → Prop, (∀ a w, (late k = false → S w₀ → S w) → wpLate P md ops Q S late fuel (listed.setIfInBounds k true) a w → K' a w) → o'.wp P a w₀ K' Q) : wpLate P md ops Q S late (fuel + 1) listed a w₀ :=
 ⟨fun h0 => (by rw [hr] at h0; cases h0), fun j hj => by
  rw [hr] at hj
  rcases List.mem_cons.1 hj with hj | hj
  · rw [hj]
    refine wpOp_step ho fun K' hK => ?_
    rw [if_pos (by simp [Region.wanted, hg])]
    exact h K' fun a w h1 h2 => hK a w ⟨h1, h2⟩
  · rw [List.mem_singleton.1 hj]
    refine wpOp_step ho' fun K' hK => ?_
    rw [if_pos (by simp [Region.wanted, hg'])]
    exact h' K' fun a w h1 h2 => hK a w ⟨h1, h2⟩⟩
theorem wpLate_done {listed : Array Bool} {a : Act} {w : World} (hr : Region.ready md ops listed = []) (h : Q .normal a w) : ∀ fuel, wpLate P md ops Q S late fuel listed a w
 | 0 => ⟨hr, h⟩
 | _ + 1 => ⟨fun _ => h, by rw [hr]; simp⟩
theorem wp_region_late {id : Nat} {a : Act} {w : World} (hm : P.follows .mixedOrders = true)
 (h : wpLate P .any ops Q S late ops.size (Array.replicate ops.size false) a w.drew) : (Code.region id ops true).wp P Q a w :=
 wp_region_any hm (wpAny_of_late _ _ _ _ h)
/-- An operation that runs. -/
theorem oper_ran {o : Oper} {a : Act} {w w' : World} {v : Value} {K : Act → World → Prop} (hr : (execOp a.eval o).run P w = .ok (.value v) w') (h : K (a.put o.dst v) w') : o.wp P a w K Q := by
 simp only [Oper.wp, hr, Oper.upon]; exact h
theorem oper_skip {o : Oper} {a : Act} {w w' : World} {K : Act → World → Prop} (hr : (execOp a.eval o).run P w = .ok .skip w') (h : K (a.put o.dst undef) w') : o.wp P a w K Q := by
 simp only [Oper.wp, hr, Oper.upon]; exact h
end
end Go.Proofs.YtlapjkbefkmohaaGreat
set_option linter.unusedVariables false
namespace Go.Proofs.YtlapjkbefkmohaaGreat
open Go Go.RowKit Go.Shelf
/-- An operation that enters a function, which comes back. -/
theorem oper_enter' {P : Program} {Q : Exit → Act → World → Prop} {o : Oper} {a : Act} {w w' : World} {f : FuncId} {args : Array Value} {K : Act → World → Prop} (hr : (execOp a.eval o).run P w = .ok (.enter f args) w')
 (h : Calls P f args w' fun e w'' => ∃ v, e = .returned v ∧ K (a.put o.dst v) w'') : o.wp P a w K Q := by
 simp only [Oper.wp, hr, Oper.upon]
 refine h.mono ?_
 rintro e w'' ⟨v, rfl, hv⟩
 exact hv
end Go.Proofs.YtlapjkbefkmohaaGreat
set_option linter.unusedVariables false
namespace Go.Proofs.YtlapjkbefkmohaaGreat
open Go Go.RowKit Go.Shelf

section
variable {P : Program} {ops : Array Oper} {md : Region.Mode} {C : World → Prop}

end
end Go.Proofs.YtlapjkbefkmohaaGreat
set_option linter.unusedVariables false
namespace Go.Proofs.YtlapjkbefkmohaaGreat
open Go Go.RowKit Go.Shelf
end Go.Proofs.YtlapjkbefkmohaaGreat
