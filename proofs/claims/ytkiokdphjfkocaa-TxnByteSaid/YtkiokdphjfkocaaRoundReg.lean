/- A region in a round of a loop over an iterator: what is proved of it as everywhere holds there, too, where it defers nothing. Nothing of the program stands here. -/
import Derived.Test.YtkiokdphjfkocaaBase
import Derived.Test.YtkiokdphjfkocaaLate
import Derived.TacticsIn
import Derived.RangeFuncCalls
set_option linter.unusedVariables false
namespace Go.Proofs.Ytkiokdphjfkocaa
open Go Go.RowKit Go.Shelf
def noDefer (ops : Array Oper) : Bool := ops.all fun o => match o.op with
  | .defer _ => false
  | _ => true
theorem noDefer_spec {ops : Array Oper} (h : noDefer ops = true) {i : Nat} {o : Oper} (ho : ops[i]? = some o) : ∀ c, o.op ≠ .defer c := by
  intro c e
  have := Array.all_eq_true'.1 h o (Array.mem_of_getElem? ho)
  rw [e] at this
  cases this
theorem wpOpsIn_of_wpOps {n l0 : Nat} {P : Program} {ops : Array Oper} {Q : Exit → Act → World → Prop} (hno : noDefer ops = true) (hQ : ¬ LetsOut Q) :
    ∀ (l : List Nat) (a : Act) (w : World), wpOps P ops Q l a w → wpOpsIn (Fence.wide.inRound l0) n P ops Q l a w := by
  intro l
  induction l with
  | nil => intro a w h; exact h
  | cons i rest ih =>
    intro a w h
    unfold wpOps at h
    unfold wpOpsIn
    cases ho : ops[i]? with
    | none => rw [ho] at h; exact ih _ _ h
    | some o =>
      rw [ho] at h
      simp only at h ⊢
      have hd : ∀ c, o.op ≠ .defer c := noDefer_spec hno ho
      split
      · rename_i hw
        rw [if_pos hw] at h
        rcases h with h | ⟨_, h⟩
        · refine ⟨fun _ _ => trivial, ?_⟩
          have e : o.semAt (Fence.wide.inRound l0).round a.eval = execOp a.eval o := Oper.semAt_some l0 a.eval o hd
          rw [e]
          unfold Oper.wp at h
          generalize (execOp a.eval o).run P w = r at *
          cases r with
          | ok x w' =>
            cases x with
            | value v => exact ih _ _ h
            | skip => exact ih _ _ h
            | defer d => exact ih _ _ h
            | enter f args =>
              refine ⟨fun hs => (by cases hs), CallsIn.inRound l0 (callsIn_wide.2 (Calls.mono h fun e w'' he => ?_))⟩
              cases e with
              | returned v => exact ih _ _ he
              | panicked c => exact he
              | outgrown => exact he
            | row row args =>
              refine ⟨fun hs => (by cases hs), fun c cs _ => ?_⟩
              obtain ⟨v, w'', hv, hs⟩ := h c cs
              exact ⟨v, w'', ih _ _ hv, stepsIn_wide.2 hs⟩
            | round _ _ _ _ _ => exact h.elim
            | _ => exact h.elim
          | halt x w' =>
            cases x <;> first | exact h | exact h.elim
        · exact absurd h hQ
      · rename_i hw
        rw [if_neg hw] at h
        exact ⟨fun _ _ => trivial, ih _ _ h⟩
theorem wpIn_region_any_round {n l0 id : Nat} {P : Program} {ops : Array Oper} {Q : Exit → Act → World → Prop} {a : Act} {w : World} (hm : P.follows .mixedOrders = true) (hno : noDefer ops = true) (hQ : ¬ LetsOut Q)
    (h : wpAny P .any ops Q ops.size (Array.replicate ops.size false) a { w with drawn := w.drawn + 1 }) : (Code.region id ops true).wpIn (Fence.wide.inRound l0) n P Q a w :=
  wpIn_region_draw fun t => by
    simp only [Region.schedule, hm, Bool.true_or, if_true]
    exact wpOpsIn_of_wpOps hno hQ _ a _ (wpAny_sound ops.size t _ a _ h)
/-- An operation that enters a function, which comes back. -/
theorem oper_enter' {P : Program} {Q : Exit → Act → World → Prop} {o : Oper} {a : Act} {w w' : World} {f : FuncId} {args : Array Value} {K : Act → World → Prop} (hr : (execOp a.eval o).run P w = .ok (.enter f args) w')
    (h : Calls P f args w' fun e w'' => ∃ v, e = .returned v ∧ K (a.put o.dst v) w'') : o.wp P a w K Q := by
  simp only [Oper.wp, hr, Oper.upon]
  refine h.mono ?_
  rintro e w'' ⟨v, rfl, hv⟩
  exact hv
theorem ownsRow_from {W W' : World} {row : Option Nat} {B base size n c g : Nat} {e : TypeId} {xs : List Value} (h : W.ownsRow base e size (.slice (some ⟨g, 0, none⟩) n c) n xs) (hy : W.grownBy W' row)
    (hr : ∀ r, row = some r → B ≤ r ∧ ∃ o : Obj, W.heap[r]? = some o ∧ o.isCells = false) : W'.ownsRow base e size (.slice (some ⟨g, 0, none⟩) n c) n xs := by
  refine h.kept hy (.inr fun e' => ?_)
  obtain ⟨_, o, ho, hc⟩ := hr g e'.symm
  rcases h.2 with ⟨h', _⟩ | ⟨g', cap', cur, h', _, hg, _⟩
  · cases h'
  · injection h' with h'
    injection h' with h'
    injection h' with h'
    subst h'
    rw [hg] at ho
    cases ho
    cases hc
theorem ownsRow_below {W W' : World} {base size n g c : Nat} {e : TypeId} {xs : List Value} (h : W.ownsRow base e size (.slice (some ⟨g, 0, none⟩) n c) n xs) (hb : Below W.heap.size W W') : W'.ownsRow base e size (.slice (some ⟨g, 0, none⟩) n c) n xs :=
  h.kept (row := none) ⟨hb.os, hb.tape, hb.output, hb.size, fun k hk _ => hb.block k hk⟩ (.inr (by simp [Value.ownBlock]))
theorem ownsRow_ne {W : World} {base size n g c k : Nat} {e t : TypeId} {xs : List Value} {cs : Array Value} (h : W.ownsRow base e size (.slice (some ⟨g, 0, none⟩) n c) n xs) (hb : Blk W k t cs) (hne : t ≠ e) : k ≠ g := by
  rintro rfl
  rcases h.2 with ⟨h', _⟩ | ⟨g', cap', cur, h', _, hg, _⟩
  · cases h'
  · injection h' with h'
    injection h' with h'
    injection h' with h'
    subst h'
    rw [show W.heap[k]? = _ from hb] at hg
    injection hg with hg
    injection hg with _ hg
    exact hne hg
theorem not_lets {P : Prop} (h : P → False) : ¬ P := h
end Go.Proofs.Ytkiokdphjfkocaa
