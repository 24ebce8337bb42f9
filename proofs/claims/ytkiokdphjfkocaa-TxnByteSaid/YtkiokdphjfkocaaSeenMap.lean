/- A map from numbers to truth values that a call makes and fills with 'true': what a look-up tells. Nothing of the program stands here. -/
import Derived.Test.YtkiokdphjfkocaaMem
import Derived.Maps.OwnIn
import Derived.Maps.Views
set_option linter.unusedVariables false
namespace Go.Proofs.Ytkiokdphjfkocaa
open Go.RowKit Go.Shelf Go.Maps
def seenD (l : List Int) : DataW Unit := l.foldl (fun D x => D.put (.int .i64 x) (.lit (.bool true))) (.map [])
theorem seenD_snoc (l : List Int) (x : Int) : seenD (l ++ [x]) = (seenD l).put (.int .i64 x) (.lit (.bool true)) := by simp [seenD]
theorem isMap_put {D : DataW Unit} (h : IsMap D) (k : Lit) (d : DataW Unit) : IsMap (D.put k d) := by
  obtain ⟨es, rfl⟩ := h
  exact ⟨_, rfl⟩
theorem seenD_map (l : List Int) : IsMap (seenD l) := by
  suffices h : ∀ (l : List Int) (D : DataW Unit), IsMap D → IsMap (l.foldl (fun D x => D.put (.int .i64 x) (.lit (.bool true))) D) from h l _ isMap_empty
  intro l
  induction l with
  | nil => intro D h; exact h
  | cons a l ih => intro D h; exact ih _ (isMap_put h _ _)
theorem seenD_at (l : List Int) (x : Int) : (seenD l).atKey (.int .i64 x) (.lit (.bool false)) = .lit (.bool (decide (x ∈ l))) := by
  suffices h : ∀ (l : List Int) (D : DataW Unit) (s : List Int), IsMap D → D.atKey (.int .i64 x) (.lit (.bool false)) = .lit (.bool (decide (x ∈ s))) →
      (l.foldl (fun D x => D.put (.int .i64 x) (.lit (.bool true))) D).atKey (.int .i64 x) (.lit (.bool false)) = .lit (.bool (decide (x ∈ s ++ l))) by
    have := h l (.map []) [] isMap_empty (by simp [DataW.atKey])
    unfold seenD
    simpa using this
  intro l
  induction l with
  | nil => intro D s _ h; simpa using h
  | cons a l ih =>
    intro D s hD h
    have := ih (D.put (.int .i64 a) (.lit (.bool true))) (s ++ [a]) (isMap_put hD _ _) (by
      by_cases e : x = a
      · subst e
        rw [atKey_put_same hD (by simp [WideAt.IsKeyLit])]
        simp
      · rw [atKey_put_other (by intro h; injection h with _ h; exact e h), h]
        simp [e])
    simpa using this
/-- Block b is a map that holds 'true' at just these numbers. -/
def Seen (P : Program) (ti tb : TypeId) (W : World) (b n : Nat) (l : List Int) : Prop := W.ownsMap (H := Unit) P ti (plainElem P tb) b n (seenD l)
section
variable {P : Program} {ti tb tm : TypeId} {W W' : World} {b n : Nat} {l : List Int}
theorem Seen.look (h : Seen P ti tb W b n l) (hi : P.underlying ti = some (.int .i64)) (hb : P.underlying tb = some .bool) (hm : P.underlying tm = some (.map ti tb)) (hz : (zeroValue tb).run P W = .ok (.bool false) W)
    {x : Int} (hx : (Lit.int .i64 x).wf = true) : (Instr.lookup tm (.map (some b)) (.int .i64 x) false).run P W = .ok (.bool (decide (x ∈ l))) W := by
  obtain ⟨v, ps, hrun, hv⟩ := World.ownsMap.lookup h (int_keyed hi) hm hz (plainElem_bool (H := Unit) hb false) (keyOf_int_mk hi hx)
  rw [hrun]
  have e : v = .bool (decide (x ∈ l)) := by
    have hat := seenD_at l x
    unfold plainElem at hv
    rw [hb] at hv
    cases v with
    | bool c =>
      simp only [Option.some.injEq, Prod.mk.injEq] at hv
      have := hv.1
      rw [hat] at this
      injection this with this
      injection this with this
      rw [this]
    | _ => simp at hv
  rw [e]
theorem Seen.mem (h : Seen P ti tb W b n l) : ∃ es c, W.heap[b]? = some (.map es c) := by
  obtain ⟨es, c, hb, _⟩ := h
  exact ⟨es, c, hb⟩
theorem Seen.at_ (h : Seen P ti tb W b n l) (hk : W'.heap[b]? = W.heap[b]?) : Seen P ti tb W' b n l := by
  obtain ⟨es, c, hb, r⟩ := h
  exact ⟨es, c, hk.trans hb, r⟩
end
end Go.Proofs.Ytkiokdphjfkocaa
