/- A region that draws its order: its first operations are quiet in a class of worlds and all others wait for them; those others stand in one order but for such as only move values. One walk in the text's order serves. Nothing of the program stands here. -/
import Derived.Test.YtkiokdphjfkocaaBase
import Derived.StillTail
import Derived.Deep.Quiet
set_option linter.unusedVariables false
namespace Go.Proofs.Ytkiokdphjfkocaa
open Go Go.RowKit Go.Shelf

section
variable {P : Program} {ops : Array Oper} {md : Region.Mode} {C : World → Prop}

/-- An operation that only moves a value. -/
def plainOp (o : Oper) : Bool := o.guard.isNone && match o.op with
  | .move _ | .assign _ | .extract _ _ => true
  | _ => false
theorem plainOp_yields {Q : Exit → Act → World → Prop} {o : Oper} {a : Act} {w : World} {K : Act → World → Prop} (hp : plainOp o = true)
    (h : o.wp P a w K Q ∨ (o.asks P a w ∧ LetsOut Q)) : ∃ v, (∀ w, (execOp a.eval o).run P w = .ok (.value v) w) ∧ K (a.put o.dst v) w := by
  simp only [plainOp, Bool.and_eq_true] at hp
  obtain ⟨_, hp⟩ := hp
  obtain ⟨d, op, ty, pos, af, gd⟩ := o
  cases op <;> simp only at hp
  all_goals first | (cases hp; done) | skip
  · rename_i x _
    refine ⟨a.eval x, fun w => rfl, ?_⟩
    rcases h with h | ⟨h, _⟩
    · exact h
    · exact absurd (show noRoomEvent ∈ (#[] : Array Event) from h.1) (by simp)
  · rename_i x _
    refine ⟨a.eval x, fun w => rfl, ?_⟩
    rcases h with h | ⟨h, _⟩
    · exact h
    · exact absurd (show noRoomEvent ∈ (#[] : Array Event) from h.1) (by simp)
  · rename_i x i _
    have key : ∀ r : Value, a.eval x = r → (∃ v, Instr.extract r i = pure v) ∨ ∃ m, Instr.extract r i = stuck m := by
      intro r _
      unfold Instr.extract
      split
      · split
        · exact .inl ⟨_, rfl⟩
        · exact .inr ⟨_, rfl⟩
      · exact .inr ⟨_, rfl⟩
    have hex : ∀ af', execOp a.eval { dst := d, op := .extract x i, type := ty, pos := pos, after := af', guard := gd } = (do pure (.value (← Instr.extract (a.eval x) i))) := fun _ => rfl
    rcases key _ rfl with ⟨v, hv⟩ | ⟨m, hm⟩
    · rw [hv] at hex
      refine ⟨v, fun w => by rw [hex]; rfl, ?_⟩
      rcases h with h | ⟨h, _⟩
      · unfold Oper.wp at h
        rw [hex] at h
        exact h
      · have h1 := h.1
        rw [hex] at h1
        exact absurd (show noRoomEvent ∈ (#[] : Array Event) from h1) (by simp)
    · rw [hm] at hex
      rcases h with h | ⟨h, _⟩
      · unfold Oper.wp at h
        rw [hex] at h
        exact h.elim
      · have h1 := h.1
        rw [hex] at h1
        exact absurd (show noRoomEvent ∈ (#[] : Array Event) from h1) (by simp)
/-- Each later one but the first of them waits for another later one. -/
def laterB (md : Region.Mode) (ops : Array Oper) (n : Nat) : Bool :=
  (List.range ops.size).all fun t => decide (t ≤ n) || (List.range t).any fun s => decide (n ≤ s) && Region.waitsFor md ops t s
theorem later_waits {n : Nat} {listed : Array Bool} (hs : Region.sinkB md ops n = true) (hl : laterB md ops n = true) (hn : n < ops.size) (inv : HeadInv md ops n listed) {i : Nat} (hi : i < n) (hu : listed.getD i true = false) :
    ∀ t, n ≤ t → t ∉ Region.ready md ops listed := by
  -- some head operation that the first later one waits for, by way of others, is not done
  have key : ∀ d i, n - i = d → i < n → listed.getD i true = false → ∃ o e, ops[n]? = some o ∧ e ∈ o.after ∧ Region.binds md e = true ∧ listed.getD e.on false = false := by
    intro d
    induction d using Nat.strongRecOn with
    | _ d ih =>
      intro i hd hin hu
      obtain ⟨j, hj, hj2⟩ := List.any_eq_true.1 (List.all_eq_true.1 hs i (List.mem_range.2 hin))
      simp only [Bool.and_eq_true, decide_eq_true_eq] at hj2
      have hjn := List.mem_range.1 hj
      obtain ⟨oj, hoj, e, he, hb, hon⟩ := Region.waitsFor_spec hj2.2
      have hu' : listed.getD e.on false = false := by rw [hon]; exact getD_both hu
      by_cases hjt : j = n
      · subst hjt; exact ⟨oj, e, hoj, he, hb, hu'⟩
      · refine ih (n - j) (by omega) j rfl (by omega) ?_
        cases hlj : listed.getD j false with
        | false => exact getD_in (by rw [inv.size]; omega) hlj
        | true => rw [inv.closed j oj hoj hlj e he hb] at hu'; cases hu'
  intro t ht hr
  obtain ⟨hut, ot, hot, hall⟩ := mem_ready.1 hr
  by_cases htn : t = n
  · subst htn
    obtain ⟨o, e, ho, he, hb, hf⟩ := key _ i rfl hi hu
    rw [hot] at ho
    injection ho with ho
    subst ho
    rw [hall e he hb] at hf
    cases hf
  · have htl : t < ops.size := (Array.getElem?_eq_some_iff.1 hot).1
    have h1 := List.all_eq_true.1 hl t (List.mem_range.2 htl)
    simp only [Bool.or_eq_true, decide_eq_true_eq] at h1
    rcases h1 with h1 | h1
    · omega
    · obtain ⟨s, hs1, hs2⟩ := List.any_eq_true.1 h1
      simp only [Bool.and_eq_true, decide_eq_true_eq] at hs2
      have hst := List.mem_range.1 hs1
      obtain ⟨o', ho', e, he, hb, hon⟩ := Region.waitsFor_spec hs2.2
      rw [hot] at ho'
      injection ho' with ho'
      subst ho'
      have h2 := hall e he hb
      rw [hon, getD_both (inv.tail s hs2.1 (by omega))] at h2
      cases h2
/-- Whatever order of the head is picked; L behind it. -/
def headAny (P : Program) (md : Region.Mode) (ops : Array Oper) (C : World → Prop) (n : Nat) (L : Array Bool → Act → Prop) : Nat → Array Bool → Act → Prop
  | 0, listed, a => L listed a
  | f + 1, listed, a => Region.ready md ops listed ≠ [] ∧ ∀ i ∈ Region.ready md ops listed, i < n ∧ qOp P ops C i (headAny P md ops C n L f (listed.setIfInBounds i true)) a
theorem wpAny_of_headAny {n g : Nat} {L : Array Bool → Act → Prop} {Q : Exit → Act → World → Prop} (hL : ∀ listed a w, C w → L listed a → wpAny P md ops Q g listed a w) :
    ∀ (f : Nat) (listed : Array Bool) (a : Act) (w : World), C w → headAny P md ops C n L f listed a → wpAny P md ops Q (f + g) listed a w
  | 0, _, _, w, hw, h => by rw [Nat.zero_add]; exact hL _ _ w hw h
  | f + 1, _, _, w, hw, h => by
    rw [Nat.add_right_comm]
    exact ⟨fun h0 => absurd h0 h.1, fun i hi => wpOp_of_qOp hw (fun a' w' hw' h' => wpAny_of_headAny hL f _ a' w' hw' h') (h.2 i hi).2⟩
theorem headAny_first {n i : Nat} {oi : Oper} {v : Value} {L : Array Bool → Act → Prop} (hi : ops[i]? = some oi) (hsel : Region.noSelect ops = true)
    (hs : Region.sinkB md ops n = true) (hl : laterB md ops n = true) (hn : n < ops.size) (hin : i < n) (hL : ∀ listed a, L listed a → ∀ j ∈ Region.ready md ops listed, n ≤ j) :
    ∀ (f : Nat) (listed : Array Bool) (a : Act), HeadInv md ops n listed →
      (∀ j oj, ops[j]? = some oj → j ≠ i → listed.getD j true = false → (∀ e ∈ oj.after, Region.binds md e = true → e.on ≠ i) → oi.apart ops oj = true) →
      i ∈ Region.ready md ops listed → YieldsIn P ops C oi v a → headAny P md ops C n L f (listed.setIfInBounds i true) (a.put oi.dst v) → headAny P md ops C n L (f + 1) listed a := by
  intro f
  induction f with
  | zero =>
    intro listed a inv _ hr hy H
    refine ⟨List.ne_nil_of_mem hr, fun j hj => ?_⟩
    have hjn : j < n := Nat.lt_of_not_le fun h => later_waits hs hl hn inv hin (mem_ready.1 hr).1 j h hj
    by_cases hji : j = i
    · subst hji; exact ⟨hjn, hy.qOp hi H⟩
    · have := hL _ _ H j (ready_mono hj hji)
      omega
  | succ f ih =>
    intro listed a inv hfree hr hy H
    refine ⟨List.ne_nil_of_mem hr, fun j hj => ?_⟩
    have hjn : j < n := Nat.lt_of_not_le fun h => later_waits hs hl hn inv hin (mem_ready.1 hr).1 j h hj
    refine ⟨hjn, ?_⟩
    by_cases hji : j = i
    · subst hji; exact hy.qOp hi H
    obtain ⟨hju, oj, hoj, hall⟩ := mem_ready.1 hj
    have hno : ∀ e ∈ oj.after, Region.binds md e = true → e.on ≠ i := fun e he hb heq => by
      have h1 := hall e he hb
      rw [heq, getD_both (mem_ready.1 hr).1] at h1
      cases h1
    have h2 := qOp_put hoj (hfree j oj hoj hji hju hno) (fun cs b => Region.noSelect_spec hsel i oi cs b hi) (fun cs b => Region.noSelect_spec hsel j oj cs b hoj) hy (H.2 j (ready_mono hj hji)).2
    refine qOp_mono (fun a' h3 => ih _ a' (inv.set hj hjn) (fun k ok hk hki hun hno' => hfree k ok hk hki ?_ hno') (ready_mono hr (Ne.symm hji)) h3.1 (by rw [Array.setIfInBounds_comm _ _ hji]; exact h3.2)) h2
    by_cases hjk : j = k
    · subst hjk; exact hju
    · rw [getD_set_ne true hjk] at hun; exact hun
/-- Behind the head: each is the only one that may come, or one that only moves a value and may be taken first. -/
def tailSeq (md : Region.Mode) (ops : Array Oper) : Nat → Nat → Array Bool → Bool
  | 0, _, listed => (Region.ready md ops listed).isEmpty
  | g + 1, k, listed => (decide (Region.ready md ops listed = [k]) || ((match ops[k]? with | some o => plainOp o | none => false) && Region.free md ops listed k && (Region.ready md ops listed).contains k)) && tailSeq md ops g (k + 1) (listed.setIfInBounds k true)
theorem tailSeq_ready : ∀ {g k : Nat} {listed : Array Bool}, listed.getD k true = listed.getD k true → tailSeq md ops g k listed = true → (∀ j, j < k → listed.getD j true = true) → ∀ j ∈ Region.ready md ops listed, k ≤ j := by
  intro g k listed _ _ hd j hj
  rcases Nat.lt_or_ge j k with h | h
  · have := (mem_ready.1 hj).1
    rw [hd j h] at this
    cases this
  · exact h
theorem wpAny_of_tail {Q : Exit → Act → World → Prop} (hsel : Region.noSelect ops = true) (hQ : ∀ c a w d v, Q (.panic c) (Act.put a d v) w → Q (.panic c) a w) :
    ∀ (l : List Oper) (k : Nat) (listed : Array Bool) (a : Act) (w : World), (∀ j, l[j]? = ops[k + j]?) → tailSeq md ops l.length k listed = true → wpList P ops Q l a w → wpAny P md ops Q l.length listed a w
  | [], _, _, _, _, _, hB, h => ⟨by simpa [tailSeq] using hB, h⟩
  | o :: l, k, listed, a, w, hl, hB, h => by
    have h0 : ops[k]? = some o := by simpa using (hl 0).symm
    have hl' : ∀ j, l[j]? = ops[k + 1 + j]? := fun j => by have := hl (j + 1); simpa [Nat.add_assoc, Nat.add_comm 1 j] using this
    simp only [List.length_cons, tailSeq, Bool.and_eq_true, Bool.or_eq_true, decide_eq_true_eq, h0] at hB
    obtain ⟨hB1, hB2⟩ := hB
    rcases hB1 with hr | ⟨⟨hp, hf⟩, hr⟩
    · refine ⟨fun h1 => (by rw [hr] at h1; cases h1), fun i hi => ?_⟩
      rw [hr] at hi
      rw [List.mem_singleton.1 hi]
      have hw : wpOp P ops Q k (wpList P ops Q l) a w := by unfold wpOp; simp only [h0]; exact h
      exact wpOp_mono (fun a' w' h' => wpAny_of_tail hsel hQ l (k + 1) _ a' w' hl' hB2 h') hw
    · have hwant : Region.wanted o (yielded ops a.tmps) = true := by
        have : o.guard = none := by
          simp only [plainOp, Bool.and_eq_true, Option.isNone_iff_eq_none] at hp
          exact hp.1
        simp [Region.wanted, this]
      have h1 : o.wp P a w (wpList P ops Q l) Q ∨ (o.asks P a w ∧ LetsOut Q) := by
        have h2 : if Region.wanted o (yielded ops a.tmps) then o.wp P a w (wpList P ops Q l) Q ∨ (o.asks P a w ∧ LetsOut Q) else wpList P ops Q l (a.put o.dst undef) w := h
        rwa [if_pos hwant] at h2
      obtain ⟨v, hv, hK⟩ := plainOp_yields hp h1
      exact wpAny_take h0 hsel hf hr (fun c a w => hQ c a w _ _) (.inl ⟨hwant, hv⟩) (wpAny_of_tail hsel hQ l (k + 1) _ _ w hl' hB2 hK)
def headLex (md : Region.Mode) (ops : Array Oper) (g : Nat) : Nat → Nat → Array Bool → Bool
  | 0, k, listed => tailSeq md ops g k listed && (List.range k).all fun j => listed.getD j true
  | f + 1, k, listed => (Region.ready md ops listed).contains k && Region.free md ops listed k && headLex md ops g f (k + 1) (listed.setIfInBounds k true)
theorem headAny_lex {n g : Nat} {L : Act → Prop} (hsel : Region.noSelect ops = true) (hs : Region.sinkB md ops n = true) (hl : laterB md ops n = true) (hn : n < ops.size) :
    ∀ (l : List Oper) (k : Nat) (listed : Array Bool) (a : Act), (∀ j, j < l.length → l[j]? = ops[k + j]?) → k + l.length = n → HeadInv md ops n listed → headLex md ops g l.length k listed = true →
      wpQuiet P ops C L l a → headAny P md ops C n (fun listed' a' => (tailSeq md ops g n listed' = true ∧ ∀ j, j < n → listed'.getD j true = true) ∧ L a') l.length listed a
  | [], k, listed, a, _, hk, _, hB, h => by
    obtain rfl : k = n := by simpa using hk
    simp only [List.length_nil, headLex, Bool.and_eq_true, List.all_eq_true, List.mem_range] at hB
    exact ⟨hB, h⟩
  | o :: l, k, listed, a, hlj, hk, inv, hB, h => by
    have h0 : ops[k]? = some o := by simpa using (hlj 0 (by simp)).symm
    simp only [List.length_cons, headLex, Bool.and_eq_true] at hB
    obtain ⟨⟨hr, hf⟩, hB'⟩ := hB
    have hkn : k < n := by simp only [List.length_cons] at hk; omega
    have hr' : k ∈ Region.ready md ops listed := by simpa using hr
    have hq : qOp P ops C k (wpQuiet P ops C L l) a := by unfold qOp; simp only [h0]; exact h
    obtain ⟨v, hy, hK⟩ := yieldsIn_of_qOp h0 hq
    exact headAny_first h0 hsel hs hl hn hkn (fun listed' a' hL => tailSeq_ready rfl hL.1.1 hL.1.2) l.length listed a inv (Region.free_spec h0 hf) hr' hy
      (headAny_lex hsel hs hl hn l (k + 1) _ _ (fun j hj => by have := hlj (j + 1) (by simp; omega); simpa [Nat.add_assoc, Nat.add_comm 1 j] using this) (by simp only [List.length_cons] at hk; omega) (inv.set hr' hkn) hB' hK)
def qtailB (md : Region.Mode) (ops : Array Oper) (n : Nat) : Bool :=
  Region.noSelect ops && decide (n < ops.size) && Region.sinkB md ops n && laterB md ops n && headLex md ops (ops.size - n) n 0 (Array.replicate ops.size false)
/-- The law. -/
theorem wp_region_qtail {id : Nat} {Q : Exit → Act → World → Prop} {a : Act} {w : World} {l : List Oper} (n : Nat) (hm : P.follows .mixedOrders = true) (hB : qtailB .any l.toArray n = true) (hQ : ∀ c a w d v, Q (.panic c) (Act.put a d v) w → Q (.panic c) a w)
    (hC : C { w with drawn := w.drawn + 1 }) (h : wpQuiet P l.toArray C (fun a' => ∀ w', C w' → wpList P l.toArray Q (l.drop n) a' w') (l.take n) a) : (Code.region id l.toArray true).wp P Q a w := by
  simp only [qtailB, Bool.and_eq_true, decide_eq_true_eq] at hB
  obtain ⟨⟨⟨⟨hsel, hn⟩, hs⟩, hl⟩, hlex⟩ := hB
  have hn' : n < l.length := by simpa using hn
  have htl : (l.take n).length = n := by simp; omega
  have hdl : (l.drop n).length = l.toArray.size - n := by simp
  have inv0 : HeadInv .any l.toArray n (Array.replicate l.toArray.size false) :=
    ⟨by simp, fun j oj _ hl => (by rw [getD_replicate_false] at hl; cases hl), fun t _ ht => getD_in (by simpa using ht) (getD_replicate_false _ _)⟩
  have H := headAny_lex (md := .any) (g := l.toArray.size - n) hsel hs hl hn (l.take n) 0 _ a (fun j hj => by
    have hj' : j < n := by rw [htl] at hj; exact hj
    simp [hj']) (by simpa using htl) inv0 (by rw [htl]; exact hlex) h
  refine wp_region_any hm ?_
  have := wpAny_of_headAny (Q := Q) (g := l.toArray.size - n) (fun listed a' w' hw' hL => by
    have := wpAny_of_tail (md := .any) (Q := Q) hsel hQ (l.drop n) n listed a' w' (fun j => by simp [List.getElem?_drop]) (by rw [hdl]; exact hL.1.1) (hL.2 w' hw')
    rwa [hdl] at this) _ _ _ _ hC H
  rw [htl, show n + (l.toArray.size - n) = l.toArray.size by omega] at this
  exact this
/-- At the worlds in which all that lay in w lies as it lay. -/
theorem wp_region_ext_tail {id : Nat} {Q : Exit → Act → World → Prop} {a : Act} {w : World} {l : List Oper} (n : Nat) (hm : P.follows .mixedOrders = true) (hB : qtailB .any l.toArray n = true) (hQ : ∀ c a w d v, Q (.panic c) (Act.put a d v) w → Q (.panic c) a w)
    (h : wpQuiet P l.toArray (fun w' => ∃ p : Ext w, w' = p.world) (fun a' => ∀ w', (∃ p : Ext w, w' = p.world) → wpList P l.toArray Q (l.drop n) a' w') (l.take n) a) : (Code.region id l.toArray true).wp P Q a w :=
  wp_region_qtail (C := fun w' => ∃ p : Ext w, w' = p.world) n hm hB hQ ⟨⟨w.drew, (Below.refl _ _).drew⟩, rfl⟩ h
end
end Go.Proofs.Ytkiokdphjfkocaa
