/- A loop over an iterator that writes one block of the caller's, too: the caller's facts bear that block's turns. -/
import Derived.Test.YtplgmlcoeehnfaaGreatPuRanges
import Derived.RangeFuncNested
import Derived.RangeFuncBox
import Derived.OwnWalkIn
set_option linter.unusedVariables false
namespace Go.Proofs.YtplgmlcoeehnfaaGreat
open Go.RowKit Go.Shelf
/-- Facts that bear whatever befalls block G. -/
def GrowG {β : Type} (G : Nat) (I : β → World → Prop) : Prop := ∀ s X Y, I s X → X.grownBy Y (some G) → I s Y
def SeqG {α : Type} (c G : Nat) (F : Fence) (n : Nat) (P : Program) (g : Nat) (lb : Array Value) (encs : α → Array Value) (Kp : World → World → Prop) (S : List α → World → Prop) (Sp : List α → Prop) (N : Nat) (w : World) : Prop :=
  ∀ (l : Nat) (J Jx : List α → World → Prop) (W : World), Below w.heap.size w W → OwnFrom W.heap.size J → OwnFrom W.heap.size Jx → GrowG G J → GrowG G Jx →
    (∀ pre x W1, J pre W1 → pre.length < N → W.heap.size + c ≤ W1.heap.size → YieldAt F (n - 1) P l (encs x) W1 fun e W' =>
      (e = .returned (.bool true) ∧ J (pre ++ [x]) W' ∧ KeepsFrom W.heap.size W1 W' ∧ StaysC W.heap.size c W1 W' ∧ Kp W1 W') ∨ (e = .returned (.bool false) ∧ Jx (pre ++ [x]) W' ∧ KeepsFrom W.heap.size W1 W')) →
    J [] W →
    CallsIn F n P g (#[.func (.yield l) #[] #[]] ++ lb) W fun e W' => (∃ v, e = .returned v) ∧ ((∃ xs, S xs W' ∧ J xs W') ∨ (∃ pre, Sp pre ∧ Jx pre W'))
theorem range_g {cn G : Nat} {F : Fence} {n : Nat} {P : Program} {α : Type} {g : Operand} {ps : Array Tmp} {assign body : Code} {Q : Exit → Act → World → Prop} {a : Act} {w : World}
    (hro : F.round = none) (h1 : 1 ≤ n) {gf : Nat} {lb : Array Value} (hg : a.eval g = .func (.func gf) #[] lb) (hFg : F.fn gf) (eg : ∀ args w, (callFunc gf args).run P w = .ok (.enter gf args) w)
    {encs : α → Array Value} {Kp : World → World → Prop} {S : List α → World → Prop} {Sp : List α → Prop} {N : Nat} {w0 : World} (hseq : SeqG cn G F (n - 1) P gf lb encs Kp S Sp N w0)
    (hKt : ∀ {A B C : World}, Kp A B → Kp B C → Kp A C) (hKb : ∀ (W : World) (l : Nat) (o o' : Obj), w.heap.size ≤ l → W.heap[l]? = some o → o.isCells = false → o.isWalk = false → Kp W (W.putObj l o')) (hb0 : Below w0.heap.size w0 w) (hps : ∀ x, (encs x).size = ps.size)
    (I : List α → World → Prop) (Ix : Code → List α → World → Prop) (hI : OwnFrom w.heap.size I) (hIx : ∀ c, OwnFrom w.heap.size (Ix c)) (h0 : I [] w) (hG : G < w.heap.size) (hIG : GrowG G I) (hIxG : ∀ c, GrowG G (Ix c)) (hSO : OwnFrom w.heap.size S) (Ax : α → Act → World → Prop) (hAx : ∀ x a', OwnFrom w.heap.size (fun (_ : Unit) W => Ax x a' W))
    (hassign : ∀ (l : Nat) (pre : List α) (x : α) (W : World) (K : Act → World → Prop), I pre W → (∀ a' W', KeepsFrom w.heap.size W W' → StaysC (w.heap.size + 2) cn W W' → Kp W W' → I pre W' → Ax x a' W' → K a' W') →
      assign.wpIn (F.inRound l) (n - 1 - 1) P (Exit.then K (fun _ _ _ => False)) { tmps := (ps.zip (encs x)).foldl (fun t (p, v) => t.setIfInBounds p v) a.tmps, defers := [] } W)
    (hbody : ∀ (l : Nat) (pre : List α) (x : α) (a' : Act) (W : World), I pre W → Ax x a' W → pre.length < N → w.heap.size + 2 + cn ≤ W.heap.size → body.wpIn (F.inRound l) (n - 1 - 1) P (ownPostG w.heap.size (fun A B => StaysC (w.heap.size + 2) cn A B ∧ Kp A B) I Ix (pre ++ [x]) W) a' W)
    (hdone : ∀ (D : Nat) (xs : List α) (W : World), w.heap.size ≤ D → S xs W → I xs W → W.heap[D]? = some (.deferred (some [])) → Q .normal { a with defers := { target := .collected D, args := #[] } :: a.defers } W)
    (hstop : ∀ (D : Nat) (c : Code) (pre : List α) (W : World), w.heap.size ≤ D → Sp pre → Ix c pre W → W.heap[D]? = some (.deferred (some [])) → c.wpIn F n P Q { a with defers := { target := .collected D, args := #[] } :: a.defers } W) :
    (Code.rangeFunc g ps assign body).wpIn F n P Q a w := by
  refine wpIn_rangeFunc ?_
  intro fn hfn
  rw [hro]
  obtain ⟨rec, hrec⟩ : ∃ rec : LoopState → Option Code → Loop, rec = fun st pe => { state := st, pending := pe, fn, tmps := a.tmps, params := ps, assign, body, defers := w.heap.size } := ⟨_, rfl⟩
  obtain ⟨V, hV⟩ : ∃ V, (w.alloc (.deferred (some []))).alloc (.loop (rec .ready none)) = V := ⟨_, rfl⟩
  have hVs : V.heap.size = w.heap.size + 1 + 1 := by rw [← hV]; simp
  have hVl : V.heap[w.heap.size + 1]? = some (.loop (rec .ready none)) := by
    have := World.alloc_heap_new (w.alloc (.deferred (some []))) (.loop (rec .ready none)); rwa [World.size_alloc, hV] at this
  have hVd : V.heap[w.heap.size]? = some (.deferred (some [])) := by
    rw [← hV]; exact (Below.heap_alloc _ _ _ (by simp)).trans (World.alloc_heap_new w _)
  have hVI : I [] V := by rw [← hV]; exact hI.alloc _ (hI.alloc _ h0)
  have hVb : Below w0.heap.size w0 V := by
    rw [← hV]; exact hb0.trans ((((Below.refl _ w).alloc (Nat.le_refl _) _).alloc (by simp) _).mono hb0.size)
  have two : ∀ (o : Obj), OwnFrom V.heap.size (fun (_ : List α) W => W.heap[w.heap.size + 1]? = some o ∧ W.heap[w.heap.size]? = some (.deferred (some []))) := fun o s X Y row hs hy hr =>
    ⟨grown_lower hy hr (by omega) hs.1, grown_lower hy hr (by omega) hs.2⟩
  have up : ∀ {β : Type} {I : β → World → Prop}, OwnFrom w.heap.size I → OwnFrom V.heap.size I := fun h s X Y row hs hy hr => h s X Y row hs hy (fun r e => ⟨by have := (hr r e).1; omega, (hr r e).2⟩)
  have g1 : ∀ {X Y : World} (o : Obj), X.heap[w.heap.size + 1]? = some o → X.grownBy Y (some G) → Y.heap[w.heap.size + 1]? = some o := fun o hx hy => (hy.block _ (Array.getElem?_eq_some_iff.1 hx).1 (by intro e; injection e with e; omega)).trans hx
  have g2 : ∀ {X Y : World} (o : Obj), X.heap[w.heap.size]? = some o → X.grownBy Y (some G) → Y.heap[w.heap.size]? = some o := fun o hx hy => (hy.block _ (Array.getElem?_eq_some_iff.1 hx).1 (by intro e; injection e with e; omega)).trans hx
  refine ⟨w.heap.size + 1, [{ target := .collected w.heap.size, args := #[] }], V, { target := .fn (.func gf) lb, args := #[.func (.yield (w.heap.size + 1)) #[] #[]] }, V, gf,
    #[.func (.yield (w.heap.size + 1)) #[] #[]] ++ lb, V, ?_, ?_, ?_, ?_, fun _ => h1, ?_⟩
  · rw [← hV, hrec]; exact run_enterLoop_outer _ _ _ _ _
  · simp only [resolve, hg]; simp [go_sem]
  · intro f' hf'; simp [Target.leads] at hf'; subst hf'; exact hFg
  · simp [invoke, go_sem, eg]
  refine (hseq (w.heap.size + 1)
    (fun pre W => I pre W ∧ W.heap[w.heap.size + 1]? = some (.loop (rec .ready none)) ∧ W.heap[w.heap.size]? = some (.deferred (some [])))
    (fun pre W => ∃ c, Ix c pre W ∧ W.heap[w.heap.size + 1]? = some (.loop (rec .done (some c))) ∧ W.heap[w.heap.size]? = some (.deferred (some [])))
    V hVb ((up hI).and (two _))
    (fun s X Y row hs hy hr => by obtain ⟨c, hs⟩ := hs; exact ⟨c, ((up (hIx c)).and (two _)) s X Y row hs hy hr⟩)
    (fun s X Y hs hy => ⟨hIG s X Y hs.1 hy, g1 _ hs.2.1 hy, g2 _ hs.2.2 hy⟩) (fun s X Y hs hy => by obtain ⟨c, hs⟩ := hs; exact ⟨c, hIxG c s X Y hs.1 hy, g1 _ hs.2.1 hy, g2 _ hs.2.2 hy⟩) ?_ ⟨hVI, hVl, hVd⟩).mono ?_
  · rintro pre x W ⟨hi, hl, hd⟩ hlen hsz
    have hy := run_yield (P := P) (args := encs x) hl (by rw [hrec]; exact hps x)
    rw [hrec] at hy
    refine ⟨fn, _, assign, body, hy, roundIn_of_wpIn hfn (hassign _ pre x W _ hi ?_)⟩
    clear hy
    intro a' U hkf hst hkp hiU hax
    have lU := hkf.same _ _ (by omega) hl rfl
    have dU := hkf.same _ _ (Nat.le_refl _) hd rfl
    have sU : w.heap.size + 1 < U.heap.size := (Array.getElem?_eq_some_iff.1 lU).1
    refine ⟨_, run_beginRound lU (by rw [hrec]), ?_⟩
    obtain ⟨U2, hU2⟩ : ∃ U2, U.putObj (w.heap.size + 1) (.loop { rec .ready none with state := .busy }) = U2 := ⟨_, rfl⟩
    rw [hU2]
    have lU2 : U2.heap[w.heap.size + 1]? = some (.loop { rec .ready none with state := .busy }) := by rw [← hU2]; exact World.putObj_heap_same sU
    have dU2 : U2.heap[w.heap.size]? = some (.deferred (some [])) := by rw [← hU2]; exact (World.putObj_heap_other (by omega)).trans dU
    have kU2 : Kp U U2 := by rw [← hU2]; exact hKb _ _ _ _ (by omega) lU rfl rfl
    have sU2 : StaysC V.heap.size cn U U2 := by rw [← hU2]; exact StaysC.grown (grownBy_putObj' _ _ _) (fun j e => by cases e; omega)
    have fU2 : KeepsFrom V.heap.size U U2 := by rw [← hU2]; exact KeepsFrom.of_grownBy (grownBy_putObj' _ _ _) (fun j e => by cases e; omega)
    have iU2 : I pre U2 := by rw [← hU2]; exact hI.putObj _ hiU (by omega) lU rfl
    have aU2 : Ax x a' U2 := by rw [← hU2]; exact (hAx x a').putObj (s := ()) _ hax (by omega) lU rfl
    refine wpIn_mono (hbody _ pre x a' _ iU2 aU2 hlen (by have h1 := hst.1; have h2 := sU2.1; omega)) ?_
    have fin : ∀ (jump : Option Code) (T : World), KeepsFrom w.heap.size U2 T →
        (Instr.endRound (w.heap.size + 1) jump).run P T = .ok (.bool jump.isNone) (T.putObj (w.heap.size + 1) (.loop (rec (if jump.isNone then .ready else .done) jump))) ∧
        T.heap[w.heap.size + 1]? = some (.loop { rec .ready none with state := .busy }) ∧
        (T.putObj (w.heap.size + 1) (.loop (rec (if jump.isNone then .ready else .done) jump))).heap[w.heap.size + 1]? = some (.loop (rec (if jump.isNone then .ready else .done) jump)) ∧
        (T.putObj (w.heap.size + 1) (.loop (rec (if jump.isNone then .ready else .done) jump))).heap[w.heap.size]? = some (.deferred (some [])) ∧
        KeepsFrom V.heap.size W (T.putObj (w.heap.size + 1) (.loop (rec (if jump.isNone then .ready else .done) jump))) := fun jump T hT => by
      have hl3 := hT.same _ _ (by omega) lU2 rfl
      have := run_endRound (P := P) jump hl3
      refine ⟨by rw [hrec] at this ⊢; exact this, hl3, World.putObj_heap_same (Array.getElem?_eq_some_iff.1 hl3).1, (World.putObj_heap_other (by omega)).trans (hT.same _ _ (Nat.le_refl _) dU2 rfl), ?_⟩
      exact ((keepsFrom_later hkf (by omega)).trans fU2).trans ((keepsFrom_later hT (by omega)).trans (KeepsFrom.of_grownBy (grownBy_putObj' _ _ _) (fun j e => by cases e; omega)))
    have stop : ∀ (c : Code) (T : World), KeepsFrom w.heap.size U2 T → Ix c (pre ++ [x]) T → ∃ b W', (Instr.endRound (w.heap.size + 1) (some c)).run P T = .ok b W' ∧
        ((b = .bool true ∧ (I (pre ++ [x]) W' ∧ W'.heap[w.heap.size + 1]? = some (.loop (rec .ready none)) ∧ W'.heap[w.heap.size]? = some (.deferred (some []))) ∧ KeepsFrom V.heap.size W W' ∧ StaysC V.heap.size cn W W' ∧ Kp W W') ∨
         (b = .bool false ∧ (∃ c, Ix c (pre ++ [x]) W' ∧ W'.heap[w.heap.size + 1]? = some (.loop (rec .done (some c))) ∧ W'.heap[w.heap.size]? = some (.deferred (some []))) ∧ KeepsFrom V.heap.size W W')) := fun c T hT hx => by
      obtain ⟨hr, hl3, hl4, hd4, hk4⟩ := fin (some c) T hT
      exact ⟨_, _, hr, .inr ⟨rfl, ⟨c, (hIx _).putObj _ hx (by omega) hl3 rfl, hl4, hd4⟩, hk4⟩⟩
    rintro e a3 T hp
    cases e with
    | normal =>
      obtain ⟨hk3, ⟨hst3, hkp3⟩, hi3⟩ := hp
      obtain ⟨hr, hl3, hl4, hd4, hk4⟩ := fin none T hk3
      exact ⟨_, _, hr, .inl ⟨rfl, ⟨hI.putObj _ hi3 (by omega) hl3 rfl, hl4, hd4⟩, hk4, ((hVs ▸ hst : StaysC V.heap.size cn W U).trans sU2).trans ((hVs ▸ hst3 : StaysC V.heap.size cn U2 T).trans (StaysC.grown (grownBy_putObj' _ _ _) (fun j e => by cases e; omega))), hKt hkp (hKt (hKt kU2 hkp3) (hKb _ _ _ _ (by omega) hl3 rfl rfl))⟩⟩
    | ret => obtain ⟨b, W', hr, h⟩ := stop .ret T hp.1 hp.2; exact ⟨_, _, hr, h.elim (fun h => .inl ⟨by rw [h.1], h.2⟩) (fun h => .inr ⟨by rw [h.1], h.2⟩)⟩
    | exit id => obtain ⟨b, W', hr, h⟩ := stop (.exit id) T hp.1 hp.2; exact ⟨_, _, hr, h.elim (fun h => .inl ⟨by rw [h.1], h.2⟩) (fun h => .inr ⟨by rw [h.1], h.2⟩)⟩
    | goto t => obtain ⟨b, W', hr, h⟩ := stop (.goto t) T hp.1 hp.2; exact ⟨_, _, hr, h.elim (fun h => .inl ⟨by rw [h.1], h.2⟩) (fun h => .inr ⟨by rw [h.1], h.2⟩)⟩
    | panic ch => exact hp.elim
    | outgrown => exact hp.elim
  · rintro e W2 ⟨⟨v, rfl⟩, (⟨xs, hS, hi, hl, hk⟩ | ⟨pre, hSp, c, hi, hl, hk⟩)⟩
    · exact ⟨none, _, by have := run_endLoop (P := P) hl (by rw [hrec]; simp); rw [hrec] at this; exact this, hdone _ xs _ (Nat.le_refl _) (hSO.putObj _ hS (by omega) hl rfl) (hI.putObj _ hi (by omega) hl rfl) ((World.putObj_heap_other (by omega)).trans hk)⟩
    · exact ⟨some c, _, by have := run_endLoop (P := P) hl (by rw [hrec]; simp); rw [hrec] at this; exact this, hstop _ c pre _ (Nat.le_refl _) hSp ((hIx c).putObj _ hi (by omega) hl rfl) ((World.putObj_heap_other (by omega)).trans hk)⟩
end Go.Proofs.YtplgmlcoeehnfaaGreat
