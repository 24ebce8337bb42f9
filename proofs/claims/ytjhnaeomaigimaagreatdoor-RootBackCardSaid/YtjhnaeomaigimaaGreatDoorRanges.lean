/- A loop over an iterator that itself loops over an iterator: the caller's invariant abides turns of loop records and of blocks for deferred calls, too, if they were laid since the iterator's call began. A loop over an iterator: what the round's beginning leaves need not be the caller's invariant (for a caller that leaves at the first one). Iterators that hand out what is told one by one, with the error of the last one. Nothing of the program stands here. A loop over an iterator that has some blocks of its own: the caller keeps those (its first c), and all that is no variable; rows of the caller's may grow. Nothing of the program stands here. A loop over an iterator that has some blocks of its own, and of whose values something is known in the world where they are handed out. Nothing of the program stands here. -/
import Derived.Test.YtjhnaeomaigimaaGreatDoorBase
import Derived.RangeFuncNested
import Derived.Test.YtjhnaeomaigimaaGreatDoorPlain1
import Derived.RangeFuncBox
import Derived.OwnWalkIn
set_option linter.unusedVariables false
namespace Go.Proofs.YtjhnaeomaigimaaGreatDoor
open Go.RowKit Go.Shelf

/-- What lies from block B on lies as it lay. -/
def Stays (B : Nat) (X Y : World) : Prop := X.heap.size ≤ Y.heap.size ∧ ∀ k, B ≤ k → k < X.heap.size → Y.heap[k]? = X.heap[k]?
theorem Stays.refl (B : Nat) (X : World) : Stays B X X := ⟨Nat.le_refl _, fun _ _ _ => rfl⟩
theorem Stays.trans {B : Nat} {X Y Z : World} (h : Stays B X Y) (k : Stays B Y Z) : Stays B X Z := ⟨Nat.le_trans h.1 k.1, fun i hB hi => (k.2 i hB (Nat.lt_of_lt_of_le hi h.1)).trans (h.2 i hB hi)⟩
theorem Stays.grown {B : Nat} {X Y : World} {row : Option Nat} (h : X.grownBy Y row) (hr : ∀ j, row = some j → j < B ∨ X.heap.size ≤ j) : Stays B X Y :=
  ⟨h.size, fun k hB hk => h.block k hk (fun e => by have := hr k e.symm; omega)⟩
theorem Stays.keeps {B : Nat} {X Y : World} (h : Stays B X Y) : KeepsFrom B X Y := ⟨h.1, fun k o hB hk _ => (h.2 k hB (Array.getElem?_eq_some_iff.1 hk).1).trans hk⟩
theorem Stays.below {n : Nat} {X Y : World} (h : Below n X Y) {B : Nat} (hs : X.heap.size ≤ n) : Stays B X Y := ⟨h.size, fun k _ hk => h.block k (by omega)⟩

def SeqO {α : Type} (F : Fence) (n : Nat) (P : Program) (g : Nat) (lb : Array Value) (encs : α → Array Value) (Kp : World → World → Prop) (S Sp : List α → Prop) (N : Nat) (w : World) : Prop :=
  ∀ (l : Nat) (J Jx : List α → World → Prop) (W : World), Below w.heap.size w W → OwnFrom W.heap.size J → OwnFrom W.heap.size Jx →
    (∀ pre x W1, J pre W1 → pre.length < N → YieldAt F (n - 1) P l (encs x) W1 fun e W' =>
      (e = .returned (.bool true) ∧ J (pre ++ [x]) W' ∧ Stays W.heap.size W1 W' ∧ Kp W1 W') ∨ (e = .returned (.bool false) ∧ Jx (pre ++ [x]) W' ∧ KeepsFrom W.heap.size W1 W')) →
    J [] W →
    CallsIn F n P g (#[.func (.yield l) #[] #[]] ++ lb) W fun e W' => (∃ v, e = .returned v) ∧ ((∃ xs, S xs ∧ J xs W') ∨ (∃ pre, Sp pre ∧ Jx pre W'))

theorem keepsFrom_later {B B' : Nat} {X Y : World} (h : KeepsFrom B X Y) (hB : B ≤ B') : KeepsFrom B' X Y := ⟨h.size, fun k o hk => h.same k o (Nat.le_trans hB hk)⟩
/-- A turn from block B on leaves what lies below. -/
theorem grown_lower {X Y : World} {row : Option Nat} {B k : Nat} {o : Obj} (hg : X.grownBy Y row) (hr : ∀ r, row = some r → B ≤ r ∧ ∃ o : Obj, X.heap[r]? = some o ∧ o.isCells = false) (hk : k < B) (ho : X.heap[k]? = some o) : Y.heap[k]? = some o :=
  (hg.block k (Array.getElem?_eq_some_iff.1 ho).1 (fun e => by have := (hr k e.symm).1; omega)).trans ho

theorem range_own {F : Fence} {n : Nat} {P : Program} {α : Type} {g : Operand} {ps : Array Tmp} {assign body : Code} {Q : Exit → Act → World → Prop} {a : Act} {w : World}
    (hro : F.round = none) (h1 : 1 ≤ n) {gf : Nat} {lb : Array Value} (hg : a.eval g = .func (.func gf) #[] lb) (hFg : F.fn gf) (eg : ∀ args w, (callFunc gf args).run P w = .ok (.enter gf args) w)
    {encs : α → Array Value} {Kp : World → World → Prop} {S Sp : List α → Prop} {N : Nat} {w0 : World} (hseq : SeqO F (n - 1) P gf lb encs Kp S Sp N w0)
    (hKt : ∀ {A B C : World}, Kp A B → Kp B C → Kp A C) (hKb : ∀ (W : World) (l : Nat) (o o' : Obj), w.heap.size ≤ l → W.heap[l]? = some o → o.isCells = false → o.isWalk = false → Kp W (W.putObj l o')) (hb0 : Below w0.heap.size w0 w) (hps : ∀ x, (encs x).size = ps.size)
    (I : List α → World → Prop) (Ix : Code → List α → World → Prop) (hI : OwnFrom w.heap.size I) (hIx : ∀ c, OwnFrom w.heap.size (Ix c)) (h0 : I [] w) (Ax : α → Act → World → Prop) (hAx : ∀ x a', OwnFrom w.heap.size (fun (_ : Unit) W => Ax x a' W))
    (hassign : ∀ (l : Nat) (pre : List α) (x : α) (W : World) (K : Act → World → Prop), I pre W → (∀ a' W', KeepsFrom w.heap.size W W' → Stays (w.heap.size + 2) W W' → Kp W W' → I pre W' → Ax x a' W' → K a' W') →
      assign.wpIn (F.inRound l) (n - 1 - 1) P (Exit.then K (fun _ _ _ => False)) { tmps := (ps.zip (encs x)).foldl (fun t (p, v) => t.setIfInBounds p v) a.tmps, defers := [] } W)
    (hbody : ∀ (l : Nat) (pre : List α) (x : α) (a' : Act) (W : World), I pre W → Ax x a' W → pre.length < N → body.wpIn (F.inRound l) (n - 1 - 1) P (ownPostG w.heap.size (fun A B => Stays (w.heap.size + 2) A B ∧ Kp A B) I Ix (pre ++ [x]) W) a' W)
    (hdone : ∀ (D : Nat) (xs : List α) (W : World), w.heap.size ≤ D → S xs → I xs W → W.heap[D]? = some (.deferred (some [])) → Q .normal { a with defers := { target := .collected D, args := #[] } :: a.defers } W)
    (hstop : ∀ (D : Nat) (c : Code) (pre : List α) (W : World), w.heap.size ≤ D → Sp pre → Ix c pre W → W.heap[D]? = some (.deferred (some [])) → c.wpIn F n P Q { a with defers := { target := .collected D, args := #[] } :: a.defers } W) :
    (Code.rangeFunc g ps assign body).wpIn F n P Q a w := by
  refine wpIn_rangeFunc ?_
  intro fn hfn
  rw [hro]
  obtain ⟨rec, hrec⟩ : ∃ rec : LoopState → Option Code → Loop, rec = fun st pe => { state := st, pending := pe, fn, tmps := a.tmps, params := ps, assign, body, defers := w.heap.size } := ⟨_, rfl⟩
  obtain ⟨V, hV⟩ : ∃ V, (w.alloc (.deferred (some []))).alloc (.loop (rec .ready none)) = V := ⟨_, rfl⟩
  have hVs : V.heap.size = w.heap.size + 1 + 1 := by rw [← hV]; simp
  have hVl : V.heap[w.heap.size + 1]? = some (.loop (rec .ready none)) := by
    have := World.alloc_heap_new (w.alloc (.deferred (some []))) (.loop (rec .ready none)); rwa [World.size_alloc, hV] at this
  have hVd : V.heap[w.heap.size]? = some (.deferred (some [])) := by
    rw [← hV]; exact (Below.heap_alloc _ _ _ (by simp)).trans (World.alloc_heap_new w _)
  have hVI : I [] V := by rw [← hV]; exact hI.alloc _ (hI.alloc _ h0)
  have hVb : Below w0.heap.size w0 V := by
    rw [← hV]; exact hb0.trans ((((Below.refl _ w).alloc (Nat.le_refl _) _).alloc (by simp) _).mono hb0.size)
  have two : ∀ (o : Obj), OwnFrom V.heap.size (fun (_ : List α) W => W.heap[w.heap.size + 1]? = some o ∧ W.heap[w.heap.size]? = some (.deferred (some []))) := fun o s X Y row hs hy hr =>
    ⟨grown_lower hy hr (by omega) hs.1, grown_lower hy hr (by omega) hs.2⟩
  have up : ∀ {β : Type} {I : β → World → Prop}, OwnFrom w.heap.size I → OwnFrom V.heap.size I := fun h s X Y row hs hy hr => h s X Y row hs hy (fun r e => ⟨by have := (hr r e).1; omega, (hr r e).2⟩)
  refine ⟨w.heap.size + 1, [{ target := .collected w.heap.size, args := #[] }], V, { target := .fn (.func gf) lb, args := #[.func (.yield (w.heap.size + 1)) #[] #[]] }, V, gf,
    #[.func (.yield (w.heap.size + 1)) #[] #[]] ++ lb, V, ?_, ?_, ?_, ?_, fun _ => h1, ?_⟩
  · rw [← hV, hrec]; exact run_enterLoop_outer _ _ _ _ _
  · simp only [resolve, hg]; simp [go_sem]
  · intro f' hf'; simp [Target.leads] at hf'; subst hf'; exact hFg
  · simp [invoke, go_sem, eg]
  refine (hseq (w.heap.size + 1)
    (fun pre W => I pre W ∧ W.heap[w.heap.size + 1]? = some (.loop (rec .ready none)) ∧ W.heap[w.heap.size]? = some (.deferred (some [])))
    (fun pre W => ∃ c, Ix c pre W ∧ W.heap[w.heap.size + 1]? = some (.loop (rec .done (some c))) ∧ W.heap[w.heap.size]? = some (.deferred (some [])))
    V hVb ((up hI).and (two _))
    (fun s X Y row hs hy hr => by obtain ⟨c, hs⟩ := hs; exact ⟨c, ((up (hIx c)).and (two _)) s X Y row hs hy hr⟩)
    ?_ ⟨hVI, hVl, hVd⟩).mono ?_
  · rintro pre x W ⟨hi, hl, hd⟩ hlen
    have hy := run_yield (P := P) (args := encs x) hl (by rw [hrec]; exact hps x)
    rw [hrec] at hy
    refine ⟨fn, _, assign, body, hy, roundIn_of_wpIn hfn (hassign _ pre x W _ hi ?_)⟩
    clear hy
    intro a' U hkf hst hkp hiU hax
    have lU := hkf.same _ _ (by omega) hl rfl
    have dU := hkf.same _ _ (Nat.le_refl _) hd rfl
    have sU : w.heap.size + 1 < U.heap.size := (Array.getElem?_eq_some_iff.1 lU).1
    refine ⟨_, run_beginRound lU (by rw [hrec]), ?_⟩
    obtain ⟨U2, hU2⟩ : ∃ U2, U.putObj (w.heap.size + 1) (.loop { rec .ready none with state := .busy }) = U2 := ⟨_, rfl⟩
    rw [hU2]
    have lU2 : U2.heap[w.heap.size + 1]? = some (.loop { rec .ready none with state := .busy }) := by rw [← hU2]; exact World.putObj_heap_same sU
    have dU2 : U2.heap[w.heap.size]? = some (.deferred (some [])) := by rw [← hU2]; exact (World.putObj_heap_other (by omega)).trans dU
    have kU2 : Kp U U2 := by rw [← hU2]; exact hKb _ _ _ _ (by omega) lU rfl rfl
    have sU2 : Stays V.heap.size U U2 := by rw [← hU2]; exact Stays.grown (grownBy_putObj' _ _ _) (fun j e => by cases e; omega)
    have fU2 : KeepsFrom V.heap.size U U2 := by rw [← hU2]; exact KeepsFrom.of_grownBy (grownBy_putObj' _ _ _) (fun j e => by cases e; omega)
    have iU2 : I pre U2 := by rw [← hU2]; exact hI.putObj _ hiU (by omega) lU rfl
    have aU2 : Ax x a' U2 := by rw [← hU2]; exact (hAx x a').putObj (s := ()) _ hax (by omega) lU rfl
    refine wpIn_mono (hbody _ pre x a' _ iU2 aU2 hlen) ?_
    have fin : ∀ (jump : Option Code) (T : World), KeepsFrom w.heap.size U2 T →
        (Instr.endRound (w.heap.size + 1) jump).run P T = .ok (.bool jump.isNone) (T.putObj (w.heap.size + 1) (.loop (rec (if jump.isNone then .ready else .done) jump))) ∧
        T.heap[w.heap.size + 1]? = some (.loop { rec .ready none with state := .busy }) ∧
        (T.putObj (w.heap.size + 1) (.loop (rec (if jump.isNone then .ready else .done) jump))).heap[w.heap.size + 1]? = some (.loop (rec (if jump.isNone then .ready else .done) jump)) ∧
        (T.putObj (w.heap.size + 1) (.loop (rec (if jump.isNone then .ready else .done) jump))).heap[w.heap.size]? = some (.deferred (some [])) ∧
        KeepsFrom V.heap.size W (T.putObj (w.heap.size + 1) (.loop (rec (if jump.isNone then .ready else .done) jump))) := fun jump T hT => by
      have hl3 := hT.same _ _ (by omega) lU2 rfl
      have := run_endRound (P := P) jump hl3
      refine ⟨by rw [hrec] at this ⊢; exact this, hl3, World.putObj_heap_same (Array.getElem?_eq_some_iff.1 hl3).1, (World.putObj_heap_other (by omega)).trans (hT.same _ _ (Nat.le_refl _) dU2 rfl), ?_⟩
      exact ((keepsFrom_later hkf (by omega)).trans fU2).trans ((keepsFrom_later hT (by omega)).trans (KeepsFrom.of_grownBy (grownBy_putObj' _ _ _) (fun j e => by cases e; omega)))
    have stop : ∀ (c : Code) (T : World), KeepsFrom w.heap.size U2 T → Ix c (pre ++ [x]) T → ∃ b W', (Instr.endRound (w.heap.size + 1) (some c)).run P T = .ok b W' ∧
        ((b = .bool true ∧ (I (pre ++ [x]) W' ∧ W'.heap[w.heap.size + 1]? = some (.loop (rec .ready none)) ∧ W'.heap[w.heap.size]? = some (.deferred (some []))) ∧ Stays V.heap.size W W' ∧ Kp W W') ∨
         (b = .bool false ∧ (∃ c, Ix c (pre ++ [x]) W' ∧ W'.heap[w.heap.size + 1]? = some (.loop (rec .done (some c))) ∧ W'.heap[w.heap.size]? = some (.deferred (some []))) ∧ KeepsFrom V.heap.size W W')) := fun c T hT hx => by
      obtain ⟨hr, hl3, hl4, hd4, hk4⟩ := fin (some c) T hT
      exact ⟨_, _, hr, .inr ⟨rfl, ⟨c, (hIx _).putObj _ hx (by omega) hl3 rfl, hl4, hd4⟩, hk4⟩⟩
    rintro e a3 T hp
    cases e with
    | normal =>
      obtain ⟨hk3, ⟨hst3, hkp3⟩, hi3⟩ := hp
      obtain ⟨hr, hl3, hl4, hd4, hk4⟩ := fin none T hk3
      exact ⟨_, _, hr, .inl ⟨rfl, ⟨hI.putObj _ hi3 (by omega) hl3 rfl, hl4, hd4⟩, ((hVs ▸ hst : Stays V.heap.size W U).trans sU2).trans ((hVs ▸ hst3 : Stays V.heap.size U2 T).trans (Stays.grown (grownBy_putObj' _ _ _) (fun j e => by cases e; omega))), hKt hkp (hKt (hKt kU2 hkp3) (hKb _ _ _ _ (by omega) hl3 rfl rfl))⟩⟩
    | ret => obtain ⟨b, W', hr, h⟩ := stop .ret T hp.1 hp.2; exact ⟨_, _, hr, h.elim (fun h => .inl ⟨by rw [h.1], h.2⟩) (fun h => .inr ⟨by rw [h.1], h.2⟩)⟩
    | exit id => obtain ⟨b, W', hr, h⟩ := stop (.exit id) T hp.1 hp.2; exact ⟨_, _, hr, h.elim (fun h => .inl ⟨by rw [h.1], h.2⟩) (fun h => .inr ⟨by rw [h.1], h.2⟩)⟩
    | goto t => obtain ⟨b, W', hr, h⟩ := stop (.goto t) T hp.1 hp.2; exact ⟨_, _, hr, h.elim (fun h => .inl ⟨by rw [h.1], h.2⟩) (fun h => .inr ⟨by rw [h.1], h.2⟩)⟩
    | panic ch => exact hp.elim
    | outgrown => exact hp.elim
  · rintro e W2 ⟨⟨v, rfl⟩, (⟨xs, hS, hi, hl, hk⟩ | ⟨pre, hSp, c, hi, hl, hk⟩)⟩
    · exact ⟨none, _, by have := run_endLoop (P := P) hl (by rw [hrec]; simp); rw [hrec] at this; exact this, hdone _ xs _ (Nat.le_refl _) hS (hI.putObj _ hi (by omega) hl rfl) ((World.putObj_heap_other (by omega)).trans hk)⟩
    · exact ⟨some c, _, by have := run_endLoop (P := P) hl (by rw [hrec]; simp); rw [hrec] at this; exact this, hstop _ c pre _ (Nat.le_refl _) hSp ((hIx c).putObj _ hi (by omega) hl rfl) ((World.putObj_heap_other (by omega)).trans hk)⟩
end Go.Proofs.YtjhnaeomaigimaaGreatDoor
set_option linter.unusedVariables false
namespace Go.Proofs.YtjhnaeomaigimaaGreatDoor
open Go.RowKit Go.Shelf

theorem range_ax {F : Fence} {n : Nat} {P : Program} {α : Type} {g : Operand} {ps : Array Tmp} {assign body : Code} {Q : Exit → Act → World → Prop} {a : Act} {w : World}
    (hro : F.round = none) (h1 : 1 ≤ n) {gf : Nat} {lb : Array Value} (hg : a.eval g = .func (.func gf) #[] lb) (hFg : F.fn gf) (eg : ∀ args w, (callFunc gf args).run P w = .ok (.enter gf args) w)
    {encs : α → Array Value} {Kp : World → World → Prop} {S Sp : List α → Prop} {N : Nat} {w0 : World} (hseq : SeqO F (n - 1) P gf lb encs Kp S Sp N w0)
    (hKt : ∀ {A B C : World}, Kp A B → Kp B C → Kp A C) (hKb : ∀ (W : World) (l : Nat) (o o' : Obj), w.heap.size ≤ l → W.heap[l]? = some o → o.isCells = false → o.isWalk = false → Kp W (W.putObj l o')) (hb0 : Below w0.heap.size w0 w) (hps : ∀ x, (encs x).size = ps.size)
    (I : List α → World → Prop) (Ix : Code → List α → World → Prop) (hI : OwnFrom w.heap.size I) (hIx : ∀ c, OwnFrom w.heap.size (Ix c)) (h0 : I [] w) (Ax : List α → α → Act → World → Prop) (hAx : ∀ pre x a', OwnFrom w.heap.size (fun (_ : Unit) W => Ax pre x a' W))
    (hassign : ∀ (l : Nat) (pre : List α) (x : α) (W : World) (K : Act → World → Prop), I pre W → (∀ a' W', KeepsFrom w.heap.size W W' → Stays (w.heap.size + 2) W W' → Kp W W' → Ax pre x a' W' → K a' W') →
      assign.wpIn (F.inRound l) (n - 1 - 1) P (Exit.then K (fun _ _ _ => False)) { tmps := (ps.zip (encs x)).foldl (fun t (p, v) => t.setIfInBounds p v) a.tmps, defers := [] } W)
    (hbody : ∀ (l : Nat) (pre : List α) (x : α) (a' : Act) (W : World), Ax pre x a' W → pre.length < N → body.wpIn (F.inRound l) (n - 1 - 1) P (ownPostG w.heap.size (fun A B => Stays (w.heap.size + 2) A B ∧ Kp A B) I Ix (pre ++ [x]) W) a' W)
    (hdone : ∀ (D : Nat) (xs : List α) (W : World), w.heap.size ≤ D → S xs → I xs W → W.heap[D]? = some (.deferred (some [])) → Q .normal { a with defers := { target := .collected D, args := #[] } :: a.defers } W)
    (hstop : ∀ (D : Nat) (c : Code) (pre : List α) (W : World), w.heap.size ≤ D → Sp pre → Ix c pre W → W.heap[D]? = some (.deferred (some [])) → c.wpIn F n P Q { a with defers := { target := .collected D, args := #[] } :: a.defers } W) :
    (Code.rangeFunc g ps assign body).wpIn F n P Q a w := by
  refine wpIn_rangeFunc ?_
  intro fn hfn
  rw [hro]
  obtain ⟨rec, hrec⟩ : ∃ rec : LoopState → Option Code → Loop, rec = fun st pe => { state := st, pending := pe, fn, tmps := a.tmps, params := ps, assign, body, defers := w.heap.size } := ⟨_, rfl⟩
  obtain ⟨V, hV⟩ : ∃ V, (w.alloc (.deferred (some []))).alloc (.loop (rec .ready none)) = V := ⟨_, rfl⟩
  have hVs : V.heap.size = w.heap.size + 1 + 1 := by rw [← hV]; simp
  have hVl : V.heap[w.heap.size + 1]? = some (.loop (rec .ready none)) := by
    have := World.alloc_heap_new (w.alloc (.deferred (some []))) (.loop (rec .ready none)); rwa [World.size_alloc, hV] at this
  have hVd : V.heap[w.heap.size]? = some (.deferred (some [])) := by
    rw [← hV]; exact (Below.heap_alloc _ _ _ (by simp)).trans (World.alloc_heap_new w _)
  have hVI : I [] V := by rw [← hV]; exact hI.alloc _ (hI.alloc _ h0)
  have hVb : Below w0.heap.size w0 V := by
    rw [← hV]; exact hb0.trans ((((Below.refl _ w).alloc (Nat.le_refl _) _).alloc (by simp) _).mono hb0.size)
  have two : ∀ (o : Obj), OwnFrom V.heap.size (fun (_ : List α) W => W.heap[w.heap.size + 1]? = some o ∧ W.heap[w.heap.size]? = some (.deferred (some []))) := fun o s X Y row hs hy hr =>
    ⟨grown_lower hy hr (by omega) hs.1, grown_lower hy hr (by omega) hs.2⟩
  have up : ∀ {β : Type} {I : β → World → Prop}, OwnFrom w.heap.size I → OwnFrom V.heap.size I := fun h s X Y row hs hy hr => h s X Y row hs hy (fun r e => ⟨by have := (hr r e).1; omega, (hr r e).2⟩)
  refine ⟨w.heap.size + 1, [{ target := .collected w.heap.size, args := #[] }], V, { target := .fn (.func gf) lb, args := #[.func (.yield (w.heap.size + 1)) #[] #[]] }, V, gf,
    #[.func (.yield (w.heap.size + 1)) #[] #[]] ++ lb, V, ?_, ?_, ?_, ?_, fun _ => h1, ?_⟩
  · rw [← hV, hrec]; exact run_enterLoop_outer _ _ _ _ _
  · simp only [resolve, hg]; simp [go_sem]
  · intro f' hf'; simp [Target.leads] at hf'; subst hf'; exact hFg
  · simp [invoke, go_sem, eg]
  refine (hseq (w.heap.size + 1)
    (fun pre W => I pre W ∧ W.heap[w.heap.size + 1]? = some (.loop (rec .ready none)) ∧ W.heap[w.heap.size]? = some (.deferred (some [])))
    (fun pre W => ∃ c, Ix c pre W ∧ W.heap[w.heap.size + 1]? = some (.loop (rec .done (some c))) ∧ W.heap[w.heap.size]? = some (.deferred (some [])))
    V hVb ((up hI).and (two _))
    (fun s X Y row hs hy hr => by obtain ⟨c, hs⟩ := hs; exact ⟨c, ((up (hIx c)).and (two _)) s X Y row hs hy hr⟩)
    ?_ ⟨hVI, hVl, hVd⟩).mono ?_
  · rintro pre x W ⟨hi, hl, hd⟩ hlen
    have hy := run_yield (P := P) (args := encs x) hl (by rw [hrec]; exact hps x)
    rw [hrec] at hy
    refine ⟨fn, _, assign, body, hy, roundIn_of_wpIn hfn (hassign _ pre x W _ hi ?_)⟩
    clear hy
    intro a' U hkf hst hkp hax
    have lU := hkf.same _ _ (by omega) hl rfl
    have dU := hkf.same _ _ (Nat.le_refl _) hd rfl
    have sU : w.heap.size + 1 < U.heap.size := (Array.getElem?_eq_some_iff.1 lU).1
    refine ⟨_, run_beginRound lU (by rw [hrec]), ?_⟩
    obtain ⟨U2, hU2⟩ : ∃ U2, U.putObj (w.heap.size + 1) (.loop { rec .ready none with state := .busy }) = U2 := ⟨_, rfl⟩
    rw [hU2]
    have lU2 : U2.heap[w.heap.size + 1]? = some (.loop { rec .ready none with state := .busy }) := by rw [← hU2]; exact World.putObj_heap_same sU
    have dU2 : U2.heap[w.heap.size]? = some (.deferred (some [])) := by rw [← hU2]; exact (World.putObj_heap_other (by omega)).trans dU
    have kU2 : Kp U U2 := by rw [← hU2]; exact hKb _ _ _ _ (by omega) lU rfl rfl
    have sU2 : Stays V.heap.size U U2 := by rw [← hU2]; exact Stays.grown (grownBy_putObj' _ _ _) (fun j e => by cases e; omega)
    have fU2 : KeepsFrom V.heap.size U U2 := by rw [← hU2]; exact KeepsFrom.of_grownBy (grownBy_putObj' _ _ _) (fun j e => by cases e; omega)
    have aU2 : Ax pre x a' U2 := by rw [← hU2]; exact (hAx pre x a').putObj (s := ()) _ hax (by omega) lU rfl
    refine wpIn_mono (hbody _ pre x a' _ aU2 hlen) ?_
    have fin : ∀ (jump : Option Code) (T : World), KeepsFrom w.heap.size U2 T →
        (Instr.endRound (w.heap.size + 1) jump).run P T = .ok (.bool jump.isNone) (T.putObj (w.heap.size + 1) (.loop (rec (if jump.isNone then .ready else .done) jump))) ∧
        T.heap[w.heap.size + 1]? = some (.loop { rec .ready none with state := .busy }) ∧
        (T.putObj (w.heap.size + 1) (.loop (rec (if jump.isNone then .ready else .done) jump))).heap[w.heap.size + 1]? = some (.loop (rec (if jump.isNone then .ready else .done) jump)) ∧
        (T.putObj (w.heap.size + 1) (.loop (rec (if jump.isNone then .ready else .done) jump))).heap[w.heap.size]? = some (.deferred (some [])) ∧
        KeepsFrom V.heap.size W (T.putObj (w.heap.size + 1) (.loop (rec (if jump.isNone then .ready else .done) jump))) := fun jump T hT => by
      have hl3 := hT.same _ _ (by omega) lU2 rfl
      have := run_endRound (P := P) jump hl3
      refine ⟨by rw [hrec] at this ⊢; exact this, hl3, World.putObj_heap_same (Array.getElem?_eq_some_iff.1 hl3).1, (World.putObj_heap_other (by omega)).trans (hT.same _ _ (Nat.le_refl _) dU2 rfl), ?_⟩
      exact ((keepsFrom_later hkf (by omega)).trans fU2).trans ((keepsFrom_later hT (by omega)).trans (KeepsFrom.of_grownBy (grownBy_putObj' _ _ _) (fun j e => by cases e; omega)))
    have stop : ∀ (c : Code) (T : World), KeepsFrom w.heap.size U2 T → Ix c (pre ++ [x]) T → ∃ b W', (Instr.endRound (w.heap.size + 1) (some c)).run P T = .ok b W' ∧
        ((b = .bool true ∧ (I (pre ++ [x]) W' ∧ W'.heap[w.heap.size + 1]? = some (.loop (rec .ready none)) ∧ W'.heap[w.heap.size]? = some (.deferred (some []))) ∧ Stays V.heap.size W W' ∧ Kp W W') ∨
         (b = .bool false ∧ (∃ c, Ix c (pre ++ [x]) W' ∧ W'.heap[w.heap.size + 1]? = some (.loop (rec .done (some c))) ∧ W'.heap[w.heap.size]? = some (.deferred (some []))) ∧ KeepsFrom V.heap.size W W')) := fun c T hT hx => by
      obtain ⟨hr, hl3, hl4, hd4, hk4⟩ := fin (some c) T hT
      exact ⟨_, _, hr, .inr ⟨rfl, ⟨c, (hIx _).putObj _ hx (by omega) hl3 rfl, hl4, hd4⟩, hk4⟩⟩
    rintro e a3 T hp
    cases e with
    | normal =>
      obtain ⟨hk3, ⟨hst3, hkp3⟩, hi3⟩ := hp
      obtain ⟨hr, hl3, hl4, hd4, hk4⟩ := fin none T hk3
      exact ⟨_, _, hr, .inl ⟨rfl, ⟨hI.putObj _ hi3 (by omega) hl3 rfl, hl4, hd4⟩, ((hVs ▸ hst : Stays V.heap.size W U).trans sU2).trans ((hVs ▸ hst3 : Stays V.heap.size U2 T).trans (Stays.grown (grownBy_putObj' _ _ _) (fun j e => by cases e; omega))), hKt hkp (hKt (hKt kU2 hkp3) (hKb _ _ _ _ (by omega) hl3 rfl rfl))⟩⟩
    | ret => obtain ⟨b, W', hr, h⟩ := stop .ret T hp.1 hp.2; exact ⟨_, _, hr, h.elim (fun h => .inl ⟨by rw [h.1], h.2⟩) (fun h => .inr ⟨by rw [h.1], h.2⟩)⟩
    | exit id => obtain ⟨b, W', hr, h⟩ := stop (.exit id) T hp.1 hp.2; exact ⟨_, _, hr, h.elim (fun h => .inl ⟨by rw [h.1], h.2⟩) (fun h => .inr ⟨by rw [h.1], h.2⟩)⟩
    | goto t => obtain ⟨b, W', hr, h⟩ := stop (.goto t) T hp.1 hp.2; exact ⟨_, _, hr, h.elim (fun h => .inl ⟨by rw [h.1], h.2⟩) (fun h => .inr ⟨by rw [h.1], h.2⟩)⟩
    | panic ch => exact hp.elim
    | outgrown => exact hp.elim
  · rintro e W2 ⟨⟨v, rfl⟩, (⟨xs, hS, hi, hl, hk⟩ | ⟨pre, hSp, c, hi, hl, hk⟩)⟩
    · exact ⟨none, _, by have := run_endLoop (P := P) hl (by rw [hrec]; simp); rw [hrec] at this; exact this, hdone _ xs _ (Nat.le_refl _) hS (hI.putObj _ hi (by omega) hl rfl) ((World.putObj_heap_other (by omega)).trans hk)⟩
    · exact ⟨some c, _, by have := run_endLoop (P := P) hl (by rw [hrec]; simp); rw [hrec] at this; exact this, hstop _ c pre _ (Nat.le_refl _) hSp ((hIx c).putObj _ hi (by omega) hl rfl) ((World.putObj_heap_other (by omega)).trans hk)⟩
end Go.Proofs.YtjhnaeomaigimaaGreatDoor
set_option linter.unusedVariables false
namespace Go.Proofs.YtjhnaeomaigimaaGreatDoor
open Go.RowKit Go.Shelf
theorem OwnFrom.later {β : Type} {B : Nat} {I : β → World → Prop} (h : OwnFrom B I) {s : β} {W W' : World} (hs : I s W) (hb : Below W.heap.size W W') : I s W' :=
  h s W W' none hs ⟨hb.os, hb.tape, hb.output, hb.size, fun k hk _ => hb.block k hk⟩ (fun r e => by cases e)
theorem AbidesFrom.later {β : Type} {B : Nat} {I : β → World → Prop} (h : AbidesFrom B I) {s : β} {W W' : World} (hs : I s W) (hb : Below W.heap.size W W') : I s W' :=
  h s W W' none hs ⟨hb.os, hb.tape, hb.output, hb.size, fun k hk _ => hb.block k hk⟩ (fun r e => by cases e)
/-- All that was handed out. -/
def IterS {α : Type} (f : Nat → α × Int) (N : Nat) (ys : List Nat) : Prop := ∃ m, ys = List.range m ∧ m ≤ N ∧ (∀ i, i + 1 < m → (f i).2 = 0) ∧ (m < N → 0 < m ∧ (f (m - 1)).2 ≠ 0)
/-- What was handed out, where the caller stopped it. -/
def IterP {α : Type} (f : Nat → α × Int) (N : Nat) (pre : List Nat) : Prop := ∃ m, pre = List.range (m + 1) ∧ m < N ∧ ∀ i, i < m → (f i).2 = 0
/-- Below B, and at some blocks, all is as it was. -/
structure KeepB (B : Nat) (bs : List Nat) (X Y : World) : Prop where
  below : Below B X Y
  at_ : ∀ g ∈ bs, Y.heap[g]? = X.heap[g]?
theorem KeepB.refl (B : Nat) (bs : List Nat) (X : World) : KeepB B bs X X := ⟨Below.refl _ _, fun _ _ => rfl⟩
theorem KeepB.trans {B : Nat} {bs : List Nat} {X Y Z : World} (h : KeepB B bs X Y) (k : KeepB B bs Y Z) : KeepB B bs X Z := ⟨h.below.trans k.below, fun g hg => (k.at_ g hg).trans (h.at_ g hg)⟩
theorem KeepB.later {B : Nat} {bs : List Nat} {X Y : World} (h : Below X.heap.size X Y) (hB : B ≤ X.heap.size) (hbs : ∀ g ∈ bs, g < X.heap.size) : KeepB B bs X Y := ⟨h.mono hB, fun g hg => h.block g (hbs g hg)⟩
theorem KeepB.putObj {B : Nat} {bs : List Nat} {W : World} {l : Nat} (o' : Obj) (hB : B ≤ l) (hbs : ∀ g ∈ bs, g ≠ l) : KeepB B bs W (W.putObj l o') :=
  ⟨⟨rfl, rfl, rfl, by simp [World.putObj], fun k hk => World.putObj_heap_other (by omega)⟩, fun g hg => World.putObj_heap_other (hbs g hg)⟩
theorem Blk.at_ {X Y : World} {g : Nat} {t : TypeId} {cs : Array Value} (h : Blk X g t cs) (k : Y.heap[g]? = X.heap[g]?) : Blk Y g t cs := k.trans h
/-- 'l = append(l, x)' in a loop over an iterator: l's box lies below n₀, its rows from n₀ on. -/
theorem appended_at {W w1 : World} {n₀ B : Nat} {t e : TypeId} {size : Nat} {v v' : Value} {k m : Nat} {xs ys : List Value} {tmp : Obj}
    (hv : Blk W B t #[v]) (hte : t ≠ e) (hrow : W.ownsRow n₀ e size v k xs) (hn₀ : n₀ ≤ W.heap.size) (hown' : w1.ownsRow n₀ e size v' m ys) (hgrow : (W.alloc tmp).grownBy w1 v.ownBlock) :
    Blk w1 B t #[v] ∧ Blk (w1.setCell ⟨B, 0, none⟩ v') B t #[v'] ∧ (w1.setCell ⟨B, 0, none⟩ v').ownsRow n₀ e size v' m ys ∧ KeepsOthers W (w1.setCell ⟨B, 0, none⟩ v') ∧
      (∀ B0, B0 ≤ n₀ → B0 ≤ B → Below B0 W (w1.setCell ⟨B, 0, none⟩ v')) ∧ ∀ g, g < n₀ → g ≠ B → (w1.setCell ⟨B, 0, none⟩ v').heap[g]? = W.heap[g]? := by
  have hv1 : Boxed w1 B t v := (Boxed.alloc hv tmp).kept hgrow (Boxed.not_row hv hte hrow)
  have hlow : ∀ j, v.ownBlock = some j → n₀ ≤ j := fun j ej => by
    rcases hrow.2 with ⟨rfl, _⟩ | ⟨g, cap, cur, rfl, hb, _, _⟩
    · simp [Value.ownBlock] at ej
    · obtain rfl : g = j := by simpa [Value.ownBlock] using ej
      exact hb
  refine ⟨hv1, Boxed.set v' hv1, hown'.kept (grownBy_setCell' w1 B v') (.inr (hv1.not_row hte hown').symm), ?_, fun B0 h0 hB => ?_, fun g hg hne => ?_⟩
  · refine ((KeepsOthers.alloc W tmp).trans (KeepsOthers.of_grownBy hgrow fun j o ej hj => ?_)).trans (KeepsOthers.setCell _ _ _)
    rcases (hrow.alloc tmp).2 with ⟨rfl, _⟩ | ⟨g, cap, cur, rfl, _, hgb, _⟩
    · simp [Value.ownBlock] at ej
    · obtain rfl : g = j := by simpa [Value.ownBlock] using ej
      rw [hgb] at hj; cases hj; rfl
  · exact (((Below.refl B0 W).alloc (by omega) tmp).grown hgrow (by simp; omega) fun j ej => by have := hlow j ej; omega).setCell (p := ⟨B, 0, none⟩) hB v'
  · rw [Below.heap_setCell _ _ _ _ hne, hgrow.block g (by simp; omega) (fun e => by have := hlow g e.symm; omega), Below.heap_alloc _ _ _ (by omega)]
theorem allN_list {α : Type} {f : Nat → α × Int} {n : Nat} (h : ∀ i, i < n → (f i).2 = 0) : allN f n = ((List.range n).map (fun i => (f i).1), 0) := by
  have h2 := allN_all h
  obtain ⟨a, b⟩ := allN_ok h2
  refine Prod.ext (List.ext_getElem? fun i => ?_) h2
  by_cases hi : i < n
  · rw [(b i hi).2]; simp [hi]
  · rw [List.getElem?_eq_none (by omega), List.getElem?_eq_none (by simp; omega)]
theorem KeepB.at1 {B : Nat} {bs : List Nat} {X Y : World} (h : KeepB B bs X Y) {g : Nat} {t : TypeId} {cs : Array Value} (hb : Blk X g t cs) (hg : g ∈ bs) : Blk Y g t cs := hb.at_ (h.at_ g hg)
theorem keepB_own (B : Nat) (bs : List Nat) {V : World} {B' : Nat} (hB : B ≤ B') (hbs : ∀ g ∈ bs, g < V.heap.size) (hV : B' = V.heap.size) : OwnFrom B' (fun (_ : Unit) W => KeepB B bs V W) := by
  subst hV
  intro s X Y row hs hy hr
  refine hs.trans ⟨⟨hy.os, hy.tape, hy.output, hy.size, fun k hk => ?_⟩, fun g hg => ?_⟩
  · rcases Nat.lt_or_ge k X.heap.size with h | h
    · exact hy.block k h (fun e => by have := (hr k e.symm).1; omega)
    · have := hs.below.size; omega
  · exact hy.block g (Nat.lt_of_lt_of_le (hbs g hg) hs.below.size) (fun e => by have := (hr g e.symm).1; have := hbs g hg; omega)
theorem iterS_err {α : Type} {f : Nat → α × Int} {N m : Nat} (hm : m < N) (h : ∀ i, i < m → (f i).2 = 0) (he : (f m).2 ≠ 0) : IterS f N (List.range (m + 1)) :=
  ⟨m + 1, rfl, hm, fun i hi => h i (by omega), fun _ => ⟨Nat.succ_pos _, he⟩⟩
theorem iterS_all {α : Type} {f : Nat → α × Int} {N : Nat} (h : ∀ i, i < N → (f i).2 = 0) : IterS f N (List.range N) :=
  ⟨N, rfl, Nat.le_refl _, fun i hi => h i (by omega), fun h => absurd h (Nat.lt_irrefl _)⟩
theorem iterP_of {α : Type} {f : Nat → α × Int} {N m : Nat} (hm : m < N) (h : ∀ i, i < m → (f i).2 = 0) : IterP f N (List.range m ++ [m]) := ⟨m, by rw [List.range_succ], hm, h⟩
end Go.Proofs.YtjhnaeomaigimaaGreatDoor
set_option linter.unusedVariables false
namespace Go.Proofs.YtjhnaeomaigimaaGreatDoor
open Go.RowKit Go.Shelf
/-- The c blocks from B on lie as they lay. -/
def StaysC (B c : Nat) (X Y : World) : Prop := X.heap.size ≤ Y.heap.size ∧ ∀ k, B ≤ k → k < B + c → k < X.heap.size → Y.heap[k]? = X.heap[k]?
theorem StaysC.refl (B c : Nat) (X : World) : StaysC B c X X := ⟨Nat.le_refl _, fun _ _ _ _ => rfl⟩
theorem StaysC.trans {B c : Nat} {X Y Z : World} (h : StaysC B c X Y) (k : StaysC B c Y Z) : StaysC B c X Z := ⟨Nat.le_trans h.1 k.1, fun i hB hc hi => (k.2 i hB hc (Nat.lt_of_lt_of_le hi h.1)).trans (h.2 i hB hc hi)⟩
theorem StaysC.grown {B c : Nat} {X Y : World} {row : Option Nat} (h : X.grownBy Y row) (hr : ∀ j, row = some j → j < B ∨ B + c ≤ j) : StaysC B c X Y :=
  ⟨h.size, fun k hB hc hk => h.block k hk (fun e => by have := hr k e.symm; omega)⟩
theorem StaysC.below {n : Nat} {X Y : World} (h : Below n X Y) {B c : Nat} (hs : X.heap.size ≤ n) : StaysC B c X Y := ⟨h.size, fun k _ _ hk => h.block k (by omega)⟩
theorem StaysC.zero {B : Nat} {X Y : World} (h : X.heap.size ≤ Y.heap.size) : StaysC B 0 X Y := ⟨h, fun k h1 h2 => by omega⟩
def SeqC {α : Type} (c : Nat) (F : Fence) (n : Nat) (P : Program) (g : Nat) (lb : Array Value) (encs : α → Array Value) (Kp : World → World → Prop) (S Sp : List α → Prop) (N : Nat) (w : World) : Prop :=
  ∀ (l : Nat) (J Jx : List α → World → Prop) (W : World), Below w.heap.size w W → OwnFrom W.heap.size J → OwnFrom W.heap.size Jx →
    (∀ pre x W1, J pre W1 → pre.length < N → W.heap.size + c ≤ W1.heap.size → YieldAt F (n - 1) P l (encs x) W1 fun e W' =>
      (e = .returned (.bool true) ∧ J (pre ++ [x]) W' ∧ KeepsFrom W.heap.size W1 W' ∧ StaysC W.heap.size c W1 W' ∧ Kp W1 W') ∨ (e = .returned (.bool false) ∧ Jx (pre ++ [x]) W' ∧ KeepsFrom W.heap.size W1 W')) →
    J [] W →
    CallsIn F n P g (#[.func (.yield l) #[] #[]] ++ lb) W fun e W' => (∃ v, e = .returned v) ∧ ((∃ xs, S xs ∧ J xs W') ∨ (∃ pre, Sp pre ∧ Jx pre W'))

theorem range_c {cn : Nat} {F : Fence} {n : Nat} {P : Program} {α : Type} {g : Operand} {ps : Array Tmp} {assign body : Code} {Q : Exit → Act → World → Prop} {a : Act} {w : World}
    (hro : F.round = none) (h1 : 1 ≤ n) {gf : Nat} {lb : Array Value} (hg : a.eval g = .func (.func gf) #[] lb) (hFg : F.fn gf) (eg : ∀ args w, (callFunc gf args).run P w = .ok (.enter gf args) w)
    {encs : α → Array Value} {Kp : World → World → Prop} {S Sp : List α → Prop} {N : Nat} {w0 : World} (hseq : SeqC cn F (n - 1) P gf lb encs Kp S Sp N w0)
    (hKt : ∀ {A B C : World}, Kp A B → Kp B C → Kp A C) (hKb : ∀ (W : World) (l : Nat) (o o' : Obj), w.heap.size ≤ l → W.heap[l]? = some o → o.isCells = false → o.isWalk = false → Kp W (W.putObj l o')) (hb0 : Below w0.heap.size w0 w) (hps : ∀ x, (encs x).size = ps.size)
    (I : List α → World → Prop) (Ix : Code → List α → World → Prop) (hI : OwnFrom w.heap.size I) (hIx : ∀ c, OwnFrom w.heap.size (Ix c)) (h0 : I [] w) (Ax : α → Act → World → Prop) (hAx : ∀ x a', OwnFrom w.heap.size (fun (_ : Unit) W => Ax x a' W))
    (hassign : ∀ (l : Nat) (pre : List α) (x : α) (W : World) (K : Act → World → Prop), I pre W → (∀ a' W', KeepsFrom w.heap.size W W' → StaysC (w.heap.size + 2) cn W W' → Kp W W' → I pre W' → Ax x a' W' → K a' W') →
      assign.wpIn (F.inRound l) (n - 1 - 1) P (Exit.then K (fun _ _ _ => False)) { tmps := (ps.zip (encs x)).foldl (fun t (p, v) => t.setIfInBounds p v) a.tmps, defers := [] } W)
    (hbody : ∀ (l : Nat) (pre : List α) (x : α) (a' : Act) (W : World), I pre W → Ax x a' W → pre.length < N → w.heap.size + 2 + cn ≤ W.heap.size → body.wpIn (F.inRound l) (n - 1 - 1) P (ownPostG w.heap.size (fun A B => StaysC (w.heap.size + 2) cn A B ∧ Kp A B) I Ix (pre ++ [x]) W) a' W)
    (hdone : ∀ (D : Nat) (xs : List α) (W : World), w.heap.size ≤ D → S xs → I xs W → W.heap[D]? = some (.deferred (some [])) → Q .normal { a with defers := { target := .collected D, args := #[] } :: a.defers } W)
    (hstop : ∀ (D : Nat) (c : Code) (pre : List α) (W : World), w.heap.size ≤ D → Sp pre → Ix c pre W → W.heap[D]? = some (.deferred (some [])) → c.wpIn F n P Q { a with defers := { target := .collected D, args := #[] } :: a.defers } W) :
    (Code.rangeFunc g ps assign body).wpIn F n P Q a w := by
  refine wpIn_rangeFunc ?_
  intro fn hfn
  rw [hro]
  obtain ⟨rec, hrec⟩ : ∃ rec : LoopState → Option Code → Loop, rec = fun st pe => { state := st, pending := pe, fn, tmps := a.tmps, params := ps, assign, body, defers := w.heap.size } := ⟨_, rfl⟩
  obtain ⟨V, hV⟩ : ∃ V, (w.alloc (.deferred (some []))).alloc (.loop (rec .ready none)) = V := ⟨_, rfl⟩
  have hVs : V.heap.size = w.heap.size + 1 + 1 := by rw [← hV]; simp
  have hVl : V.heap[w.heap.size + 1]? = some (.loop (rec .ready none)) := by
    have := World.alloc_heap_new (w.alloc (.deferred (some []))) (.loop (rec .ready none)); rwa [World.size_alloc, hV] at this
  have hVd : V.heap[w.heap.size]? = some (.deferred (some [])) := by
    rw [← hV]; exact (Below.heap_alloc _ _ _ (by simp)).trans (World.alloc_heap_new w _)
  have hVI : I [] V := by rw [← hV]; exact hI.alloc _ (hI.alloc _ h0)
  have hVb : Below w0.heap.size w0 V := by
    rw [← hV]; exact hb0.trans ((((Below.refl _ w).alloc (Nat.le_refl _) _).alloc (by simp) _).mono hb0.size)
  have two : ∀ (o : Obj), OwnFrom V.heap.size (fun (_ : List α) W => W.heap[w.heap.size + 1]? = some o ∧ W.heap[w.heap.size]? = some (.deferred (some []))) := fun o s X Y row hs hy hr =>
    ⟨grown_lower hy hr (by omega) hs.1, grown_lower hy hr (by omega) hs.2⟩
  have up : ∀ {β : Type} {I : β → World → Prop}, OwnFrom w.heap.size I → OwnFrom V.heap.size I := fun h s X Y row hs hy hr => h s X Y row hs hy (fun r e => ⟨by have := (hr r e).1; omega, (hr r e).2⟩)
  refine ⟨w.heap.size + 1, [{ target := .collected w.heap.size, args := #[] }], V, { target := .fn (.func gf) lb, args := #[.func (.yield (w.heap.size + 1)) #[] #[]] }, V, gf,
    #[.func (.yield (w.heap.size + 1)) #[] #[]] ++ lb, V, ?_, ?_, ?_, ?_, fun _ => h1, ?_⟩
  · rw [← hV, hrec]; exact run_enterLoop_outer _ _ _ _ _
  · simp only [resolve, hg]; simp [go_sem]
  · intro f' hf'; simp [Target.leads] at hf'; subst hf'; exact hFg
  · simp [invoke, go_sem, eg]
  refine (hseq (w.heap.size + 1)
    (fun pre W => I pre W ∧ W.heap[w.heap.size + 1]? = some (.loop (rec .ready none)) ∧ W.heap[w.heap.size]? = some (.deferred (some [])))
    (fun pre W => ∃ c, Ix c pre W ∧ W.heap[w.heap.size + 1]? = some (.loop (rec .done (some c))) ∧ W.heap[w.heap.size]? = some (.deferred (some [])))
    V hVb ((up hI).and (two _))
    (fun s X Y row hs hy hr => by obtain ⟨c, hs⟩ := hs; exact ⟨c, ((up (hIx c)).and (two _)) s X Y row hs hy hr⟩)
    ?_ ⟨hVI, hVl, hVd⟩).mono ?_
  · rintro pre x W ⟨hi, hl, hd⟩ hlen hsz
    have hy := run_yield (P := P) (args := encs x) hl (by rw [hrec]; exact hps x)
    rw [hrec] at hy
    refine ⟨fn, _, assign, body, hy, roundIn_of_wpIn hfn (hassign _ pre x W _ hi ?_)⟩
    clear hy
    intro a' U hkf hst hkp hiU hax
    have lU := hkf.same _ _ (by omega) hl rfl
    have dU := hkf.same _ _ (Nat.le_refl _) hd rfl
    have sU : w.heap.size + 1 < U.heap.size := (Array.getElem?_eq_some_iff.1 lU).1
    refine ⟨_, run_beginRound lU (by rw [hrec]), ?_⟩
    obtain ⟨U2, hU2⟩ : ∃ U2, U.putObj (w.heap.size + 1) (.loop { rec .ready none with state := .busy }) = U2 := ⟨_, rfl⟩
    rw [hU2]
    have lU2 : U2.heap[w.heap.size + 1]? = some (.loop { rec .ready none with state := .busy }) := by rw [← hU2]; exact World.putObj_heap_same sU
    have dU2 : U2.heap[w.heap.size]? = some (.deferred (some [])) := by rw [← hU2]; exact (World.putObj_heap_other (by omega)).trans dU
    have kU2 : Kp U U2 := by rw [← hU2]; exact hKb _ _ _ _ (by omega) lU rfl rfl
    have sU2 : StaysC V.heap.size cn U U2 := by rw [← hU2]; exact StaysC.grown (grownBy_putObj' _ _ _) (fun j e => by cases e; omega)
    have fU2 : KeepsFrom V.heap.size U U2 := by rw [← hU2]; exact KeepsFrom.of_grownBy (grownBy_putObj' _ _ _) (fun j e => by cases e; omega)
    have iU2 : I pre U2 := by rw [← hU2]; exact hI.putObj _ hiU (by omega) lU rfl
    have aU2 : Ax x a' U2 := by rw [← hU2]; exact (hAx x a').putObj (s := ()) _ hax (by omega) lU rfl
    refine wpIn_mono (hbody _ pre x a' _ iU2 aU2 hlen (by have h1 := hst.1; have h2 := sU2.1; omega)) ?_
    have fin : ∀ (jump : Option Code) (T : World), KeepsFrom w.heap.size U2 T →
        (Instr.endRound (w.heap.size + 1) jump).run P T = .ok (.bool jump.isNone) (T.putObj (w.heap.size + 1) (.loop (rec (if jump.isNone then .ready else .done) jump))) ∧
        T.heap[w.heap.size + 1]? = some (.loop { rec .ready none with state := .busy }) ∧
        (T.putObj (w.heap.size + 1) (.loop (rec (if jump.isNone then .ready else .done) jump))).heap[w.heap.size + 1]? = some (.loop (rec (if jump.isNone then .ready else .done) jump)) ∧
        (T.putObj (w.heap.size + 1) (.loop (rec (if jump.isNone then .ready else .done) jump))).heap[w.heap.size]? = some (.deferred (some [])) ∧
        KeepsFrom V.heap.size W (T.putObj (w.heap.size + 1) (.loop (rec (if jump.isNone then .ready else .done) jump))) := fun jump T hT => by
      have hl3 := hT.same _ _ (by omega) lU2 rfl
      have := run_endRound (P := P) jump hl3
      refine ⟨by rw [hrec] at this ⊢; exact this, hl3, World.putObj_heap_same (Array.getElem?_eq_some_iff.1 hl3).1, (World.putObj_heap_other (by omega)).trans (hT.same _ _ (Nat.le_refl _) dU2 rfl), ?_⟩
      exact ((keepsFrom_later hkf (by omega)).trans fU2).trans ((keepsFrom_later hT (by omega)).trans (KeepsFrom.of_grownBy (grownBy_putObj' _ _ _) (fun j e => by cases e; omega)))
    have stop : ∀ (c : Code) (T : World), KeepsFrom w.heap.size U2 T → Ix c (pre ++ [x]) T → ∃ b W', (Instr.endRound (w.heap.size + 1) (some c)).run P T = .ok b W' ∧
        ((b = .bool true ∧ (I (pre ++ [x]) W' ∧ W'.heap[w.heap.size + 1]? = some (.loop (rec .ready none)) ∧ W'.heap[w.heap.size]? = some (.deferred (some []))) ∧ KeepsFrom V.heap.size W W' ∧ StaysC V.heap.size cn W W' ∧ Kp W W') ∨
         (b = .bool false ∧ (∃ c, Ix c (pre ++ [x]) W' ∧ W'.heap[w.heap.size + 1]? = some (.loop (rec .done (some c))) ∧ W'.heap[w.heap.size]? = some (.deferred (some []))) ∧ KeepsFrom V.heap.size W W')) := fun c T hT hx => by
      obtain ⟨hr, hl3, hl4, hd4, hk4⟩ := fin (some c) T hT
      exact ⟨_, _, hr, .inr ⟨rfl, ⟨c, (hIx _).putObj _ hx (by omega) hl3 rfl, hl4, hd4⟩, hk4⟩⟩
    rintro e a3 T hp
    cases e with
    | normal =>
      obtain ⟨hk3, ⟨hst3, hkp3⟩, hi3⟩ := hp
      obtain ⟨hr, hl3, hl4, hd4, hk4⟩ := fin none T hk3
      exact ⟨_, _, hr, .inl ⟨rfl, ⟨hI.putObj _ hi3 (by omega) hl3 rfl, hl4, hd4⟩, hk4, ((hVs ▸ hst : StaysC V.heap.size cn W U).trans sU2).trans ((hVs ▸ hst3 : StaysC V.heap.size cn U2 T).trans (StaysC.grown (grownBy_putObj' _ _ _) (fun j e => by cases e; omega))), hKt hkp (hKt (hKt kU2 hkp3) (hKb _ _ _ _ (by omega) hl3 rfl rfl))⟩⟩
    | ret => obtain ⟨b, W', hr, h⟩ := stop .ret T hp.1 hp.2; exact ⟨_, _, hr, h.elim (fun h => .inl ⟨by rw [h.1], h.2⟩) (fun h => .inr ⟨by rw [h.1], h.2⟩)⟩
    | exit id => obtain ⟨b, W', hr, h⟩ := stop (.exit id) T hp.1 hp.2; exact ⟨_, _, hr, h.elim (fun h => .inl ⟨by rw [h.1], h.2⟩) (fun h => .inr ⟨by rw [h.1], h.2⟩)⟩
    | goto t => obtain ⟨b, W', hr, h⟩ := stop (.goto t) T hp.1 hp.2; exact ⟨_, _, hr, h.elim (fun h => .inl ⟨by rw [h.1], h.2⟩) (fun h => .inr ⟨by rw [h.1], h.2⟩)⟩
    | panic ch => exact hp.elim
    | outgrown => exact hp.elim
  · rintro e W2 ⟨⟨v, rfl⟩, (⟨xs, hS, hi, hl, hk⟩ | ⟨pre, hSp, c, hi, hl, hk⟩)⟩
    · exact ⟨none, _, by have := run_endLoop (P := P) hl (by rw [hrec]; simp); rw [hrec] at this; exact this, hdone _ xs _ (Nat.le_refl _) hS (hI.putObj _ hi (by omega) hl rfl) ((World.putObj_heap_other (by omega)).trans hk)⟩
    · exact ⟨some c, _, by have := run_endLoop (P := P) hl (by rw [hrec]; simp); rw [hrec] at this; exact this, hstop _ c pre _ (Nat.le_refl _) hSp ((hIx c).putObj _ hi (by omega) hl rfl) ((World.putObj_heap_other (by omega)).trans hk)⟩
end Go.Proofs.YtjhnaeomaigimaaGreatDoor
set_option linter.unusedVariables false
namespace Go.Proofs.YtjhnaeomaigimaaGreatDoor
open Go.RowKit Go.Shelf
def SeqD {α : Type} (c : Nat) (F : Fence) (n : Nat) (P : Program) (g : Nat) (lb : Array Value) (encs : α → Array Value) (Kp : World → World → Prop) (S Sp : List α → Prop) (N : Nat) (R : α → World → Prop) (w : World) : Prop :=
  ∀ (l : Nat) (J Jx : List α → World → Prop) (W : World), Below w.heap.size w W → OwnFrom W.heap.size J → OwnFrom W.heap.size Jx →
    (∀ pre x W1, J pre W1 → R x W1 → pre.length < N → W.heap.size + c ≤ W1.heap.size → YieldAt F (n - 1) P l (encs x) W1 fun e W' =>
      (e = .returned (.bool true) ∧ J (pre ++ [x]) W' ∧ KeepsFrom W.heap.size W1 W' ∧ StaysC W.heap.size c W1 W' ∧ Kp W1 W') ∨ (e = .returned (.bool false) ∧ Jx (pre ++ [x]) W' ∧ KeepsFrom W.heap.size W1 W')) →
    J [] W →
    CallsIn F n P g (#[.func (.yield l) #[] #[]] ++ lb) W fun e W' => (∃ v, e = .returned v) ∧ ((∃ xs, S xs ∧ J xs W') ∨ (∃ pre, Sp pre ∧ Jx pre W'))

theorem range_d {cn : Nat} {F : Fence} {n : Nat} {P : Program} {α : Type} {g : Operand} {ps : Array Tmp} {assign body : Code} {Q : Exit → Act → World → Prop} {a : Act} {w : World}
    (hro : F.round = none) (h1 : 1 ≤ n) {gf : Nat} {lb : Array Value} (hg : a.eval g = .func (.func gf) #[] lb) (hFg : F.fn gf) (eg : ∀ args w, (callFunc gf args).run P w = .ok (.enter gf args) w)
    {encs : α → Array Value} {Kp : World → World → Prop} {S Sp : List α → Prop} {N : Nat} {R : α → World → Prop} {w0 : World} (hseq : SeqD cn F (n - 1) P gf lb encs Kp S Sp N R w0)
    (hKt : ∀ {A B C : World}, Kp A B → Kp B C → Kp A C) (hKb : ∀ (W : World) (l : Nat) (o o' : Obj), w.heap.size ≤ l → W.heap[l]? = some o → o.isCells = false → o.isWalk = false → Kp W (W.putObj l o')) (hb0 : Below w0.heap.size w0 w) (hps : ∀ x, (encs x).size = ps.size)
    (I : List α → World → Prop) (Ix : Code → List α → World → Prop) (hI : OwnFrom w.heap.size I) (hIx : ∀ c, OwnFrom w.heap.size (Ix c)) (h0 : I [] w) (Ax : α → Act → World → Prop) (hAx : ∀ x a', OwnFrom w.heap.size (fun (_ : Unit) W => Ax x a' W))
    (hassign : ∀ (l : Nat) (pre : List α) (x : α) (W : World) (K : Act → World → Prop), I pre W → R x W → (∀ a' W', KeepsFrom w.heap.size W W' → StaysC (w.heap.size + 2) cn W W' → Kp W W' → I pre W' → Ax x a' W' → K a' W') →
      assign.wpIn (F.inRound l) (n - 1 - 1) P (Exit.then K (fun _ _ _ => False)) { tmps := (ps.zip (encs x)).foldl (fun t (p, v) => t.setIfInBounds p v) a.tmps, defers := [] } W)
    (hbody : ∀ (l : Nat) (pre : List α) (x : α) (a' : Act) (W : World), I pre W → Ax x a' W → pre.length < N → w.heap.size + 2 + cn ≤ W.heap.size → body.wpIn (F.inRound l) (n - 1 - 1) P (ownPostG w.heap.size (fun A B => StaysC (w.heap.size + 2) cn A B ∧ Kp A B) I Ix (pre ++ [x]) W) a' W)
    (hdone : ∀ (D : Nat) (xs : List α) (W : World), w.heap.size ≤ D → S xs → I xs W → W.heap[D]? = some (.deferred (some [])) → Q .normal { a with defers := { target := .collected D, args := #[] } :: a.defers } W)
    (hstop : ∀ (D : Nat) (c : Code) (pre : List α) (W : World), w.heap.size ≤ D → Sp pre → Ix c pre W → W.heap[D]? = some (.deferred (some [])) → c.wpIn F n P Q { a with defers := { target := .collected D, args := #[] } :: a.defers } W) :
    (Code.rangeFunc g ps assign body).wpIn F n P Q a w := by
  refine wpIn_rangeFunc ?_
  intro fn hfn
  rw [hro]
  obtain ⟨rec, hrec⟩ : ∃ rec : LoopState → Option Code → Loop, rec = fun st pe => { state := st, pending := pe, fn, tmps := a.tmps, params := ps, assign, body, defers := w.heap.size } := ⟨_, rfl⟩
  obtain ⟨V, hV⟩ : ∃ V, (w.alloc (.deferred (some []))).alloc (.loop (rec .ready none)) = V := ⟨_, rfl⟩
  have hVs : V.heap.size = w.heap.size + 1 + 1 := by rw [← hV]; simp
  have hVl : V.heap[w.heap.size + 1]? = some (.loop (rec .ready none)) := by
    have := World.alloc_heap_new (w.alloc (.deferred (some []))) (.loop (rec .ready none)); rwa [World.size_alloc, hV] at this
  have hVd : V.heap[w.heap.size]? = some (.deferred (some [])) := by
    rw [← hV]; exact (Below.heap_alloc _ _ _ (by simp)).trans (World.alloc_heap_new w _)
  have hVI : I [] V := by rw [← hV]; exact hI.alloc _ (hI.alloc _ h0)
  have hVb : Below w0.heap.size w0 V := by
    rw [← hV]; exact hb0.trans ((((Below.refl _ w).alloc (Nat.le_refl _) _).alloc (by simp) _).mono hb0.size)
  have two : ∀ (o : Obj), OwnFrom V.heap.size (fun (_ : List α) W => W.heap[w.heap.size + 1]? = some o ∧ W.heap[w.heap.size]? = some (.deferred (some []))) := fun o s X Y row hs hy hr =>
    ⟨grown_lower hy hr (by omega) hs.1, grown_lower hy hr (by omega) hs.2⟩
  have up : ∀ {β : Type} {I : β → World → Prop}, OwnFrom w.heap.size I → OwnFrom V.heap.size I := fun h s X Y row hs hy hr => h s X Y row hs hy (fun r e => ⟨by have := (hr r e).1; omega, (hr r e).2⟩)
  refine ⟨w.heap.size + 1, [{ target := .collected w.heap.size, args := #[] }], V, { target := .fn (.func gf) lb, args := #[.func (.yield (w.heap.size + 1)) #[] #[]] }, V, gf,
    #[.func (.yield (w.heap.size + 1)) #[] #[]] ++ lb, V, ?_, ?_, ?_, ?_, fun _ => h1, ?_⟩
  · rw [← hV, hrec]; exact run_enterLoop_outer _ _ _ _ _
  · simp only [resolve, hg]; simp [go_sem]
  · intro f' hf'; simp [Target.leads] at hf'; subst hf'; exact hFg
  · simp [invoke, go_sem, eg]
  refine (hseq (w.heap.size + 1)
    (fun pre W => I pre W ∧ W.heap[w.heap.size + 1]? = some (.loop (rec .ready none)) ∧ W.heap[w.heap.size]? = some (.deferred (some [])))
    (fun pre W => ∃ c, Ix c pre W ∧ W.heap[w.heap.size + 1]? = some (.loop (rec .done (some c))) ∧ W.heap[w.heap.size]? = some (.deferred (some [])))
    V hVb ((up hI).and (two _))
    (fun s X Y row hs hy hr => by obtain ⟨c, hs⟩ := hs; exact ⟨c, ((up (hIx c)).and (two _)) s X Y row hs hy hr⟩)
    ?_ ⟨hVI, hVl, hVd⟩).mono ?_
  · rintro pre x W ⟨hi, hl, hd⟩ hR hlen hsz
    have hy := run_yield (P := P) (args := encs x) hl (by rw [hrec]; exact hps x)
    rw [hrec] at hy
    refine ⟨fn, _, assign, body, hy, roundIn_of_wpIn hfn (hassign _ pre x W _ hi hR ?_)⟩
    clear hy
    intro a' U hkf hst hkp hiU hax
    have lU := hkf.same _ _ (by omega) hl rfl
    have dU := hkf.same _ _ (Nat.le_refl _) hd rfl
    have sU : w.heap.size + 1 < U.heap.size := (Array.getElem?_eq_some_iff.1 lU).1
    refine ⟨_, run_beginRound lU (by rw [hrec]), ?_⟩
    obtain ⟨U2, hU2⟩ : ∃ U2, U.putObj (w.heap.size + 1) (.loop { rec .ready none with state := .busy }) = U2 := ⟨_, rfl⟩
    rw [hU2]
    have lU2 : U2.heap[w.heap.size + 1]? = some (.loop { rec .ready none with state := .busy }) := by rw [← hU2]; exact World.putObj_heap_same sU
    have dU2 : U2.heap[w.heap.size]? = some (.deferred (some [])) := by rw [← hU2]; exact (World.putObj_heap_other (by omega)).trans dU
    have kU2 : Kp U U2 := by rw [← hU2]; exact hKb _ _ _ _ (by omega) lU rfl rfl
    have sU2 : StaysC V.heap.size cn U U2 := by rw [← hU2]; exact StaysC.grown (grownBy_putObj' _ _ _) (fun j e => by cases e; omega)
    have fU2 : KeepsFrom V.heap.size U U2 := by rw [← hU2]; exact KeepsFrom.of_grownBy (grownBy_putObj' _ _ _) (fun j e => by cases e; omega)
    have iU2 : I pre U2 := by rw [← hU2]; exact hI.putObj _ hiU (by omega) lU rfl
    have aU2 : Ax x a' U2 := by rw [← hU2]; exact (hAx x a').putObj (s := ()) _ hax (by omega) lU rfl
    refine wpIn_mono (hbody _ pre x a' _ iU2 aU2 hlen (by have h1 := hst.1; have h2 := sU2.1; omega)) ?_
    have fin : ∀ (jump : Option Code) (T : World), KeepsFrom w.heap.size U2 T →
        (Instr.endRound (w.heap.size + 1) jump).run P T = .ok (.bool jump.isNone) (T.putObj (w.heap.size + 1) (.loop (rec (if jump.isNone then .ready else .done) jump))) ∧
        T.heap[w.heap.size + 1]? = some (.loop { rec .ready none with state := .busy }) ∧
        (T.putObj (w.heap.size + 1) (.loop (rec (if jump.isNone then .ready else .done) jump))).heap[w.heap.size + 1]? = some (.loop (rec (if jump.isNone then .ready else .done) jump)) ∧
        (T.putObj (w.heap.size + 1) (.loop (rec (if jump.isNone then .ready else .done) jump))).heap[w.heap.size]? = some (.deferred (some [])) ∧
        KeepsFrom V.heap.size W (T.putObj (w.heap.size + 1) (.loop (rec (if jump.isNone then .ready else .done) jump))) := fun jump T hT => by
      have hl3 := hT.same _ _ (by omega) lU2 rfl
      have := run_endRound (P := P) jump hl3
      refine ⟨by rw [hrec] at this ⊢; exact this, hl3, World.putObj_heap_same (Array.getElem?_eq_some_iff.1 hl3).1, (World.putObj_heap_other (by omega)).trans (hT.same _ _ (Nat.le_refl _) dU2 rfl), ?_⟩
      exact ((keepsFrom_later hkf (by omega)).trans fU2).trans ((keepsFrom_later hT (by omega)).trans (KeepsFrom.of_grownBy (grownBy_putObj' _ _ _) (fun j e => by cases e; omega)))
    have stop : ∀ (c : Code) (T : World), KeepsFrom w.heap.size U2 T → Ix c (pre ++ [x]) T → ∃ b W', (Instr.endRound (w.heap.size + 1) (some c)).run P T = .ok b W' ∧
        ((b = .bool true ∧ (I (pre ++ [x]) W' ∧ W'.heap[w.heap.size + 1]? = some (.loop (rec .ready none)) ∧ W'.heap[w.heap.size]? = some (.deferred (some []))) ∧ KeepsFrom V.heap.size W W' ∧ StaysC V.heap.size cn W W' ∧ Kp W W') ∨
         (b = .bool false ∧ (∃ c, Ix c (pre ++ [x]) W' ∧ W'.heap[w.heap.size + 1]? = some (.loop (rec .done (some c))) ∧ W'.heap[w.heap.size]? = some (.deferred (some []))) ∧ KeepsFrom V.heap.size W W')) := fun c T hT hx => by
      obtain ⟨hr, hl3, hl4, hd4, hk4⟩ := fin (some c) T hT
      exact ⟨_, _, hr, .inr ⟨rfl, ⟨c, (hIx _).putObj _ hx (by omega) hl3 rfl, hl4, hd4⟩, hk4⟩⟩
    rintro e a3 T hp
    cases e with
    | normal =>
      obtain ⟨hk3, ⟨hst3, hkp3⟩, hi3⟩ := hp
      obtain ⟨hr, hl3, hl4, hd4, hk4⟩ := fin none T hk3
      exact ⟨_, _, hr, .inl ⟨rfl, ⟨hI.putObj _ hi3 (by omega) hl3 rfl, hl4, hd4⟩, hk4, ((hVs ▸ hst : StaysC V.heap.size cn W U).trans sU2).trans ((hVs ▸ hst3 : StaysC V.heap.size cn U2 T).trans (StaysC.grown (grownBy_putObj' _ _ _) (fun j e => by cases e; omega))), hKt hkp (hKt (hKt kU2 hkp3) (hKb _ _ _ _ (by omega) hl3 rfl rfl))⟩⟩
    | ret => obtain ⟨b, W', hr, h⟩ := stop .ret T hp.1 hp.2; exact ⟨_, _, hr, h.elim (fun h => .inl ⟨by rw [h.1], h.2⟩) (fun h => .inr ⟨by rw [h.1], h.2⟩)⟩
    | exit id => obtain ⟨b, W', hr, h⟩ := stop (.exit id) T hp.1 hp.2; exact ⟨_, _, hr, h.elim (fun h => .inl ⟨by rw [h.1], h.2⟩) (fun h => .inr ⟨by rw [h.1], h.2⟩)⟩
    | goto t => obtain ⟨b, W', hr, h⟩ := stop (.goto t) T hp.1 hp.2; exact ⟨_, _, hr, h.elim (fun h => .inl ⟨by rw [h.1], h.2⟩) (fun h => .inr ⟨by rw [h.1], h.2⟩)⟩
    | panic ch => exact hp.elim
    | outgrown => exact hp.elim
  · rintro e W2 ⟨⟨v, rfl⟩, (⟨xs, hS, hi, hl, hk⟩ | ⟨pre, hSp, c, hi, hl, hk⟩)⟩
    · exact ⟨none, _, by have := run_endLoop (P := P) hl (by rw [hrec]; simp); rw [hrec] at this; exact this, hdone _ xs _ (Nat.le_refl _) hS (hI.putObj _ hi (by omega) hl rfl) ((World.putObj_heap_other (by omega)).trans hk)⟩
    · exact ⟨some c, _, by have := run_endLoop (P := P) hl (by rw [hrec]; simp); rw [hrec] at this; exact this, hstop _ c pre _ (Nat.le_refl _) hSp ((hIx c).putObj _ hi (by omega) hl rfl) ((World.putObj_heap_other (by omega)).trans hk)⟩
end Go.Proofs.YtjhnaeomaigimaaGreatDoor
