/- A loop over an iterator that writes some blocks of the caller's, too: the caller's facts bear those blocks' turns. -/
import Derived.Test.YtlapjkbefkmohaaGreatSdDev2
import Derived.RangeFuncNested
import Derived.RangeFuncBox
import Derived.OwnWalkIn
set_option linter.unusedVariables false
namespace Go.Proofs.YtlapjkbefkmohaaGreat
open Go.RowKit Go.Shelf
/-- The block in which the slice of box B has its row. -/
def slB (W : World) (B : Nat) : Option Nat := match W.cell? ⟨B, 0, none⟩ with | some v => v.ownBlock | .none => .none
/-- Facts that bear whatever befalls cells from B0 on, other than box B and the row of its slice. -/
def GrowT {β : Type} (B B0 : Nat) (I : β → World → Prop) : Prop := ∀ (s : β) (X Y : World) (g : Nat) (o : Obj), I s X → X.grownBy Y (some g) → B0 ≤ g → X.heap[g]? = some o → o.isCells = true → g ≠ B → slB X B ≠ some g → I s Y
def SeqT {α : Type} (c Bs B0 : Nat) (F : Fence) (n : Nat) (P : Program) (g : Nat) (lb : Array Value) (encs : α → Array Value) (Kp : World → World → Prop) (S : List α → World → Prop) (Sp : List α → Prop) (N : Nat) (w : World) : Prop :=
 ∀ (l : Nat) (J Jx : List α → World → Prop) (W : World), Below w.heap.size w W → OwnFrom W.heap.size J → OwnFrom W.heap.size Jx → GrowT Bs B0 J → GrowT Bs B0 Jx →
  (∀ pre x W1, J pre W1 → pre.length < N → W.heap.size + c ≤ W1.heap.size → YieldAt F (n - 1) P l (encs x) W1 fun e W' =>
   (e = .returned (.bool true) ∧ J (pre ++ [x]) W' ∧ KeepsFrom W.heap.size W1 W' ∧ StaysC W.heap.size c W1 W' ∧ Kp W1 W') ∨ (e = .returned (.bool false) ∧ Jx (pre ++ [x]) W' ∧ KeepsFrom W.heap.size W1 W')) →
  J [] W →
  CallsIn F n P g (#[.func (.yield l) #[] #[]] ++ lb) W fun e W' => (∃ v, e = .returned v) ∧ ((∃ xs, S xs W' ∧ J xs W') ∨ (∃ pre, Sp pre ∧ Jx pre W'))
theorem range_t {cn Bs B0 : Nat} {F : Fence} {n : Nat} {P : Program} {α : Type} {g : Operand} {ps : Array Tmp} {assign body : Code} {Q : Exit → Act → World → Prop} {a : Act} {w : World}
 (hro : F.round = none) (h1 : 1 ≤ n) {gf : Nat} {lb : Array Value} (hg : a.eval g = .func (.func gf) #[] lb) (hFg : F.fn gf) (eg : ∀ args w, (callFunc gf args).run P w = .ok (.enter gf args) w)
 {encs : α → Array Value} {Kp : World → World → Prop} {S : List α → World → Prop} {Sp : List α → Prop} {N : Nat} {w0 : World} (hseq : SeqT cn Bs B0 F (n - 1) P gf lb encs Kp S Sp N w0)
 (hKt : ∀ {A B C : World}, Kp A B → Kp B C → Kp A C) (hKb : ∀ (W : World) (l : Nat) (o o' : Obj), w.heap.size ≤ l → W.heap[l]? = some o → o.isCells = false → o.isWalk = false → Kp W (W.putObj l o')) (hb0 : Below w0.heap.size w0 w) (hps : ∀ x, (encs x).size = ps.size)
 (I : List α → World → Prop) (Ix : Code → List α → World → Prop) (hI : OwnFrom w.heap.size I) (hIx : ∀ c, OwnFrom w.heap.size (Ix c)) (h0 : I [] w) (hIG : GrowT Bs B0 I) (hIxG : ∀ c, GrowT Bs B0 (Ix c)) (hSO : OwnFrom w.heap.size S) (Ax : α → Act → World → Prop) (hAx : ∀ x a', OwnFrom w.heap.size (fun (_ : Unit) W => Ax x a' W))
 (hassign : ∀ (l : Nat) (pre : List α) (x : α) (W : World) (K : Act → World → Prop), I pre W → (∀ a' W', KeepsFrom w.heap.size W W' → StaysC (w.heap.size + 2) cn W W' → Kp W W' → I pre W' → Ax x a' W' → K a' W') →
  assign.wpIn (F.inRound l) (n - 1 - 1) P (Exit.then K (fun _ _ _ => False)) { tmps := (ps.zip (encs x)).foldl (fun t (p, v) => t.setIfInBounds p v) a.tmps, defers := [] } W)
 (hbody : ∀ (l : Nat) (pre : List α) (x : α) (a' : Act) (W : World), I pre W → Ax x a' W → pre.length < N → w.heap.size + 2 + cn ≤ W.heap.size → body.wpIn (F.inRound l) (n - 1 - 1) P (ownPostG w.heap.size (fun A B => StaysC (w.heap.size + 2) cn A B ∧ Kp A B) I Ix (pre ++ [x]) W) a' W)
 (hdone : ∀ (D : Nat) (xs : List α) (W : World), w.heap.size ≤ D → S xs W → I xs W → W.heap[D]? = some (.deferred (some [])) → Q .normal { a with defers := { target := .collected D, args := #[] } :: a.defers } W)
 (hstop : ∀ (D : Nat) (c : Code) (pre : List α) (W : World), w.heap.size ≤ D → Sp pre → Ix c pre W → W.heap[D]? = some (.deferred (some [])) → c.wpIn F n P Q { a with defers := { target := .collected D, args := #[] } :: a.defers } W) :
 (Code.rangeFunc g ps assign body).wpIn F n P Q a w := by
 refine wpIn_rangeFunc ?_
 intro fn hfn
 rw [hro]
 obtain ⟨rec, hrec⟩ : ∃ rec : LoopState → Option Code → Loop, rec = fun st pe => { state := st, pending := pe, fn, tmps := a.tmps, params := ps, assign, body, defers := w.heap.size } := ⟨_, rfl⟩
 obtain ⟨V, hV⟩ : ∃ V, (w.alloc (.deferred (some []))).alloc (.loop (rec .ready none)) = V := ⟨_, rfl⟩
 have hVs : V.heap.size = w.heap.size + 1 + 1 := by rw [← hV]; simp
 have hVl : V.heap[w.heap.size + 1]? = some (.loop (rec .ready none)) := by
  have := World.alloc_heap_new (w.alloc (.deferred (some []))) (.loop (rec .ready none)); rwa [World.size_alloc, hV] at this
 have hVd : V.heap[w.heap.size]? = some (.deferred (some [])) := by
  rw [← hV]; exact (Below.heap_alloc _ _ _ (by simp)).trans (World.alloc_heap_new w _)
 have hVI : I [] V := by rw [← hV]; exact hI.alloc _ (hI.alloc _ h0)
 have hVb : Below w0.heap.size w0 V := by
  rw [← hV]; exact hb0.trans ((((Below.refl _ w).alloc (Nat.le_refl _) _).alloc (by simp) _).mono hb0.size)
 have two : ∀ (o : Obj), OwnFrom V.heap.size (fun (_ : List α) W => W.heap[w.heap.size + 1]? = some o ∧ W.heap[w.heap.size]? = some (.deferred (some []))) := fun o s X Y row hs hy hr =>
  ⟨grown_lower hy hr (by omega) hs.1, grown_lower hy hr (by omega) hs.2⟩
 have up : ∀ {β : Type} {I : β → World → Prop}, OwnFrom w.heap.size I → OwnFrom V.heap.size I := fun h s X Y row hs hy hr => h s X Y row hs hy (fun r e => ⟨by have := (hr r e).1; omega, (hr r e).2⟩)
 have g1 : ∀ {X Y : World} (k : Nat) (u o : Obj) (g : Nat), X.heap[k]? = some u → u.isCells = false → X.grownBy Y (some g) → X.heap[g]? = some o → o.isCells = true → Y.heap[k]? = some u := fun k u o g hx hu hy hg ho =>
  (hy.block _ (Array.getElem?_eq_some_iff.1 hx).1 (by intro e; injection e with e; subst e; rw [hx] at hg; cases hg; rw [hu] at ho; cases ho)).trans hx
 refine ⟨w.heap.size + 1, [{ target := .collected w.heap.size, args := #[] }], V, { target := .fn (.func gf) lb, args := #[.func (.yield (w.heap.size + 1)) #[] #[]] }, V, gf,
  #[.func (.yield (w.heap.size + 1)) #[] #[]] ++ lb, V, ?_, ?_, ?_, ?_, fun _ => h1, ?_⟩
 · rw [← hV, hrec]; exact run_enterLoop_outer _ _ _ _ _
 · simp only [resolve, hg]; simp [go_sem]
 · intro f' hf'; simp [Target.leads] at hf'; subst hf'; exact hFg
 · simp [invoke, go_sem, eg]
 refine (hseq (w.heap.size + 1)
  (fun pre W => I pre W ∧ W.heap[w.heap.size + 1]? = some (.loop (rec .ready none)) ∧ W.heap[w.heap.size]? = some (.deferred (some [])))
  (fun pre W => ∃ c, Ix c pre W ∧ W.heap[w.heap.size + 1]? = some (.loop (rec .done (some c))) ∧ W.heap[w.heap.size]? = some (.deferred (some [])))
  V hVb ((up hI).and (two _))
  (fun s X Y row hs hy hr => by obtain ⟨c, hs⟩ := hs; exact ⟨c, ((up (hIx c)).and (two _)) s X Y row hs hy hr⟩)
  (fun s X Y g o hs hy h0 hg ho n1 n2 => ⟨hIG s X Y g o hs.1 hy h0 hg ho n1 n2, g1 _ _ o g hs.2.1 rfl hy hg ho, g1 _ _ o g hs.2.2 rfl hy hg ho⟩) (fun s X Y g o hs hy h0 hg ho n1 n2 => by obtain ⟨c, hs⟩ := hs; exact ⟨c, hIxG c s X Y g o hs.1 hy h0 hg ho n1 n2, g1 _ _ o g hs.2.1 rfl hy hg ho, g1 _ _ o g hs.2.2 rfl hy hg ho⟩) ?_ ⟨hVI, hVl, hVd⟩).mono ?_
 · rintro pre x W ⟨hi, hl, hd⟩ hlen hsz
   have hy := run_yield (P := P) (args := encs x) hl (by rw [hrec]; exact hps x)
   rw [hrec] at hy
   refine ⟨fn, _, assign, body, hy, roundIn_of_wpIn hfn (hassign _ pre x W _ hi ?_)⟩
   clear hy
   intro a' U hkf hst hkp hiU hax
   have lU := hkf.same _ _ (by omega) hl rfl
   have dU := hkf.same _ _ (Nat.le_refl _) hd rfl
   have sU : w.heap.size + 1 < U.heap.size := (Array.getElem?_eq_some_iff.1 lU).1
   refine ⟨_, run_beginRound lU (by rw [hrec]), ?_⟩
   obtain ⟨U2, hU2⟩ : ∃ U2, U.putObj (w.heap.size + 1) (.loop { rec .ready none with state := .busy }) = U2 := ⟨_, rfl⟩
   rw [hU2]
   have lU2 : U2.heap[w.heap.size + 1]? = some (.loop { rec .ready none with state := .busy }) := by rw [← hU2]; exact World.putObj_heap_same sU
   have dU2 : U2.heap[w.heap.size]? = some (.deferred (some [])) := by rw [← hU2]; exact (World.putObj_heap_other (by omega)).trans dU
   have kU2 : Kp U U2 := by rw [← hU2]; exact hKb _ _ _ _ (by omega) lU rfl rfl
   have sU2 : StaysC V.heap.size cn U U2 := by rw [← hU2]; exact StaysC.grown (grownBy_putObj' _ _ _) (fun j e => by cases e; omega)
   have fU2 : KeepsFrom V.heap.size U U2 := by rw [← hU2]; exact KeepsFrom.of_grownBy (grownBy_putObj' _ _ _) (fun j e => by cases e; omega)
   have iU2 : I pre U2 := by rw [← hU2]; exact hI.putObj _ hiU (by omega) lU rfl
   have aU2 : Ax x a' U2 := by rw [← hU2]; exact (hAx x a').putObj (s := ()) _ hax (by omega) lU rfl
   refine wpIn_mono (hbody _ pre x a' _ iU2 aU2 hlen (by have h1 := hst.1; have h2 := sU2.1; omega)) ?_
   have fin : ∀ (jump : Option Code) (T : World), KeepsFrom w.heap.size U2 T →
    (Instr.endRound (w.heap.size + 1) jump).run P T = .ok (.bool jump.isNone) (T.putObj (w.heap.size + 1) (.loop (rec (if jump.isNone then .ready else .done) jump))) ∧
    T.heap[w.heap.size + 1]? = some (.loop { rec .ready none with state := .busy }) ∧
    (T.putObj (w.heap.size + 1) (.loop (rec (if jump.isNone then .ready else .done) jump))).heap[w.heap.size + 1]? = some (.loop (rec (if jump.isNone then .ready else .done) jump)) ∧
    (T.putObj (w.heap.size + 1) (.loop (rec (if jump.isNone then .ready else .done) jump))).heap[w.heap.size]? = some (.deferred (some [])) ∧
    KeepsFrom V.heap.size W (T.putObj (w.heap.size + 1) (.loop (rec (if jump.isNone then .ready else .done) jump))) := fun jump T hT => by
    have hl3 := hT.same _ _ (by omega) lU2 rfl
    have := run_endRound (P := P) jump hl3
    refine ⟨by rw [hrec] at this ⊢; exact this, hl3, World.putObj_heap_same (Array.getElem?_eq_some_iff.1 hl3).1, (World.putObj_heap_other (by omega)).trans (hT.same _ _ (Nat.le_refl _) dU2 rfl), ?_⟩
    exact ((keepsFrom_later hkf (by omega)).trans fU2).trans ((keepsFrom_later hT (by omega)).trans (KeepsFrom.of_grownBy (grownBy_putObj' _ _ _) (fun j e => by cases e; omega)))
   have stop : ∀ (c : Code) (T : World), KeepsFrom w.heap.size U2 T → Ix c (pre ++ [x]) T → ∃ b W', (Instr.endRound (w.heap.size + 1) (some c)).run P T = .ok b W' ∧
    ((b = .bool true ∧ (I (pre ++ [x]) W' ∧ W'.heap[w.heap.size + 1]? = some (.loop (rec .ready none)) ∧ W'.heap[w.heap.size]? = some (.deferred (some []))) ∧ KeepsFrom V.heap.size W W' ∧ StaysC V.heap.size cn W W' ∧ Kp W W') ∨
     (b = .bool false ∧ (∃ c, Ix c (pre ++ [x]) W' ∧ W'.heap[w.heap.size + 1]? = some (.loop (rec .done (some c))) ∧ W'.heap[w.heap.size]? = some (.deferred (some []))) ∧ KeepsFrom V.heap.size W W')) := fun c T hT hx => by
    obtain ⟨hr, hl3, hl4, hd4, hk4⟩ := fin (some c) T hT
    exact ⟨_, _, hr, .inr ⟨rfl, ⟨c, (hIx _).putObj _ hx (by omega) hl3 rfl, hl4, hd4⟩, hk4⟩⟩
   rintro e a3 T hp
   cases e with
   | normal =>
    obtain ⟨hk3, ⟨hst3, hkp3⟩, hi3⟩ := hp
    obtain ⟨hr, hl3, hl4, hd4, hk4⟩ := fin none T hk3
    exact ⟨_, _, hr, .inl ⟨rfl, ⟨hI.putObj _ hi3 (by omega) hl3 rfl, hl4, hd4⟩, hk4, ((hVs ▸ hst : StaysC V.heap.size cn W U).trans sU2).trans ((hVs ▸ hst3 : StaysC V.heap.size cn U2 T).trans (StaysC.grown (grownBy_putObj' _ _ _) (fun j e => by cases e; omega))), hKt hkp (hKt (hKt kU2 hkp3) (hKb _ _ _ _ (by omega) hl3 rfl rfl))⟩⟩
   | ret => obtain ⟨b, W', hr, h⟩ := stop .ret T hp.1 hp.2; exact ⟨_, _, hr, h.elim (fun h => .inl ⟨by rw [h.1], h.2⟩) (fun h => .inr ⟨by rw [h.1], h.2⟩)⟩
   | exit id => obtain ⟨b, W', hr, h⟩ := stop (.exit id) T hp.1 hp.2; exact ⟨_, _, hr, h.elim (fun h => .inl ⟨by rw [h.1], h.2⟩) (fun h => .inr ⟨by rw [h.1], h.2⟩)⟩
   | goto t => obtain ⟨b, W', hr, h⟩ := stop (.goto t) T hp.1 hp.2; exact ⟨_, _, hr, h.elim (fun h => .inl ⟨by rw [h.1], h.2⟩) (fun h => .inr ⟨by rw [h.1], h.2⟩)⟩
   | panic ch => exact hp.elim
   | outgrown => exact hp.elim
 · rintro e W2 ⟨⟨v, rfl⟩, (⟨xs, hS, hi, hl, hk⟩ | ⟨pre, hSp, c, hi, hl, hk⟩)⟩
   · exact ⟨none, _, by have := run_endLoop (P := P) hl (by rw [hrec]; simp); rw [hrec] at this; exact this, hdone _ xs _ (Nat.le_refl _) (hSO.putObj _ hS (by omega) hl rfl) (hI.putObj _ hi (by omega) hl rfl) ((World.putObj_heap_other (by omega)).trans hk)⟩
   · exact ⟨some c, _, by have := run_endLoop (P := P) hl (by rw [hrec]; simp); rw [hrec] at this; exact this, hstop _ c pre _ (Nat.le_refl _) hSp ((hIx c).putObj _ hi (by omega) hl rfl) ((World.putObj_heap_other (by omega)).trans hk)⟩
/-! ### A caller that collects: its box Bs holds the slice, all else of its own and of others' stays -/
structure KeepS (B : Nat) (X Y : World) : Prop where
 size : X.heap.size ≤ Y.heap.size
 same : ∀ (k : Nat) (o : Obj), X.heap[k]? = some o → o.isCells = true → k ≠ B → slB X B ≠ some k → Y.heap[k]? = some o
 sl : slB Y B = slB X B ∨ ∃ g, slB Y B = some g ∧ X.heap.size ≤ g
 wf : (∀ g, slB X B = some g → g < X.heap.size) → ∀ g, slB Y B = some g → g < Y.heap.size
theorem KeepS.trans {B : Nat} {X Y Z : World} (h : KeepS B X Y) (k : KeepS B Y Z) : KeepS B X Z := by
 refine ⟨Nat.le_trans h.size k.size, fun i o hi hc hb hs => ?_, ?_, fun w => k.wf (h.wf w)⟩
 · have hlt := (Array.getElem?_eq_some_iff.1 hi).1
   refine k.same i o (h.same i o hi hc hb hs) hc hb fun e => ?_
   rcases h.sl with h1 | ⟨g, h1, h2⟩
   · exact hs (h1 ▸ e)
   · rw [h1] at e; injection e with e; omega
 · rcases k.sl with k1 | ⟨g, k1, k2⟩
   · rw [k1]; exact h.sl
   · exact .inr ⟨g, k1, Nat.le_trans h.size k2⟩
theorem slB_eq {X Y : World} {B : Nat} (h : Y.heap[B]? = X.heap[B]?) : slB Y B = slB X B := by
 unfold slB World.cell?; simp only [h]
theorem KeepS.of_same {B : Nat} {X Y : World} (hs : X.heap.size ≤ Y.heap.size) (hB : Y.heap[B]? = X.heap[B]?) (h : ∀ (k : Nat) (o : Obj), X.heap[k]? = some o → o.isCells = true → Y.heap[k]? = some o) : KeepS B X Y :=
 ⟨hs, fun k o hk hc _ _ => h k o hk hc, .inl (slB_eq hB), fun w g hg => by rw [slB_eq hB] at hg; exact Nat.lt_of_lt_of_le (w g hg) hs⟩
theorem KeepS.putObj {B : Nat} {W : World} {l : Nat} {o o' : Obj} (hB : B ≠ l) (hl : W.heap[l]? = some o) (hc : o.isCells = false) : KeepS B W (W.putObj l o') := by
 refine KeepS.of_same (by simp) (World.putObj_heap_other hB) fun k u hk hu => ?_
 have : k ≠ l := by rintro rfl; rw [hl] at hk; cases hk; rw [hc] at hu; cases hu
 exact (World.putObj_heap_other this).trans hk
/-- The row of box B lies from lo on, and lies there. -/
def SlOk (B lo : Nat) (V : World) : Prop := ∀ g, slB V B = some g → lo ≤ g ∧ g < V.heap.size
theorem SlOk.keep {B lo : Nat} {X Y : World} (h : SlOk B lo X) (hk : KeepS B X Y) (hlo : lo ≤ X.heap.size) : SlOk B lo Y := fun g hg => by
 refine ⟨?_, hk.wf (fun g hg => (h g hg).2) g hg⟩
 rcases hk.sl with h1 | ⟨g', h1, h2⟩
 · exact (h g (h1 ▸ hg)).1
 · rw [h1] at hg; injection hg with hg; omega
theorem SlOk.below {B lo : Nat} {X Y : World} (h : SlOk B lo X) (hb : Below X.heap.size X Y) (hB : B < X.heap.size) : SlOk B lo Y := fun g hg => by
 rw [slB_eq (hb.block B hB)] at hg
 exact ⟨(h g hg).1, Nat.lt_of_lt_of_le (h g hg).2 hb.size⟩
theorem SlOk.set {B lo : Nat} {X : World} (h : SlOk B lo X) {a : Addr} (ha : a.block ≠ B) (v : Value) : SlOk B lo (X.setCell a v) := fun g hg => by
 rw [slB_eq (Below.heap_setCell _ _ _ _ (Ne.symm ha))] at hg
 have := h g hg
 simpa using this
theorem KeepS.blk {B : Nat} {X Y : World} (h : KeepS B X Y) {g : Nat} {t : TypeId} {cs : Array Value} (hb : Blk X g t cs) (h1 : g ≠ B) (h2 : slB X B ≠ some g) : Blk Y g t cs := h.same g _ hb rfl h1 h2
theorem SlOk.ne {B lo : Nat} {X : World} (h : SlOk B lo X) {g : Nat} (hg : g < lo) : slB X B ≠ some g := fun e => by have := (h g e).1; omega
theorem SlOk.ne2 {B lo : Nat} {X : World} (h : SlOk B lo X) {g : Nat} (hg : X.heap.size ≤ g) : slB X B ≠ some g := fun e => by have := (h g e).2; omega
theorem KeepS.alloc {B : Nat} {X : World} (hB : B < X.heap.size) (o : Obj) : KeepS B X (X.alloc o) :=
 KeepS.of_same (by simp) (Below.heap_alloc _ _ _ hB) fun k u hk _ => (Below.heap_alloc _ _ _ (Array.getElem?_eq_some_iff.1 hk).1).trans hk
theorem KeepS.refl (B : Nat) (X : World) : KeepS B X X := KeepS.of_same (Nat.le_refl _) rfl fun _ _ h _ => h
theorem cell_obj {w : World} {a : Addr} {v : Value} (h : w.cell? a = some v) : ∃ o : Obj, w.heap[a.block]? = some o ∧ o.isCells = true := by
 unfold World.cell? at h
 split at h
 · rename_i cs t s e; exact ⟨_, e, rfl⟩
 · cases h
/-- Cells that are neither the box nor its row. -/
theorem KeepS.cells {B lo : Nat} {X Y : World} (h : KeepS B X Y) (hs : SlOk B lo X) {A : Option Addr} {cs : List Value} (hA : Cells X A cs) (ho : Off B A cs.length) (hl : ∀ b off, A = some ⟨b, off, none⟩ → cs ≠ [] → b < lo) : Cells Y A cs := by
 rcases hA with hA | ⟨b, off, e, hc⟩
 · exact .inl hA
 · rcases ho with h0 | h0
   · exact .inl (List.length_eq_zero_iff.1 h0)
   · refine .inr ⟨b, off, e, fun j u hu => ?_⟩
     have hcu := hc j u hu
     obtain ⟨o, ho1, ho2⟩ := cell_obj hcu
     have hne : cs ≠ [] := by rintro rfl; cases hu
     have := h.same b o ho1 ho2 (h0 b off e) (hs.ne (hl b off e hne))
     rw [← hcu]
     exact World.cell?_of_block (this.trans ho1.symm)
/-- 'append' to a row of one's own: the row stays, or is the next block. -/
theorem wpListIn_append_at {F : Fence} {n : Nat} {P : Program} (w : World) {ops : Array Oper} {rest : List Oper} {o : Oper} {a : Act} {Q : Exit → Act → World → Prop}
 (hg : o.guard = none) (s x : Operand) (t : TypeId) (hop : o.op = Op.call { callee := Callee.builtin Builtin.append, args := #[s, x], argTypes := #[t, t] })
 (base : Nat) (e : TypeId) (i : TypeInfo) (z : Value) (size bytes : Nat) (h1 : P.underlying t = some (.slice e)) (h2 : P.info? e = some i) (h3 : i.zero = some z) (h4 : i.size = size) (h5 : i.bytes = bytes) (h6 : z.cells.size = size) (h7 : 0 < size)
 (v : Value) (k : Nat) (xs : List Value) (hs : a.eval s = v) (hown : w.ownsRow base e size v k xs) (ad : Addr) (m c : Nat) (news : List Value) (hm : 0 < m) (hx : a.eval x = .slice (some ad) m c) (hn : news.length = m * size)
 (hc : ∀ j u, news[j]? = some u → w.cell? (ad.add j) = some u) (h1c : ∀ u ∈ news, u.oneCell' = true) (b1 : k + m ≤ maxLen) (b2 : (k + m) * bytes ≤ 140737488355328) (b3 : base ≤ w.heap.size)
 (hK : ∀ v' w', w'.ownsRow base e size v' (k + m) (xs ++ news) → w.grownBy w' v.ownBlock → v'.ownBlock = v.ownBlock ∨ v'.ownBlock = some w.heap.size → wpListIn F n P ops Q rest (a.put o.dst v') w') :
 wpListIn F n P ops Q (o :: rest) a w := by
 refine wpListIn_plain hg fun K hK' => ?_
 obtain ⟨v', w', hrun, r1, r2, _⟩ := run_append_own (P := P) w base t o.type e i z size bytes h1 h2 h3 h4 h5 h6 h7 v k xs hown ad m c news hn hc h1c b1 b2 b3
 have r3 : v'.ownBlock = v.ownBlock ∨ v'.ownBlock = some w.heap.size := by
  subst h4; subst h5
  have hb := b1
  have hb2 := b2
  rcases hown.2 with ⟨rfl, rfl⟩ | ⟨g, cap, cur, rfl, hbg, hgg, hnc, hcm, hcs, htake⟩
  · have hr := run_append_nil (P := P) w t o.type e i z h1 h2 h3 ad m c news hn hc (by omega) (by unfold maxLen at hb; omega) (by simp only [Nat.zero_add] at hb2; omega)
    rw [hrun] at hr
    injection hr with e1 e2
    rw [e1]; exact .inr rfl
  · by_cases hroom : k + m ≤ cap
    · have hfit : k * i.size + news.length ≤ cur.size := by rw [hn, hcs, ← Nat.add_mul]; exact Nat.mul_le_mul_right _ hroom
      have hr := run_append_room (P := P) w t o.type e i h1 h2 g k cap cur hgg ad m c news hn hc h1c hroom hfit
      rw [hrun] at hr
      injection hr with e1 e2
      rw [e1]; exact .inl rfl
    · have hr := run_append_grow (P := P) w t o.type e i z h1 h2 h3 ⟨g, 0, none⟩ k cap xs hown.1 (hown.cells (g := g) rfl) ad m c news hn hc (by omega) (by unfold maxLen at hb; omega) (growslice_fits (by omega) hb2)
      rw [hrun] at hr
      injection hr with e1 e2
      rw [e1]; exact .inr rfl
 unfold Oper.wpIn
 refine ⟨?_, ?_⟩
 · simp [Oper.about, hop, resolve, Target.leads, Sem.run_pure]
 · rw [Oper.semAt_plain F _ _ (by rw [hop]; intro c hc'; cases hc')]
   simp [execOp, hop, resolve, invoke, builtin, hs, hx, hrun, Result.andThen]
   exact hK' _ _ (hK v' w' r1 r2 r3)
/-- 'l = append(l, x)': what the collector keeps. -/
theorem appended_keeps {W w1 : World} {n₀ B : Nat} {t e : TypeId} {size : Nat} {v v' : Value} {k m : Nat} {xs ys : List Value} {tmp : Obj}
 (hv : Blk W B t #[v]) (hte : t ≠ e) (hrow : W.ownsRow n₀ e size v k xs) (hn₀ : n₀ ≤ W.heap.size) (hown' : w1.ownsRow n₀ e size v' m ys) (hgrow : (W.alloc tmp).grownBy w1 v.ownBlock)
 (hat : v'.ownBlock = v.ownBlock ∨ v'.ownBlock = some (W.alloc tmp).heap.size) : KeepS B W (w1.setCell ⟨B, 0, none⟩ v') := by
 have hv1 : Boxed w1 B t v := (Boxed.alloc hv tmp).kept hgrow (Boxed.not_row hv hte hrow)
 have hs1 : slB W B = v.ownBlock := by unfold slB; rw [Boxed.cell hv]
 have hs2 : slB (w1.setCell ⟨B, 0, none⟩ v') B = v'.ownBlock := by unfold slB; rw [Boxed.cell (Boxed.set v' hv1)]
 have hsz : W.heap.size + 1 ≤ w1.heap.size := by have := hgrow.size; simpa using this
 refine ⟨by simp; omega, fun j o hj hc hB hs => ?_, ?_, fun _ g hg => ?_⟩
 · have hlt := (Array.getElem?_eq_some_iff.1 hj).1
   rw [hs1] at hs
   exact (Below.heap_setCell _ _ _ _ hB).trans ((hgrow.block j (by simp; omega) (Ne.symm hs)).trans ((Below.heap_alloc _ _ _ hlt).trans hj))
 · rw [hs1, hs2]
   rcases hat with h | h
   · exact .inl h
   · exact .inr ⟨_, h, by simp⟩
 · rw [hs2] at hg
   have := (hown'.lt g hg).2
   simpa using this
theorem SlOk.none {B lo : Nat} {X : World} {t : TypeId} (h : Blk X B t #[.slice none 0 0]) : SlOk B lo X := fun g hg => by
 unfold slB at hg
 rw [h.cell 0] at hg
 cases hg
theorem Cells.lt {w : World} {A : Option Addr} {cs : List Value} (h : Cells w A cs) : ∀ b off, A = some ⟨b, off, .none⟩ → cs ≠ [] → b < w.heap.size := by
 rintro b off rfl hne
 rcases h with h | ⟨b', off', e, hc⟩
 · exact absurd h hne
 · injection e with e; injection e with e1 e2; subst e1; subst e2
   cases cs with
   | nil => exact absurd rfl hne
   | cons u cs => exact World.block_lt_of_cell? _ _ (hc 0 u rfl)
theorem grownBy_cell (W : World) (b k : Nat) (v : Value) : W.grownBy (W.setCell ⟨b, k, none⟩ v) (some b) := ⟨rfl, rfl, rfl, by simp, fun j _ hj => Below.heap_setCell _ _ _ j (fun e => hj (by rw [e]))⟩
end Go.Proofs.YtlapjkbefkmohaaGreat
