/- Iterators that hand out what is told one by one, with the error of the last one. Nothing of the program stands here. -/
import Derived.Test.YtkiokdphjfkocaaRange
import Derived.Test.YtkiokdphjfkocaaRefcLaw
import Derived.RangeFuncBox
import Derived.OwnWalkIn
set_option linter.unusedVariables false
namespace Go.Proofs.Ytkiokdphjfkocaa
open Go.RowKit Go.Shelf
theorem OwnFrom.later {β : Type} {B : Nat} {I : β → World → Prop} (h : OwnFrom B I) {s : β} {W W' : World} (hs : I s W) (hb : Below W.heap.size W W') : I s W' :=
  h s W W' none hs ⟨hb.os, hb.tape, hb.output, hb.size, fun k hk _ => hb.block k hk⟩ (fun r e => by cases e)
theorem AbidesFrom.later {β : Type} {B : Nat} {I : β → World → Prop} (h : AbidesFrom B I) {s : β} {W W' : World} (hs : I s W) (hb : Below W.heap.size W W') : I s W' :=
  h s W W' none hs ⟨hb.os, hb.tape, hb.output, hb.size, fun k hk _ => hb.block k hk⟩ (fun r e => by cases e)
/-- All that was handed out. -/
def IterS {α : Type} (f : Nat → α × Int) (N : Nat) (ys : List Nat) : Prop := ∃ m, ys = List.range m ∧ m ≤ N ∧ (∀ i, i + 1 < m → (f i).2 = 0) ∧ (m < N → 0 < m ∧ (f (m - 1)).2 ≠ 0)
/-- What was handed out, where the caller stopped it. -/
def IterP {α : Type} (f : Nat → α × Int) (N : Nat) (pre : List Nat) : Prop := ∃ m, pre = List.range (m + 1) ∧ m < N ∧ ∀ i, i < m → (f i).2 = 0
/-- Below B, and at some blocks, all is as it was. -/
structure KeepB (B : Nat) (bs : List Nat) (X Y : World) : Prop where
  below : Below B X Y
  at_ : ∀ g ∈ bs, Y.heap[g]? = X.heap[g]?
theorem KeepB.refl (B : Nat) (bs : List Nat) (X : World) : KeepB B bs X X := ⟨Below.refl _ _, fun _ _ => rfl⟩
theorem KeepB.trans {B : Nat} {bs : List Nat} {X Y Z : World} (h : KeepB B bs X Y) (k : KeepB B bs Y Z) : KeepB B bs X Z := ⟨h.below.trans k.below, fun g hg => (k.at_ g hg).trans (h.at_ g hg)⟩
theorem KeepB.later {B : Nat} {bs : List Nat} {X Y : World} (h : Below X.heap.size X Y) (hB : B ≤ X.heap.size) (hbs : ∀ g ∈ bs, g < X.heap.size) : KeepB B bs X Y := ⟨h.mono hB, fun g hg => h.block g (hbs g hg)⟩
theorem KeepB.putObj {B : Nat} {bs : List Nat} {W : World} {l : Nat} (o' : Obj) (hB : B ≤ l) (hbs : ∀ g ∈ bs, g ≠ l) : KeepB B bs W (W.putObj l o') :=
  ⟨⟨rfl, rfl, rfl, by simp [World.putObj], fun k hk => World.putObj_heap_other (by omega)⟩, fun g hg => World.putObj_heap_other (hbs g hg)⟩
theorem Blk.at_ {X Y : World} {g : Nat} {t : TypeId} {cs : Array Value} (h : Blk X g t cs) (k : Y.heap[g]? = X.heap[g]?) : Blk Y g t cs := k.trans h
/-- 'l = append(l, x)' in a loop over an iterator: l's box lies below n₀, its rows from n₀ on. -/
theorem appended_at {W w1 : World} {n₀ B : Nat} {t e : TypeId} {size : Nat} {v v' : Value} {k m : Nat} {xs ys : List Value} {tmp : Obj}
    (hv : Blk W B t #[v]) (hte : t ≠ e) (hrow : W.ownsRow n₀ e size v k xs) (hn₀ : n₀ ≤ W.heap.size) (hown' : w1.ownsRow n₀ e size v' m ys) (hgrow : (W.alloc tmp).grownBy w1 v.ownBlock) :
    Blk w1 B t #[v] ∧ Blk (w1.setCell ⟨B, 0, none⟩ v') B t #[v'] ∧ (w1.setCell ⟨B, 0, none⟩ v').ownsRow n₀ e size v' m ys ∧ KeepsOthers W (w1.setCell ⟨B, 0, none⟩ v') ∧
      (∀ B0, B0 ≤ n₀ → B0 ≤ B → Below B0 W (w1.setCell ⟨B, 0, none⟩ v')) ∧ ∀ g, g < n₀ → g ≠ B → (w1.setCell ⟨B, 0, none⟩ v').heap[g]? = W.heap[g]? := by
  have hv1 : Boxed w1 B t v := (Boxed.alloc hv tmp).kept hgrow (Boxed.not_row hv hte hrow)
  have hlow : ∀ j, v.ownBlock = some j → n₀ ≤ j := fun j ej => by
    rcases hrow.2 with ⟨rfl, _⟩ | ⟨g, cap, cur, rfl, hb, _, _⟩
    · simp [Value.ownBlock] at ej
    · obtain rfl : g = j := by simpa [Value.ownBlock] using ej
      exact hb
  refine ⟨hv1, Boxed.set v' hv1, hown'.kept (grownBy_setCell' w1 B v') (.inr (hv1.not_row hte hown').symm), ?_, fun B0 h0 hB => ?_, fun g hg hne => ?_⟩
  · refine ((KeepsOthers.alloc W tmp).trans (KeepsOthers.of_grownBy hgrow fun j o ej hj => ?_)).trans (KeepsOthers.setCell _ _ _)
    rcases (hrow.alloc tmp).2 with ⟨rfl, _⟩ | ⟨g, cap, cur, rfl, _, hgb, _⟩
    · simp [Value.ownBlock] at ej
    · obtain rfl : g = j := by simpa [Value.ownBlock] using ej
      rw [hgb] at hj; cases hj; rfl
  · exact (((Below.refl B0 W).alloc (by omega) tmp).grown hgrow (by simp; omega) fun j ej => by have := hlow j ej; omega).setCell (p := ⟨B, 0, none⟩) hB v'
  · rw [Below.heap_setCell _ _ _ _ hne, hgrow.block g (by simp; omega) (fun e => by have := hlow g e.symm; omega), Below.heap_alloc _ _ _ (by omega)]
theorem allN_list {α : Type} {f : Nat → α × Int} {n : Nat} (h : ∀ i, i < n → (f i).2 = 0) : allN f n = ((List.range n).map (fun i => (f i).1), 0) := by
  have h2 := allN_all h
  obtain ⟨a, b⟩ := allN_ok h2
  refine Prod.ext (List.ext_getElem? fun i => ?_) h2
  by_cases hi : i < n
  · rw [(b i hi).2]; simp [hi]
  · rw [List.getElem?_eq_none (by omega), List.getElem?_eq_none (by simp; omega)]
theorem KeepB.at1 {B : Nat} {bs : List Nat} {X Y : World} (h : KeepB B bs X Y) {g : Nat} {t : TypeId} {cs : Array Value} (hb : Blk X g t cs) (hg : g ∈ bs) : Blk Y g t cs := hb.at_ (h.at_ g hg)
theorem keepB_own (B : Nat) (bs : List Nat) {V : World} {B' : Nat} (hB : B ≤ B') (hbs : ∀ g ∈ bs, g < V.heap.size) (hV : B' = V.heap.size) : OwnFrom B' (fun (_ : Unit) W => KeepB B bs V W) := by
  subst hV
  intro s X Y row hs hy hr
  refine hs.trans ⟨⟨hy.os, hy.tape, hy.output, hy.size, fun k hk => ?_⟩, fun g hg => ?_⟩
  · rcases Nat.lt_or_ge k X.heap.size with h | h
    · exact hy.block k h (fun e => by have := (hr k e.symm).1; omega)
    · have := hs.below.size; omega
  · exact hy.block g (Nat.lt_of_lt_of_le (hbs g hg) hs.below.size) (fun e => by have := (hr g e.symm).1; have := hbs g hg; omega)
theorem iterS_err {α : Type} {f : Nat → α × Int} {N m : Nat} (hm : m < N) (h : ∀ i, i < m → (f i).2 = 0) (he : (f m).2 ≠ 0) : IterS f N (List.range (m + 1)) :=
  ⟨m + 1, rfl, hm, fun i hi => h i (by omega), fun _ => ⟨Nat.succ_pos _, he⟩⟩
theorem iterS_all {α : Type} {f : Nat → α × Int} {N : Nat} (h : ∀ i, i < N → (f i).2 = 0) : IterS f N (List.range N) :=
  ⟨N, rfl, Nat.le_refl _, fun i hi => h i (by omega), fun h => absurd h (Nat.lt_irrefl _)⟩
theorem iterP_of {α : Type} {f : Nat → α × Int} {N m : Nat} (hm : m < N) (h : ∀ i, i < m → (f i).2 = 0) : IterP f N (List.range m ++ [m]) := ⟨m, by rw [List.range_succ], hm, h⟩
end Go.Proofs.Ytkiokdphjfkocaa
