/- Ranges: extents that are joined, and ranges cut at clusters, the plain words and laws. Nothing of the program stands here. Ranges of images: what they are, and what bitmaps have of them: plain laws. Nothing of the program stands here. Ranges of images: dirty bitmaps' ranges, and what reads as bytes 0: plain laws. Nothing of the program stands here. Package cofferdamlaw15: chapter 15's example (plain): a write of an image, in words that can be reckoned. -/
import Derived.Test.YtlapjkbefkmohaaGreatSdPlain1
import Derived.Test.YtlapjkbefkmohaaGreatSdBlk3
import Derived.Test.YtlapjkbefkmohaaGreatSdImg9
namespace Go.Proofs.YtlapjkbefkmohaaGreat
abbrev Xt := Int × Int
def most40 : Int := 1099511627776
/-- One extent more: what is out, and the one that still grows (none: of length 0). -/
def joinStep (s : List Xt × Xt) (x : Xt) : List Xt × Xt :=
 if min x.1 most40 < 1 then s else if 0 < s.2.1 ∧ s.2.2 = x.2 then (s.1, (min (s.2.1 + min x.1 most40) most40, s.2.2)) else if 0 < s.2.1 then (s.1 ++ [s.2], (min x.1 most40, x.2)) else (s.1, (min x.1 most40, x.2))
def joinSt (l : List Xt) : List Xt × Xt := l.foldl joinStep ([], (0, 0))
def joinAll (s : List Xt × Xt) : List Xt := if 0 < s.2.1 then s.1 ++ [s.2] else s.1
def join (l : List Xt) : List Xt := joinAll (joinSt l)
theorem joinSt_snoc (l : List Xt) (x : Xt) : joinSt (l ++ [x]) = joinStep (joinSt l) x := by unfold joinSt; rw [List.foldl_append]; rfl
/-- No two side by side have the same flags, none is empty. -/
def Apart (l : List Xt) : Prop := (∀ x ∈ l, 1 ≤ x.1 ∧ x.1 ≤ most40) ∧ ∀ i (h : i + 1 < l.length), l[i].2 ≠ l[i + 1].2
structure JoinOk (s : List Xt × Xt) : Prop where
 all : Apart (joinAll s)
 run : 0 ≤ s.2.1 ∧ s.2.1 ≤ most40
 first : s.2.1 = 0 → s.1 = []
theorem apart_snoc {l : List Xt} {x y : Xt} (h : Apart (l ++ [x])) (hx : x.2 ≠ y.2) (hy : 1 ≤ y.1 ∧ y.1 ≤ most40) : Apart (l ++ [x] ++ [y]) := by
 refine ⟨fun z hz => ?_, fun i hi => ?_⟩
 · rcases List.mem_append.1 hz with hz | hz
   · exact h.1 z hz
   · rw [List.mem_singleton.1 hz]; exact hy
 · rw [List.length_append, List.length_append, List.length_singleton, List.length_singleton] at hi
   by_cases he : i + 1 = (l ++ [x]).length
   · have e1 : (l ++ [x] ++ [y])[i]'(by simp; omega) = x := by
      rw [List.length_append, List.length_singleton] at he
      rw [List.getElem_append_left (by simp; omega), List.getElem_append_right (by omega)]
      simp
     have e2 : (l ++ [x] ++ [y])[i + 1]'(by simp; omega) = y := by
      rw [List.getElem_append_right (by omega)]
      simp
     rw [e1, e2]; exact hx
   · have hl : i + 1 < (l ++ [x]).length := by rw [List.length_append, List.length_singleton] at he ⊢; omega
     rw [List.getElem_append_left (by omega), List.getElem_append_left hl]
     exact h.2 i hl
theorem apart_last {l : List Xt} {x y : Xt} (h : Apart (l ++ [x])) (hx : x.2 = y.2) (hy : 1 ≤ y.1 ∧ y.1 ≤ most40) : Apart (l ++ [y]) := by
 refine ⟨fun z hz => ?_, fun i hi => ?_⟩
 · rcases List.mem_append.1 hz with hz | hz
   · exact h.1 z (List.mem_append_left _ hz)
   · rw [List.mem_singleton.1 hz]; exact hy
 · rw [List.length_append, List.length_singleton] at hi
   have h2 := h.2 i (by simp; omega)
   by_cases he : i + 1 = l.length
   · have e1 : (l ++ [x])[i]'(by simp; omega) = l[i]'(by omega) := List.getElem_append_left (by omega)
     have e2 : (l ++ [x])[i + 1]'(by simp; omega) = x := by rw [List.getElem_append_right (by omega)]; simp [he]
     have e3 : (l ++ [y])[i]'(by simp; omega) = l[i]'(by omega) := List.getElem_append_left (by omega)
     have e4 : (l ++ [y])[i + 1]'(by simp; omega) = y := by rw [List.getElem_append_right (by omega)]; simp [he]
     rw [e1, e2, hx] at h2
     rw [e3, e4]; exact h2
   · rw [List.getElem_append_left (by omega), List.getElem_append_left (by omega)] at h2 ⊢
     exact h2
theorem most40_pos : (1 : Int) ≤ most40 := by decide
theorem joinStep_ok {s : List Xt × Xt} (h : JoinOk s) (x : Xt) : JoinOk (joinStep s x) := by
 have hm := most40_pos
 unfold joinStep
 split
 · exact h
 rename_i h1
 split
 · rename_i h2
   refine ⟨?_, by show 0 ≤ min _ _ ∧ min _ _ ≤ _; omega, fun h0 => ?_⟩
   · unfold joinAll
     rw [if_pos (show 0 < min (s.2.1 + min x.1 most40) most40 by omega)]
     have ha := h.all
     unfold joinAll at ha
     rw [if_pos h2.1] at ha
     exact apart_last ha rfl (by show 1 ≤ min _ _ ∧ min _ _ ≤ _; omega)
   · have : min (s.2.1 + min x.1 most40) most40 = 0 := h0
     omega
 rename_i h2
 split
 · rename_i h3
   refine ⟨?_, by show 0 ≤ min _ _ ∧ min _ _ ≤ _; omega, fun h0 => ?_⟩
   · unfold joinAll
     rw [if_pos (show 0 < min x.1 most40 by omega)]
     have ha := h.all
     unfold joinAll at ha
     rw [if_pos h3] at ha
     exact apart_snoc ha (fun e => h2 ⟨h3, e⟩) (by show 1 ≤ min _ _ ∧ min _ _ ≤ _; omega)
   · have : min x.1 most40 = 0 := h0
     omega
 · rename_i h3
   have h4 := h.first (by have := h.run; omega)
   refine ⟨?_, by show 0 ≤ min _ _ ∧ min _ _ ≤ _; omega, fun h0 => ?_⟩
   · unfold joinAll
     rw [if_pos (show 0 < min x.1 most40 by omega)]
     show Apart (s.1 ++ [_])
     rw [h4, List.nil_append]
     exact ⟨fun z hz => by rw [List.mem_singleton.1 hz]; show 1 ≤ min _ _ ∧ min _ _ ≤ _; omega, fun i hi => absurd hi (by simp)⟩
   · have : min x.1 most40 = 0 := h0
     omega
theorem joinOk (l : List Xt) : JoinOk (joinSt l) := by
 have H : ∀ (m : List Xt) (s : List Xt × Xt), JoinOk s → JoinOk (m.foldl joinStep s) := fun m => by
  induction m with
  | nil => exact fun s h => h
  | cons x m ih => exact fun s h => ih _ (joinStep_ok h x)
 exact H l _ ⟨⟨fun z (hz : z ∈ ([] : List Xt)) => (nomatch hz), fun i hi => absurd hi (Nat.not_lt_zero _)⟩, by show (0 : Int) ≤ 0 ∧ (0 : Int) ≤ most40; exact ⟨by decide, by decide⟩, fun _ => rfl⟩
/-- All the bytes of those that are not empty. -/
def sumX (l : List Xt) : Int := l.foldr (fun x s => max x.1 0 + s) 0
def lenX (l : List Xt) : Int := l.foldr (fun x s => x.1 + s) 0
theorem lenX_append (l m : List Xt) : lenX (l ++ m) = lenX l + lenX m := by
 induction l with
 | nil => show lenX m = 0 + lenX m; omega
 | cons x l ih => show x.1 + lenX (l ++ m) = x.1 + lenX l + lenX m; omega
theorem lenX_one (x : Xt) : lenX [x] = x.1 := by show x.1 + 0 = x.1; omega
theorem sumX_append (l m : List Xt) : sumX (l ++ m) = sumX l + sumX m := by
 induction l with
 | nil => show sumX m = 0 + sumX m; omega
 | cons x l ih => show max x.1 0 + sumX (l ++ m) = max x.1 0 + sumX l + sumX m; omega
theorem sumX_one (x : Xt) : sumX [x] = max x.1 0 := by show max x.1 0 + 0 = _; omega
theorem sumX_nonneg (l : List Xt) : 0 ≤ sumX l := by
 induction l with
 | nil => exact Int.le_refl _
 | cons x l ih => show 0 ≤ max x.1 0 + sumX l; omega
theorem join_sum {l : List Xt} (h : sumX l ≤ most40) : lenX (joinSt l).1 + (joinSt l).2.1 = sumX l := by
 have H : ∀ n, n ≤ l.length → lenX (joinSt (l.take n)).1 + (joinSt (l.take n)).2.1 = sumX (l.take n) := fun n => by
  induction n with
  | zero => intro _; rfl
  | succ n ih =>
   intro hn
   have ih := ih (by omega)
   have hs : sumX (l.take (n + 1)) + sumX (l.drop (n + 1)) = sumX l := by rw [← sumX_append, List.take_append_drop]
   have hd := sumX_nonneg (l.drop (n + 1))
   rw [List.take_succ_eq_append_getElem (by omega), sumX_append, sumX_one] at hs ⊢
   rw [joinSt_snoc]
   have hok := joinOk (l.take n)
   have h0 : 0 ≤ lenX (joinSt (l.take n)).1 := by
    have H2 : ∀ m : List Xt, (∀ x ∈ m, 1 ≤ x.1) → 0 ≤ lenX m := fun m => by
     induction m with
     | nil => exact fun _ => Int.le_refl _
     | cons x m ih => intro h; have := ih fun y hy => h y (List.mem_cons_of_mem _ hy); have := h x List.mem_cons_self; show 0 ≤ x.1 + lenX m; omega
    refine H2 _ fun x hx => ?_
    have ha := hok.all.1 x
    unfold joinAll at ha
    split at ha
    · exact (ha (List.mem_append_left _ hx)).1
    · exact (ha hx).1
   have hrun := hok.run
   have hfirst := hok.first
   generalize l[n] = x at *
   generalize joinSt (l.take n) = s at *
   unfold joinStep
   split
   · show lenX s.1 + s.2.1 = _; omega
   split
   · show lenX s.1 + min (s.2.1 + min x.1 most40) most40 = _; omega
   split
   · show lenX (s.1 ++ [s.2]) + min x.1 most40 = _
     rw [lenX_append, lenX_one]; omega
   · show lenX s.1 + min x.1 most40 = _; omega
 have := H l.length (Nat.le_refl _)
 rwa [List.take_length] at this
end Go.Proofs.YtlapjkbefkmohaaGreat

set_option linter.unusedVariables false
namespace Go.Proofs.YtlapjkbefkmohaaGreat
/-! ### A range, cluster by cluster -/
abbrev Cut := Int × Int × Int
inductive Tiles : Int → Int → List Cut → Prop
 | nil {a n : Int} (h : n ≤ 0) : Tiles a n []
 | cons {a n s : Int} {l : List Cut} (h : 0 < n) (hs : s = min n (128 - a % 128)) (r : Tiles (a + s) (n - s) l) : Tiles a n ((a / 128, a % 128, s) :: l)
theorem cutGo_tiles : ∀ (f : Nat) (a n : Int), n ≤ f → Tiles a n (Im.cutGo f a n) := by
 intro f
 induction f with
 | zero => intro a n h; exact .nil (by omega)
 | succ f ih =>
  intro a n h
  unfold Im.cutGo
  split
  · rename_i h0; exact .nil h0
  · exact .cons (by omega) rfl (ih _ _ (by omega))
theorem cuts_tiles {a n : Int} (h : ¬ (a < 0 ∨ n < 0 ∨ 1073741824 < a ∨ 65536 < n)) : Tiles a n (Im.cuts a n) := by
 unfold Im.cuts
 rw [if_neg h]
 exact cutGo_tiles _ _ _ (by omega)
theorem Tiles.mem {a n : Int} {l : List Cut} (h : Tiles a n l) (ha : 0 ≤ a) : ∀ p ∈ l, 1 ≤ p.2.2 ∧ p.2.2 ≤ 128 ∧ 0 ≤ p.2.1 ∧ p.2.1 + p.2.2 ≤ 128 ∧ a ≤ 128 * p.1 + p.2.1 ∧ 128 * p.1 + p.2.1 + p.2.2 ≤ a + n := by
 induction h with
 | nil h => intro p hp; cases hp
 | cons h hs r ih =>
  intro p hp
  rcases List.mem_cons.1 hp with rfl | hp
  · simp only; omega
  · have := ih (by omega) p hp
    omega
theorem Tiles.length {a n : Int} {l : List Cut} (h : Tiles a n l) (ha : 0 ≤ a) : 128 * (l.length : Int) ≤ max n 0 + 254 := by
 have H : ∀ {a n : Int} {l : List Cut}, Tiles a n l → 0 ≤ a → 128 * (l.length : Int) ≤ max n 0 + 127 + a % 128 := fun {a n l} h => by
  induction h with
  | nil h => intro _; simp only [List.length_nil]; omega
  | @cons a n s l h hs r ih =>
   intro ha
   have := ih (by omega)
   rw [List.length_cons]
   by_cases h0 : n - s ≤ 0
   · cases r with
     | nil h1 => simp only [List.length_nil]; omega
     | cons h1 _ _ => omega
   · omega
 have := H h ha
 omega
/-- The extents of a range, by the flags of clusters. -/
def exts (f : Int → Int) (l : List Cut) : List Xt := l.map fun p => (p.2.2, f p.1)
theorem Tiles.sum {a n : Int} {l : List Cut} (h : Tiles a n l) (ha : 0 ≤ a) (f : Int → Int) : sumX (exts f l) = max n 0 ∧ lenX (exts f l) = max n 0 := by
 induction h with
 | nil h => exact ⟨by show (0 : Int) = _; omega, by show (0 : Int) = _; omega⟩
 | @cons a n s l h hs r ih =>
  have := ih (by omega)
  exact ⟨by show max s 0 + sumX (exts f l) = max n 0; rw [this.1]; omega, by show s + lenX (exts f l) = max n 0; rw [this.2]; omega⟩
/-! ### What each byte is -/
/-- All of one kind: one extent. -/
theorem joinStep_one {c : Int} {s : List Xt × Xt} {x : Xt} (hs : (s.1 = [] ∧ s.2.1 = 0) ∨ (s.1 = [] ∧ s.2.2 = c)) (hx : x.2 = c) : ((joinStep s x).1 = [] ∧ (joinStep s x).2.1 = 0) ∨ ((joinStep s x).1 = [] ∧ (joinStep s x).2.2 = c) := by
 unfold joinStep
 split
 · exact hs
 split
 · rename_i h; exact .inr ⟨by rcases hs with h | h <;> exact h.1, by show s.2.2 = c; rw [h.2]; exact hx⟩
 rename_i h2
 split
 · rename_i h3
   rcases hs with h | h
   · omega
   · exact absurd ⟨h3, h.2.trans hx.symm⟩ h2
 · exact .inr ⟨by rcases hs with h | h <;> exact h.1, hx⟩
theorem join_one {c : Int} {l : List Xt} (h : ∀ x ∈ l, x.2 = c) (hs : sumX l ≤ most40) (h0 : 0 < sumX l) : join l = [(sumX l, c)] := by
 have H : ∀ (m : List Xt) (s : List Xt × Xt), (∀ x ∈ m, x.2 = c) → ((s.1 = [] ∧ s.2.1 = 0) ∨ (s.1 = [] ∧ s.2.2 = c)) → (((m.foldl joinStep s).1 = [] ∧ (m.foldl joinStep s).2.1 = 0) ∨ ((m.foldl joinStep s).1 = [] ∧ (m.foldl joinStep s).2.2 = c)) := fun m => by
  induction m with
  | nil => exact fun s _ h => h
  | cons x m ih => exact fun s h1 h2 => ih _ (fun y hy => h1 y (List.mem_cons_of_mem _ hy)) (joinStep_one h2 (h1 x List.mem_cons_self))
 have h1 := H l ([], (0, 0)) h (.inl ⟨rfl, rfl⟩)
 have h2 := join_sum hs
 change ((joinSt l).1 = [] ∧ (joinSt l).2.1 = 0) ∨ ((joinSt l).1 = [] ∧ (joinSt l).2.2 = c) at h1
 unfold join joinAll
 rcases h1 with ⟨e1, e2⟩ | ⟨e1, e2⟩
 · rw [e1, e2] at h2
   have : lenX ([] : List Xt) = 0 := rfl
   omega
 · rw [e1] at h2 ⊢
   have : lenX ([] : List Xt) = 0 := rfl
   rw [if_pos (by omega), List.nil_append]
   congr 1
   exact Prod.ext (by show (joinSt l).2.1 = sumX l; omega) e2
/-! ### What a first table, and a bitmap, tell of a range -/
def tellStep (f : Int → Int × Int) (X : List Xt × Int) (p : Cut) : List Xt × Int := if X.2 ≠ 0 then X else if (f p.1).2 ≠ 0 then ([], (f p.1).2) else (X.1 ++ [(p.2.2, (f p.1).1)], 0)
def tell (f : Int → Int × Int) (l : List Cut) : List Xt × Int := l.foldl (tellStep f) ([], 0)
theorem tell_snoc (f : Int → Int × Int) (l : List Cut) (p : Cut) : tell f (l ++ [p]) = tellStep f (tell f l) p := by unfold tell; rw [List.foldl_append]; rfl
theorem tell_stop (f : Int → Int × Int) (l : List Cut) {X : List Xt × Int} (h : X.2 ≠ 0) : l.foldl (tellStep f) X = X := by
 induction l with
 | nil => rfl
 | cons p l ih => show l.foldl (tellStep f) (tellStep f X p) = X; rw [tellStep, if_pos h, ih]
theorem tell_ok {f : Int → Int × Int} {l : List Cut} (h : (tell f l).2 = 0) : (tell f l).1 = exts (fun k => (f k).1) l ∧ ∀ p ∈ l, (f p.1).2 = 0 := by
 have H : ∀ (l : List Cut) (A : List Xt), (l.foldl (tellStep f) (A, 0)).2 = 0 → (l.foldl (tellStep f) (A, 0)).1 = A ++ exts (fun k => (f k).1) l ∧ ∀ p ∈ l, (f p.1).2 = 0 := fun l => by
  induction l with
  | nil => intro A _; exact ⟨by simp [exts], fun p hp => nomatch hp⟩
  | cons p l ih =>
   intro A h
   have h : (l.foldl (tellStep f) (tellStep f (A, 0) p)).2 = 0 := h
   show (l.foldl (tellStep f) (tellStep f (A, 0) p)).1 = _ ∧ _
   by_cases h1 : (f p.1).2 = 0
   · have e : tellStep f (A, 0) p = (A ++ [(p.2.2, (f p.1).1)], 0) := by unfold tellStep; rw [if_neg (by simp), if_neg (by rw [h1]; simp)]
     rw [e] at h ⊢
     obtain ⟨a, b⟩ := ih _ h
     refine ⟨by rw [a]; simp [exts], fun q hq => ?_⟩
     rcases List.mem_cons.1 hq with rfl | hq
     · exact h1
     · exact b q hq
   · have e : tellStep f (A, 0) p = ([], (f p.1).2) := by unfold tellStep; rw [if_neg (by simp), if_pos h1]
     rw [e, tell_stop f l h1] at h
     exact absurd h h1
 have := H l [] h
 rw [List.nil_append] at this
 exact this
def spanOf (f : Int → Int × Int) (g a n : Int) : List Xt × Int := if n < 1 ∨ Im.within g a n = false then ([], 10) else if (tell f (Im.cuts a n)).2 ≠ 0 then ([], (tell f (Im.cuts a n)).2) else (join (tell f (Im.cuts a n)).1, 0)
theorem within_iff {g a n : Int} : Im.within g a n = true ↔ 0 ≤ a ∧ 0 ≤ n ∧ n ≤ 128 * g ∧ a ≤ 128 * g - n := by simp [Im.within]
/-- All clusters of a range are told the same: one extent. -/
theorem spanOf_one {f : Int → Int × Int} {g a n c : Int} (hg : 0 < g ∧ g ≤ 64) (hn : 1 ≤ n) (ha : 0 ≤ a) (hw : a + n ≤ 128 * g) (hf : ∀ k, a ≤ k → k < a + n → f (k / 128) = (c, 0)) : spanOf f g a n = ([(n, c)], 0) := by
 have hT := cuts_tiles (a := a) (n := n) (by omega)
 have hfc : ∀ p ∈ Im.cuts a n, f p.1 = (c, 0) := fun p hp => by
  have := hT.mem ha p hp
  have e : p.1 = (128 * p.1 + p.2.1) / 128 := by omega
  rw [e]
  exact hf _ (by omega) (by omega)
 have h0 : (tell f (Im.cuts a n)).2 = 0 := by
  have H : ∀ (l : List Cut) (A : List Xt), (∀ p ∈ l, f p.1 = (c, 0)) → (l.foldl (tellStep f) (A, 0)).2 = 0 := fun l => by
   induction l with
   | nil => exact fun A _ => rfl
   | cons p l ih =>
    intro A h
    show (l.foldl (tellStep f) (tellStep f (A, 0) p)).2 = 0
    unfold tellStep
    rw [if_neg (by simp), h p List.mem_cons_self, if_neg (by simp)]
    exact ih _ fun q hq => h q (List.mem_cons_of_mem _ hq)
  exact H _ _ hfc
 obtain ⟨t1, _⟩ := tell_ok h0
 obtain ⟨s1, s2⟩ := hT.sum ha fun k => (f k).1
 have hm : most40 = 1099511627776 := rfl
 unfold spanOf
 rw [if_neg (by
  rintro (h | h)
  · omega
  · rw [within_iff.2 ⟨ha, by omega, by omega, by omega⟩] at h; cases h), if_neg (by rw [h0]; simp), t1]
 rw [join_one (c := c) (fun x hx => by
  obtain ⟨p, hp, rfl⟩ := List.mem_map.1 hx
  show (f p.1).1 = c
  rw [hfc p hp]) (by omega) (by omega), s1]
 congr 3; omega
/-! ### Clearing marks whatever it touches -/
namespace Im
theorem clearStep_kept {x : Im} {X : Im × Int} (h : Kept x X.1) (hole : Bool) {p : Cut} (hp : 0 ≤ p.1) (hs : 1 ≤ p.2.2) : Kept x (clearStep hole X p).1 ∧ ((clearStep hole X p).2 = 0 → X.2 = 0 ∧ p.1.toNat < 64 ∧ Marked p.1.toNat (clearStep hole X p).1.maps) ∧ Covers X.1.maps (clearStep hole X p).1.maps := by
 obtain ⟨u, hu⟩ := Int.eq_ofNat_of_zero_le hp
 unfold clearStep
 by_cases h0 : X.2 ≠ 0
 · rw [if_pos h0]; exact ⟨h, fun h1 => absurd h1 h0, Covers.refl _⟩
 rw [if_neg h0]
 by_cases h1 : p.2.2 = 128
 · rw [if_pos h1, hu]
   obtain ⟨a, b⟩ := wipe_kept h.ok u hole
   exact ⟨h.trans a, fun e => ⟨Classical.not_not.1 h0, b e⟩, a.maps⟩
 · rw [if_neg h1, hu]
   obtain ⟨a, b⟩ := write_kept h.ok u p.2.1 (List.replicate p.2.2.toNat 0)
   exact ⟨h.trans a, fun e => ⟨Classical.not_not.1 h0, b e (by intro e; have := congrArg List.length e; simp at this; omega)⟩, a.maps⟩
theorem clear_kept {x : Im} (h : x.Ok) (a n : Int) (hole : Bool) : Kept x (x.clear a n hole).1 ∧ ((x.clear a n hole).2 = 0 → within x.g a n = true ∧ ∀ p ∈ cuts a n, p.1.toNat < 64 ∧ Marked p.1.toNat (x.clear a n hole).1.maps) := by
 unfold clear
 split
 · exact ⟨Kept.refl h, fun h => absurd h (by simp)⟩
 split
 · exact ⟨Kept.refl h, fun h => absurd h (by simp)⟩
 rename_i h1 h2
 have hw : within x.g a n = true := by
  cases hw : within x.g a n with
  | true => rfl
  | false => exact absurd hw h2
 obtain ⟨w1, w2, w3, w4⟩ := within_iff.1 hw
 have hg := h.g
 have hT := cuts_tiles (a := a) (n := n) (by omega)
 have hm := fun p hp => hT.mem w1 p hp
 have H : ∀ (l : List Cut) (X : Im × Int), Kept x X.1 → (∀ p ∈ l, 0 ≤ p.1 ∧ 1 ≤ p.2.2) → Kept x (l.foldl (clearStep hole) X).1 ∧ ((l.foldl (clearStep hole) X).2 = 0 → X.2 = 0 ∧ ∀ p ∈ l, p.1.toNat < 64 ∧ Marked p.1.toNat (l.foldl (clearStep hole) X).1.maps) ∧ Covers X.1.maps (l.foldl (clearStep hole) X).1.maps := fun l => by
  induction l with
  | nil => exact fun X hX _ => ⟨hX, fun h0 => ⟨h0, fun p hp => nomatch hp⟩, Covers.refl _⟩
  | cons p l ih =>
   intro X hX hl
   obtain ⟨p0, p1⟩ := hl p List.mem_cons_self
   obtain ⟨a1, a2, a3⟩ := clearStep_kept hX hole p0 p1
   obtain ⟨b1, b2, b3⟩ := ih _ a1 fun q hq => hl q (List.mem_cons_of_mem _ hq)
   refine ⟨b1, fun h0 => ?_, a3.trans b3⟩
   obtain ⟨c1, c2⟩ := b2 h0
   obtain ⟨d1, d2, d3⟩ := a2 c1
   refine ⟨d1, fun q hq => ?_⟩
   rcases List.mem_cons.1 hq with rfl | hq
   · exact ⟨d2, d3.covers b3⟩
   · exact c2 q hq
 obtain ⟨b1, b2, _⟩ := H (cuts a n) (x, 0) (Kept.refl h) fun p hp => by have := hm p hp; omega
 exact ⟨b1, fun h0 => ⟨hw, (b2 h0).2⟩⟩
end Im
end Go.Proofs.YtlapjkbefkmohaaGreat

set_option linter.unusedVariables false
namespace Go.Proofs.YtlapjkbefkmohaaGreat
namespace Im
def bitsOf (m : Dm) (k : Int) : Int × Int := (if m.bits.getD k.toNat false = true then 1 else 0, 0)
def dirty (l : List Dm) (nm : List UInt8) (g a n : Int) : List Xt × Int :=
 if n < 1 ∨ within g a n = false then ([], 10) else match l.find? (fun m => decide (m.name = nm)) with
  | .none => ([], 21)
  | some m => spanOf (bitsOf m) g a n
def flagsOf (K : Int) : Int := if K = 1 then 0 else if K = 2 then 2 else 3
def entFlags (D : Dk) (l1 k : Int) : Int × Int := (flagsOf (Pn.tabFind D Pn.none l1 k).1.1, (Pn.tabFind D Pn.none l1 k).2)
def status (D : Dk) (g l1 a n : Int) : List Xt × Int := spanOf (entFlags D l1) g a n
theorem covers_named {l m : List Dm} (h : Covers l m) {o : Dm} (ho : o ∈ l) : ∃ p ∈ m, p.name = o.name := by
 have h1 : o.name ∈ l.map (·.name) := List.mem_map.2 ⟨o, ho, rfl⟩
 rw [h.1] at h1
 obtain ⟨p, hp, e⟩ := List.mem_map.1 h1
 exact ⟨p, hp, e⟩
/-- A range that all bitmaps have: one extent that is dirty. -/
theorem dirty_one {x z : Im} (hk : Kept x z) (hx : x.Ok) {m : Dm} (hm : m ∈ x.maps) {a n : Int} (hn : 1 ≤ n) (ha : 0 ≤ a) (hw : a + n ≤ 128 * z.g) (h : ∀ k, a ≤ k → k < a + n → Marked (k / 128).toNat z.maps) :
 dirty z.maps m.name z.g a n = ([(n, 1)], 0) := by
 have hg := hk.ok.g
 obtain ⟨p, hp, e⟩ := covers_named hk.maps hm
 obtain ⟨q, hq⟩ : ∃ q, z.maps.find? (fun o => decide (o.name = m.name)) = some q := by
  cases hf : z.maps.find? (fun o => decide (o.name = m.name)) with
  | none =>
   rw [List.find?_eq_none] at hf
   exact absurd (by simpa using e) (hf p hp)
  | some q => exact ⟨q, rfl⟩
 have hqm := List.mem_of_find?_eq_some hq
 unfold dirty
 rw [if_neg (by
  rintro (h | h)
  · omega
  · rw [within_iff.2 ⟨ha, by omega, by omega, by omega⟩] at h; cases h), hq]
 exact spanOf_one hg hn ha hw fun k h1 h2 => by
  unfold bitsOf
  rw [if_pos (h k h1 h2 q hqm)]
/-- A cleared range is dirty in each bitmap. -/
theorem clear_dirty {x y : Im} (hx : x.Ok) (hy : Kept x y) {a n : Int} {hole : Bool} (hn : 1 ≤ n) (h0 : (y.clear a n hole).2 = 0) {m : Dm} (hm : m ∈ x.maps) : dirty (y.clear a n hole).1.maps m.name (y.clear a n hole).1.g a n = ([(n, 1)], 0) := by
 obtain ⟨k1, k2⟩ := clear_kept hy.ok a n hole
 obtain ⟨w, hc⟩ := k2 h0
 obtain ⟨w1, w2, w3, w4⟩ := within_iff.1 w
 have hk := hy.trans k1
 have hgy := hy.ok.g
 refine dirty_one hk hx hm hn w1 (by rw [k1.g]; omega) fun k h1 h2 => ?_
 have hT := cuts_tiles (a := a) (n := n) (by omega)
 have H : ∀ {a n : Int} {l : List Cut}, Tiles a n l → 0 ≤ a → (∀ p ∈ l, Marked p.1.toNat (y.clear a n hole).1.maps → True) → ∀ k, a ≤ k → k < a + n → ∃ p ∈ l, p.1 = k / 128 := fun {a n l} hT => by
  induction hT with
  | nil h => intro _ _ k h1 h2; omega
  | @cons a n s l h hs r ih =>
   intro ha _ k h1 h2
   by_cases hk : k < a + s
   · exact ⟨_, List.mem_cons_self, by show a / 128 = k / 128; omega⟩
   · obtain ⟨p, hp, e⟩ := ih (by omega) (fun _ _ _ => trivial) k (by omega) (by omega)
     exact ⟨p, List.mem_cons_of_mem _ hp, e⟩
 obtain ⟨p, hp, e⟩ := H hT w1 (fun _ _ _ => trivial) k h1 h2
 rw [← e]
 exact (hc p hp).2
/-- What is written is dirty in each bitmap, whatever is cleared then. -/
theorem write_dirty {x : Im} (hx : x.Ok) {u off : Int} {s : List UInt8} (h0 : (x.write u off s).2 = 0) (hs : s ≠ []) (a n : Int) (hole : Bool) {m : Dm} (hm : m ∈ x.maps) :
 dirty ((x.write u off s).1.clear a n hole).1.maps m.name ((x.write u off s).1.clear a n hole).1.g (128 * u + off) s.length = ([((s.length : Int), 1)], 0) := by
 have hu : 0 ≤ u ∧ u < x.g ∧ 0 ≤ off ∧ off + s.length ≤ 128 := by
  unfold write at h0
  split at h0
  · exact absurd h0 (by simp)
  split at h0
  · exact absurd h0 (by simp)
  · omega
 obtain ⟨v, rfl⟩ := Int.eq_ofNat_of_zero_le hu.1
 obtain ⟨k1, k2⟩ := write_kept hx v off s
 obtain ⟨_, k3⟩ := k2 h0 hs
 obtain ⟨c1, _⟩ := clear_kept k1.ok a n hole
 have hl : 1 ≤ s.length := List.length_pos_iff.2 hs
 refine dirty_one (k1.trans c1) hx hm (by omega) (by omega) (by rw [c1.g, k1.g]; omega) fun k h1 h2 => ?_
 have e : k / 128 = (v : Int) := by omega
 rw [e, Int.toNat_natCast]
 exact k3.covers c1.maps
end Im
end Go.Proofs.YtlapjkbefkmohaaGreat

set_option linter.unusedVariables false
namespace Go.Proofs.YtlapjkbefkmohaaGreat
open Go.RowKit Go.Shelf
def okB (L : Pn) : Bool := decide (L.targets.length = L.data.length) && (decide (L.targets.length ≤ 24) && ((List.range L.targets.length).all (fun i => sectorOk (L.targets.getD i 0) && decide (L.find (L.targets.getD i 0) = i)) && (L.data.all (fun s => decide (s.length = 64)) && decide (L.targets ≠ []))))
theorem getD_at (l : List Int) {i : Nat} (h : i < l.length) : l.getD i 0 = l[i] := by simp [List.getD, h]
theorem okB_iff (t : Tx) : okB t.plan = true ↔ t.Ok := by
 obtain ⟨sq, L⟩ := t
 simp only [okB, Bool.and_eq_true, decide_eq_true_eq, List.all_eq_true, Tx.Ok, Pn.Fit, List.mem_range]
 constructor
 · rintro ⟨h1, h2, h3, h4, h5⟩
   exact ⟨⟨h1, h2, fun i hi => by have := h3 i hi; rwa [getD_at _ hi] at this, fun i hi => h4 _ (List.getElem_mem hi)⟩, h5⟩
 · rintro ⟨⟨h1, h2, h3, h4⟩, h5⟩
   exact ⟨h1, h2, fun i hi => by rw [getD_at _ hi]; exact h3 i hi, fun s hs => by obtain ⟨i, hi, rfl⟩ := List.getElem_of_mem hs; exact h4 i hi, h5⟩
def rowsC (j : Jr) (L : Pn) : List (List UInt8) := if okB L = true then (⟨j.seq, L⟩ : Tx).rows else []
theorem rowsC_eq (j : Jr) (L : Pn) : jrRows j L = rowsC j L := by
 unfold jrRows rowsC Tx.write
 by_cases h : (⟨j.seq, L⟩ : Tx).Ok
 · rw [if_pos h, if_pos ((okB_iff _).2 h)]
 · rw [if_neg h, if_neg (fun e => h ((okB_iff ⟨j.seq, L⟩).1 e))]
def atC (j : Jr) (L : Pn) : Int := jrPlace j.pos (rowsC j L).length
def commitC (D : Dk) (j : Jr) (L : Pn) : Dk × Jr × Int :=
 if L.targets = [] then (D, j, 0) else if 4611686018427387904 ≤ j.seq then (D, j, 10)
 else if (comSteps D (6 + atC j L) (rowsC j L) L).2 ≠ 0 then ((comSteps D (6 + atC j L) (rowsC j L) L).1, j, (comSteps D (6 + atC j L) (rowsC j L) L).2)
 else ((comSteps D (6 + atC j L) (rowsC j L) L).1, ⟨j.seq + 1, atC j L + (rowsC j L).length⟩, 0)
theorem commitC_eq (D : Dk) (j : Jr) (L : Pn) : jrCommit D j L = commitC D j L := by
 unfold jrCommit commitC atC jrAt
 rw [rowsC_eq]
namespace Im
def doneC (x : Im) (L : Pn) : Im × Int :=
 if (commitC x.d x.j L).2.2 ≠ 0 then ({ x with d := (commitC x.d x.j L).1, br := true }, (commitC x.d x.j L).2.2) else ({ x with d := (commitC x.d x.j L).1, j := (commitC x.d x.j L).2.1 }, 0)
theorem doneC_eq (x : Im) (L : Pn) : done x L = doneC x L := by unfold done doneC; rw [commitC_eq]
def pointedC (x : Im) (L : Pn) (u K A : Int) : Im × Int := if (Pn.ptPoint x.d L x.g x.h u K A).2 ≠ 0 then (x, (Pn.ptPoint x.d L x.g x.h u K A).2) else doneC x (Pn.ptPoint x.d L x.g x.h u K A).1
theorem pointedC_eq (x : Im) (L : Pn) (u K A : Int) : writeNew.pointed x L u K A = pointedC x L u K A := by unfold writeNew.pointed pointedC; rw [doneC_eq]
def newC (x : Im) (l1 u off : Int) (s : List UInt8) : Im × Int :=
 if (Pn.alTake x.d Pn.none x.h).2.2 ≠ 0 then (x, (Pn.alTake x.d Pn.none x.h).2.2) else if (rd x.d l1 u).2 ≠ 0 then (x, (rd x.d l1 u).2)
 else if (fill x.d (Pn.alTake x.d Pn.none x.h).2.1 (over (rd x.d l1 u).1 off.toNat s)).2 ≠ 0 then ({ x with d := (fill x.d (Pn.alTake x.d Pn.none x.h).2.1 (over (rd x.d l1 u).1 off.toNat s)).1 }, (fill x.d (Pn.alTake x.d Pn.none x.h).2.1 (over (rd x.d l1 u).1 off.toNat s)).2)
 else pointedC { x with d := (fill x.d (Pn.alTake x.d Pn.none x.h).2.1 (over (rd x.d l1 u).1 off.toNat s)).1 } (Pn.alTake x.d Pn.none x.h).1 u 1 (Pn.alTake x.d Pn.none x.h).2.1
theorem newC_eq (x : Im) (l1 u off : Int) (s : List UInt8) : writeNew x l1 u off s = newC x l1 u off s := by unfold writeNew newC; rw [pointedC_eq]
def inC (x : Im) (u off : Int) (s : List UInt8) : Im × Int :=
 if (Pn.rtGet x.d Pn.none).2 ≠ 0 then (x, (Pn.rtGet x.d Pn.none).2) else if (Pn.tabFind x.d Pn.none (Pn.rtGet x.d Pn.none).1.1 u).2 ≠ 0 then (x, (Pn.tabFind x.d Pn.none (Pn.rtGet x.d Pn.none).1.1 u).2)
 else if (Pn.tabFind x.d Pn.none (Pn.rtGet x.d Pn.none).1.1 u).1.1 ≠ 1 then newC x (Pn.rtGet x.d Pn.none).1.1 u off s
 else if (Pn.cntGet x.d Pn.none (Pn.tabFind x.d Pn.none (Pn.rtGet x.d Pn.none).1.1 u).1.2).2 ≠ 0 then (x, (Pn.cntGet x.d Pn.none (Pn.tabFind x.d Pn.none (Pn.rtGet x.d Pn.none).1.1 u).1.2).2)
 else if (Pn.cntGet x.d Pn.none (Pn.tabFind x.d Pn.none (Pn.rtGet x.d Pn.none).1.1 u).1.2).1 ≤ 1 then
  ({ x with d := (place x.d (Pn.tabFind x.d Pn.none (Pn.rtGet x.d Pn.none).1.1 u).1.2 off s).1 }, (place x.d (Pn.tabFind x.d Pn.none (Pn.rtGet x.d Pn.none).1.1 u).1.2 off s).2)
 else newC x (Pn.rtGet x.d Pn.none).1.1 u off s
theorem inC_eq (x : Im) (u off : Int) (s : List UInt8) : writeIn x u off s = inC x u off s := by unfold writeIn inC; rw [newC_eq]
def writeC (x : Im) (u off : Int) (s : List UInt8) : Im × Int :=
 if x.br = true then (x, 24) else if (u < 0 ∨ x.g ≤ u) ∨ off < 0 ∨ 128 < s.length ∨ 128 - (s.length : Int) < off then (x, 10) else if s = [] then (x, 0) else inC (x.mark u) u off s
theorem writeC_eq (x : Im) (u off : Int) (s : List UInt8) : write x u off s = writeC x u off s := by unfold write writeC; rw [inC_eq]
end Im
noncomputable def sm1 : Im := (smI.write 1 0 [120]).1
def sm1C : Im := (smI.writeC 1 0 [120]).1
set_option maxRecDepth 100000 in
theorem ev15C : (smI.writeC 1 0 [120]).2 = 0 ∧ (Pn.rtGet sm1C.d Pn.none).2 = 0 ∧ Im.status sm1C.d sm1C.g (Pn.rtGet sm1C.d Pn.none).1.1 0 384 = ([(128, 3), (128, 0), (128, 3)], 0) ∧ join [(1, 0), (2, 0)] = [(3, 0)] := by decide +kernel
theorem ev15 : (smI.write 1 0 [120]).2 = 0 ∧ (Pn.rtGet sm1.d Pn.none).2 = 0 ∧ Im.status sm1.d sm1.g (Pn.rtGet sm1.d Pn.none).1.1 0 384 = ([(128, 3), (128, 0), (128, 3)], 0) ∧ join [(1, 0), (2, 0)] = [(3, 0)] := by
 have e : sm1 = sm1C := by unfold sm1 sm1C; rw [Im.writeC_eq]
 rw [Im.writeC_eq, e]; exact ev15C
set_option maxRecDepth 100000 in
theorem smI_ok : smI.Ok := ⟨ev_small.2.2.2.2.2.2.2.2, by decide, by decide, by decide, by decide, by decide, fun m hm => (by cases hm)⟩
end Go.Proofs.YtlapjkbefkmohaaGreat
