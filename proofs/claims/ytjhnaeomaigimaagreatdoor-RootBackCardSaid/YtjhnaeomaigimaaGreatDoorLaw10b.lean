/- Chapter 10's plain laws: rows of snapshots and of bitmaps behind a plan that was set. Nothing of the program stands here. -/
import Derived.Test.YtjhnaeomaigimaaGreatDoorLaw10a
import Derived.Test.YtjhnaeomaigimaaGreatDoorJourPlain
set_option linter.unusedVariables false
namespace Go.Proofs.YtjhnaeomaigimaaGreatDoor
theorem dmGet_name (D : Dk) (L : Pn) (i : Nat) : (Pn.dmGet D L i).1.name.length ≤ 8 := by
  have hz : Dm.zero.name.length ≤ 8 := by decide
  unfold Pn.dmGet
  split
  · exact hz
  split
  · unfold Dm.of
    split
    · exact hz
    · exact toNameR_short _
  · exact hz
theorem maps_small (D : Dk) (L : Pn) : (Pn.maps D L).1.length ≤ 2 ∧ (∀ m ∈ (Pn.maps D L).1, m.bits.length = 64) ∧ ∀ m ∈ (Pn.maps D L).1, m.name.length ≤ maxLen := by
  refine ⟨allN_len 2, fun m hm => ?_, fun m hm => ?_⟩
  · obtain ⟨i, _, rfl⟩ := allN_mem 2 m hm
    exact dmGet_bits D L i
  · obtain ⟨i, _, rfl⟩ := allN_mem 2 m hm
    have := dmGet_name D L i
    unfold maxLen; omega
theorem snaps_small (D : Dk) (L : Pn) : (Pn.snaps D L).1.length ≤ 8 := allN_len 8
theorem rtGet_look {D : Dk} {L X : Pn} (h : Pn.look D X 1 = Pn.look D L 1) : Pn.rtGet D X = Pn.rtGet D L := by unfold Pn.rtGet; rw [h]
theorem snaps_look {D : Dk} {L X : Pn} (h : ∀ o, o = 2 ∨ o = 3 → Pn.look D X o = Pn.look D L o) : Pn.snaps D X = Pn.snaps D L := by
  unfold Pn.snaps
  refine allN_congr fun i hi => ?_
  unfold Pn.snGet
  rw [h (Pn.snSec i) (by unfold Pn.snSec; omega)]
theorem maps_look {D : Dk} {L X : Pn} (h : ∀ o, o = 4 ∨ o = 5 → Pn.look D X o = Pn.look D L o) : Pn.maps D X = Pn.maps D L := by
  unfold Pn.maps
  refine allN_congr fun i hi => ?_
  unfold Pn.dmGet
  rw [h (4 + i) (by omega)]
theorem allN_put {α : Type} {f g : Nat → α × Int} {n : Nat} {k : Nat} {x : α} (hk : k < n) (h : (allN f n).2 = 0) (hg : ∀ i, i < n → g i = if i = k then (x, 0) else f i) : allN g n = ((allN f n).1.set k x, 0) := by
  obtain ⟨a, b⟩ := allN_ok h
  have hz : ∀ i, i < n → (g i).2 = 0 := fun i hi => by rw [hg i hi]; split; rfl; exact (b i hi).1
  obtain ⟨c, d⟩ := allN_ok (allN_all hz)
  refine Prod.ext (List.ext_getElem? fun i => ?_) (allN_all hz)
  by_cases hi : i < n
  · rw [(d i hi).2, hg i hi]
    by_cases hik : i = k
    · subst hik
      rw [if_pos rfl, List.getElem?_set_self (by omega)]
    · rw [if_neg hik, List.getElem?_set_ne (Ne.symm hik), (b i hi).2]
  · rw [List.getElem?_eq_none (by omega), List.getElem?_eq_none (by rw [List.length_set]; omega)]
theorem snaps_set {D : Dk} {L X : Pn} {i : Int} {s : Sn} (hD : D.fit = true) (hL : L.Fit) (hs : s.id < 4294967296) (h : Pn.snSet D L i s = (X, 0)) (h0 : (Pn.snaps D L).2 = 0) :
    0 ≤ i ∧ i < 8 ∧ (Pn.snaps D L).1.length = 8 ∧ Pn.snaps D X = ((Pn.snaps D L).1.set i.toNat s, 0) := by
  obtain ⟨h1, h2, _⟩ := Pn.snSet_ok hD hL h
  refine ⟨h1, h2, (allN_ok h0).1, ?_⟩
  unfold Pn.snaps at h0 ⊢
  refine allN_put (by omega) h0 fun k hk => ?_
  rw [Pn.snSet_get hD hL hs h k]
  by_cases hki : k = i.toNat
  · rw [if_pos hki, if_pos (by omega)]
  · rw [if_neg hki, if_neg (by omega)]
theorem maps_set {D : Dk} {L X : Pn} {i : Int} {m : Dm} (hL : L.Fit) (hb : m.bits.length = 64) (h : Pn.dmSet L i m = (X, 0)) (h0 : (Pn.maps D L).2 = 0) :
    0 ≤ i ∧ i < 2 ∧ (Pn.maps D L).1.length = 2 ∧ Pn.maps D X = ((Pn.maps D L).1.set i.toNat m, 0) := by
  obtain ⟨h1, h2, _, _, _, h3⟩ := Pn.dmSet_ok hL hb h D
  refine ⟨h1, h2, (allN_ok h0).1, ?_⟩
  unfold Pn.maps at h0 ⊢
  refine allN_put (by omega) h0 fun k hk => ?_
  rw [h3 k hk]
  by_cases hki : k = i.toNat
  · rw [if_pos hki, if_pos (by omega)]
  · rw [if_neg hki, if_neg (by omega)]
/-- What stays where a snapshot, or a bitmap, is set. -/
theorem snSet_apart {D : Dk} {L : Pn} (hD : D.fit = true) (hL : L.Fit) (i : Int) (s : Sn) : Pn.rtGet D (Pn.snSet D L i s).1 = Pn.rtGet D L ∧ Pn.maps D (Pn.snSet D L i s).1 = Pn.maps D L := by
  by_cases h : (Pn.snSet D L i s).2 = 0
  · obtain ⟨h1, h2, _, _, h5, _⟩ := Pn.snSet_ok (X := (Pn.snSet D L i s).1) hD hL (Prod.ext rfl h)
    exact ⟨rtGet_look (h5 1 (by unfold Pn.snSec; omega)), maps_look fun o ho => h5 o (by unfold Pn.snSec; omega)⟩
  · rw [Pn.snSet_not h]; exact ⟨rfl, rfl⟩
theorem dmSet_apart {L : Pn} (hL : L.Fit) (i : Int) (m : Dm) (hb : m.bits.length = 64) (D : Dk) : Pn.rtGet D (Pn.dmSet L i m).1 = Pn.rtGet D L ∧ Pn.snaps D (Pn.dmSet L i m).1 = Pn.snaps D L := by
  by_cases h : (Pn.dmSet L i m).2 = 0
  · obtain ⟨h1, h2, _, _, h5, _⟩ := Pn.dmSet_ok (X := (Pn.dmSet L i m).1) hL hb (Prod.ext rfl h) D
    exact ⟨rtGet_look (h5 1 (by omega)), snaps_look fun o ho => h5 o (by omega)⟩
  · rw [Pn.dmSet_not h]; exact ⟨rfl, rfl⟩
end Go.Proofs.YtjhnaeomaigimaaGreatDoor
