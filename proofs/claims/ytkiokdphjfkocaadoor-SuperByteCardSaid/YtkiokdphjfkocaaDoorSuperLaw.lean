/- An image's first sector: the plain laws. Nothing of the program's steps stands here. -/
import Derived.Test.YtkiokdphjfkocaaDoorSuper1
import Derived.Test.YtkiokdphjfkocaaDoorPackNum
import Derived.Test.YtkiokdphjfkocaaDoorCrcLaw2
import Derived.Shelf.Strings.Trim
set_option linter.unusedVariables false
namespace Go.Proofs.YtkiokdphjfkocaaDoor
open Go.RowKit Go.Shelf

def sumOf (l : List UInt8) : List UInt8 := be 4 (crcOf l)
def headOf (g h : Nat) : List UInt8 := magic4 ++ be 2 g ++ be 2 h
def supOf (g h : Nat) : List UInt8 := headOf g h ++ sumOf (headOf g h) ++ List.replicate 52 0
def gOf (s : List UInt8) : Nat := un ((s.drop 4).take 2)
def hOf (s : List UInt8) : Nat := un ((s.drop 6).take 2)
def ck1 (s : List UInt8) : Bool := decide (s.length = 64)
def ck2 (s : List UInt8) : Bool := Lib.hasPrefix s magic4
def ck3 (s : List UInt8) : Bool := decide (sumOf (s.take 8) = (s.take 12).drop 8)
def ck4 (s : List UInt8) : Bool := geomOk (gOf s) (hOf s)
def ck5 (s : List UInt8) : Bool := decide (Lib.trimB (s.drop 12) 0 = [])
def readE (s : List UInt8) : Int := if ck1 s then if ck2 s then if ck3 s then if ck4 s then if ck5 s then 0 else 14 else 25 else 15 else 14 else 11
def readG (s : List UInt8) : Int := if readE s = 0 then (gOf s : Int) else 0
def readH (s : List UInt8) : Int := if readE s = 0 then (hOf s : Int) else 0
def writeW (g h : Int) : List UInt8 := if geomOk g h then supOf g.toNat h.toNat else []
def writeE (g h : Int) : Int := if geomOk g h then 0 else 25

theorem headOf_length (g h : Nat) : (headOf g h).length = 8 := by simp [headOf, be_length, magic4]
theorem sumOf_length (l : List UInt8) : (sumOf l).length = 4 := be_length _ _
theorem supOf_length (g h : Nat) : (supOf g h).length = 64 := by simp [supOf, headOf_length, sumOf_length]
theorem gOf_lt (s : List UInt8) : gOf s < 65536 := by
  exact un_bound (s.drop 4) 2 (by omega)
theorem hOf_lt (s : List UInt8) : hOf s < 65536 := by
  exact un_bound (s.drop 6) 2 (by omega)

theorem dw_nil {l : List UInt8} : l.dropWhile (fun x => x == 0) = [] ↔ ∀ x ∈ l, (x == 0) = true := by
  induction l with
  | nil => simp
  | cons a l ih =>
    rw [List.dropWhile_cons]
    by_cases h : (a == 0) = true
    · rw [if_pos h, ih]
      constructor
      · intro h1 x hx
        rcases List.mem_cons.1 hx with rfl | hx
        · exact h
        · exact h1 x hx
      · exact fun h1 x hx => h1 x (List.mem_cons_of_mem _ hx)
    · rw [if_neg h]
      constructor
      · intro h1; cases h1
      · intro h1; exact absurd (h1 a List.mem_cons_self) h
theorem trim_nil (l : List UInt8) : Lib.trimB l 0 = [] ↔ l = List.replicate l.length 0 := by
  unfold Lib.trimB Lib.trimLeftB Lib.trimRightB
  constructor
  · intro h
    rw [List.eq_replicate_iff]
    refine ⟨rfl, fun b hb => ?_⟩
    rw [dw_nil] at h
    by_cases hall : ∀ x ∈ l.reverse, (x == 0) = true
    · have := hall b (by simpa using hb); simpa using this
    · have hne : l.reverse.dropWhile (· == 0) ≠ [] := by
        intro hn; rw [dw_nil] at hn; exact hall hn
      have h1 := List.head_dropWhile_not (fun x : UInt8 => x == 0) hne
      have h2 := h ((l.reverse.dropWhile (· == 0)).head hne) (by simp)
      rw [h1] at h2; cases h2
  · intro h
    rw [h, List.reverse_replicate]
    have : (List.replicate l.length (0 : UInt8)).dropWhile (· == 0) = [] := by
      rw [dw_nil]; intro x hx; rw [(List.mem_replicate.1 hx).2]; rfl
    rw [this]; rfl

theorem prefix4 {s : List UInt8} (h : Lib.hasPrefix s magic4 = true) : s = magic4 ++ s.drop 4 := by
  obtain ⟨t, rfl⟩ := List.isPrefixOf_iff_prefix.1 h
  rfl
/-- What is read is just what is written, where all but the last check hold. -/
theorem sup_iff {s : List UInt8} (h1 : ck1 s = true) (h2 : ck2 s = true) (h3 : ck3 s = true) : supOf (gOf s) (hOf s) = s ↔ ck5 s = true := by
  have h1 : s.length = 64 := of_decide_eq_true h1
  have h3 : sumOf (s.take 8) = (s.take 12).drop 8 := of_decide_eq_true h3
  have hp := prefix4 h2
  have e4 : ∃ a b c d, s.drop 4 = a :: b :: c :: d :: s.drop 8 := by
    have : (s.drop 4).length = 60 := by simp [h1]
    have hd : s.drop 8 = (s.drop 4).drop 4 := by simp
    rw [hd]
    match s.drop 4, this with
    | a :: b :: c :: d :: t, _ => exact ⟨a, b, c, d, rfl⟩
  obtain ⟨a, b, c, d, e4⟩ := e4
  have hg : be 2 (gOf s) = [a, b] := by unfold gOf; rw [e4]; exact be_un2 a b
  have hh : be 2 (hOf s) = [c, d] := by
    unfold hOf
    have : s.drop 6 = (s.drop 4).drop 2 := by simp
    rw [this, e4]; exact be_un2 c d
  have h8 : s.take 8 = headOf (gOf s) (hOf s) := by
    unfold headOf; rw [hg, hh]
    conv => lhs; rw [hp, e4]
    rfl
  have hs : s = headOf (gOf s) (hOf s) ++ sumOf (headOf (gOf s) (hOf s)) ++ s.drop 12 := by
    rw [← h8, h3]
    conv => lhs; rw [← List.take_append_drop 12 s]
    congr 1
    conv => lhs; rw [← List.take_append_drop 8 (s.take 12)]
    congr 1
    rw [List.take_take]; rfl
  have h12 : (s.drop 12).length = 52 := by simp [h1]
  unfold ck5
  rw [decide_eq_true_iff, trim_nil, h12]
  constructor
  · intro h
    have : supOf (gOf s) (hOf s) = headOf (gOf s) (hOf s) ++ sumOf (headOf (gOf s) (hOf s)) ++ s.drop 12 := h.trans hs
    exact (List.append_cancel_left this).symm
  · intro h
    conv => rhs; rw [hs, h]
    rfl
theorem readE_zero {s : List UInt8} (h : readE s = 0) : ck1 s = true ∧ ck2 s = true ∧ ck3 s = true ∧ ck4 s = true ∧ ck5 s = true := by
  unfold readE at h
  repeat' split at h
  all_goals first | (exact absurd h (by decide)) | (refine ⟨?_, ?_, ?_, ?_, ?_⟩ <;> assumption)
theorem readE_of {s : List UInt8} (h1 : ck1 s = true) (h2 : ck2 s = true) (h3 : ck3 s = true) (h4 : ck4 s = true) (h5 : ck5 s = true) : readE s = 0 := by
  simp [readE, h1, h2, h3, h4, h5]
/-- What is read is written as it stood. -/
theorem read_write {s : List UInt8} (h : readE s = 0) : geomOk (readG s) (readH s) = true ∧ writeW (readG s) (readH s) = s ∧ writeE (readG s) (readH s) = 0 ∧ supOf (gOf s) (hOf s) = s := by
  obtain ⟨h1, h2, h3, h4, h5⟩ := readE_zero h
  have hs := (sup_iff h1 h2 h3).2 h5
  have h4' : geomOk (gOf s) (hOf s) = true := h4
  unfold readG readH writeW writeE
  simp only [h, if_true, h4', Int.toNat_natCast, hs, and_self]
theorem sup_drop4 (g h : Nat) : (supOf g h).drop 4 = be 2 g ++ (be 2 h ++ (sumOf (headOf g h) ++ List.replicate 52 0)) := by
  simp [supOf, headOf, magic4]
theorem gOf_sup {g h : Nat} (hg : g < 65536) : gOf (supOf g h) = g := by
  unfold gOf; rw [sup_drop4, List.take_left' (be_length 2 g), un_be2 hg]
theorem hOf_sup {g h : Nat} (hh : h < 65536) : hOf (supOf g h) = h := by
  unfold hOf
  have : (supOf g h).drop 6 = ((supOf g h).drop 4).drop 2 := by simp
  rw [this, sup_drop4, List.drop_left' (be_length 2 g), List.take_left' (be_length 2 h), un_be2 hh]
theorem sup_take8 (g h : Nat) : (supOf g h).take 8 = headOf g h := by
  unfold supOf; rw [List.append_assoc, List.take_left' (headOf_length g h)]
theorem sup_take12 (g h : Nat) : ((supOf g h).take 12).drop 8 = sumOf (headOf g h) := by
  unfold supOf
  rw [List.take_left' (by rw [List.length_append, headOf_length, sumOf_length]), List.drop_left' (headOf_length g h)]
theorem sup_drop12 (g h : Nat) : (supOf g h).drop 12 = List.replicate 52 0 := by
  unfold supOf
  rw [List.drop_left' (by rw [List.length_append, headOf_length, sumOf_length])]
/-- There and back. -/
theorem write_read {g h : Int} (hk : geomOk g h = true) : readE (writeW g h) = 0 ∧ readG (writeW g h) = g ∧ readH (writeW g h) = h ∧ (writeW g h).length = 64 := by
  have hb := geomOk_iff.1 hk
  obtain ⟨g, rfl⟩ := Int.eq_ofNat_of_zero_le (show 0 ≤ g by omega)
  obtain ⟨h, rfl⟩ := Int.eq_ofNat_of_zero_le (show 0 ≤ h by omega)
  have eg := gOf_sup (g := g) (h := h) (by omega)
  have eh := hOf_sup (g := g) (h := h) (by omega)
  unfold writeW
  rw [if_pos hk, Int.toNat_natCast, Int.toNat_natCast]
  have h0 : readE (supOf g h) = 0 := by
    refine readE_of (decide_eq_true (supOf_length g h)) ?_ ?_ ?_ ?_
    · show List.isPrefixOf _ _ = true
      rw [List.isPrefixOf_iff_prefix]
      exact ⟨_, by rw [supOf, headOf]; simp only [List.append_assoc]; rfl⟩
    · unfold ck3; rw [sup_take8, sup_take12]; exact decide_eq_true rfl
    · unfold ck4; rw [eg, eh]; exact hk
    · unfold ck5; rw [decide_eq_true_iff, trim_nil, sup_drop12]; rfl
  refine ⟨h0, ?_, ?_, supOf_length g h⟩
  · unfold readG; rw [if_pos h0, eg]
  · unfold readH; rw [if_pos h0, eh]

/-- One byte changed: no first sector stands there any more. -/
theorem sup_byte {g h : Nat} (hg : g < 65536) (hh : h < 65536) {i : Nat} (hi : i < 64) {b : UInt8} (hb : (supOf g h)[i]'(by rw [supOf_length]; exact hi) ≠ b) : readE ((supOf g h).set i b) ≠ 0 := by
  intro h0
  obtain ⟨-, -, -, hs⟩ := read_write h0
  have l64 := supOf_length g h
  generalize hx : (supOf g h).set i b = s at *
  have hgs := gOf_lt s
  have hhs := hOf_lt s
  have hlt : i < (supOf g h).length := by omega
  have get : s[i]? = some b := by rw [← hx]; simp [hlt]
  rcases Nat.lt_or_ge i 8 with h8 | h8
  · -- the sum is the old one, the text it is of is not
    have e1 : s.take 8 = (headOf g h).set i b := by rw [← hx, List.take_set, sup_take8]
    have e2 : (s.take 12).drop 8 = sumOf (headOf g h) := by
      rw [← hx, List.take_set, drop_set_lt _ _ _ _ h8, sup_take12]
    have e3 : s.take 8 = headOf (gOf s) (hOf s) := by conv => lhs; rw [← hs, sup_take8]
    have e4 : (s.take 12).drop 8 = sumOf (headOf (gOf s) (hOf s)) := by conv => lhs; rw [← hs, sup_take12]
    have e5 : crcOf (headOf g h) = crcOf ((headOf g h).set i b) := by
      refine be4_inj (crcMore_lt _ _) (crcMore_lt _ _) ?_
      rw [← e1, e3]; exact e2.symm.trans e4
    have hl : i < (headOf g h).length := by rw [headOf_length]; exact h8
    have := crcOf_set hl e5
    apply hb
    rw [← this]
    have e6 : (supOf g h)[i]? = some (headOf g h)[i] := by
      rw [← List.getElem?_take_of_lt h8, sup_take8, List.getElem?_eq_getElem hl]
    rw [List.getElem?_eq_getElem hlt] at e6
    exact Option.some.inj e6
  · -- the head is the old one
    have e1 : s.take 8 = headOf g h := by
      rw [← hx, List.take_set, sup_take8, List.set_eq_of_length_le (by rw [headOf_length]; exact h8)]
    have e3 : s.take 8 = headOf (gOf s) (hOf s) := by conv => lhs; rw [← hs, sup_take8]
    have e4 : supOf g h = s := by
      conv => rhs; rw [← hs]
      unfold supOf; rw [← e3, e1]
    apply hb
    have : (supOf g h)[i]? = some b := by rw [e4, get]
    rw [List.getElem?_eq_getElem hlt] at this
    exact Option.some.inj this
end Go.Proofs.YtkiokdphjfkocaaDoor
