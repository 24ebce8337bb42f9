/- 'pack.ToName', and names there and back. Package root: snapshots' and dirty bitmaps' places, the plain words and laws. Nothing of the program stands here. Images: the plain words and laws. Nothing of the program stands here. Blocks of three cells. Nothing of the program stands here. -/
import Derived.Test.YtlapjkbefkmohaaGreatSdPacks
import Derived.Lib.TrimByte
import Derived.Test.YtlapjkbefkmohaaGreatSdPointPlain
import Derived.Test.YtlapjkbefkmohaaGreatSdJourPlain
import Derived.Test.YtlapjkbefkmohaaGreatSdPackLaw
set_option linter.unusedVariables false
namespace Go.Proofs.YtlapjkbefkmohaaGreat
open Go.RowKit Go.Shelf
attribute [local go_sem] bs_mk bs_append bs_extract bs_size bs_toList bs_get

def trim0 (l : List UInt8) : List UInt8 := Lib.trimRightB l 0
def toNameR (l : List UInt8) : List UInt8 × Int := if l.length ≠ 8 then ([], 11) else if nameOk (trim0 l) = true then (trim0 l, 0) else ([], 19)
end Go.Proofs.YtlapjkbefkmohaaGreat

namespace Go.Proofs.YtlapjkbefkmohaaGreat
/-! ### Snapshots -/
structure Sn where
 id : Nat
 l1 : Int
 name : List UInt8
deriving DecidableEq
namespace Sn
def zero : Sn := ⟨0, 0, []⟩
def ok (s : Sn) : Bool := decide (s = zero) || (decide (s.id ≠ 0) && (decide (0 ≤ s.l1) && decide (s.l1 < 256)) && nameOk s.name)
def bytes (s : Sn) : List UInt8 := if s = zero then List.replicate 16 0 else be 4 s.id ++ be 2 s.l1.toNat ++ [0, 0] ++ (s.name ++ List.replicate (8 - s.name.length) 0)
def of (b : List UInt8) : Sn := if b = List.replicate 16 0 then zero else ⟨un (b.take 4), un (cut b 4 2), (toNameR (b.drop 8)).1⟩
def good (b : List UInt8) : Bool := (of b).ok && decide ((of b).bytes = b)
end Sn
/-! ### Dirty bitmaps -/
structure Dm where
 name : List UInt8
 use : Bool
 bits : List Bool
deriving DecidableEq
def bitRow (f : Nat → Bool) (b0 : List UInt8) (n : Nat) : List UInt8 := (List.range n).foldl (fun b k => if f k then b.set (8 + k / 8) (UInt8.ofNat ((b.getD (8 + k / 8) 0).toNat ||| 2 ^ (k % 8))) else b) b0
namespace Dm
def zero : Dm := ⟨[], false, List.replicate 64 false⟩
def ok (m : Dm) : Bool := decide (m = zero) || nameOk m.name
def useByte (u : Bool) : UInt8 := if u then 1 else 0
def flags (u : Bool) : List UInt8 := useByte u :: List.replicate 15 0
def tail (m : Dm) : List UInt8 := bitRow (fun k => m.bits.getD k false) (flags m.use) 64
def bytes (m : Dm) : List UInt8 := if m = zero then List.replicate 64 0 else pad64 ((m.name ++ List.replicate (8 - m.name.length) 0) ++ m.tail)
def bitAt (b : List UInt8) (k : Nat) : Bool := (b.getD (16 + k / 8) 0).toNat.testBit (k % 8)
def of (b : List UInt8) : Dm := if b = List.replicate 64 0 then zero else ⟨(toNameR (b.take 8)).1, decide (b.getD 8 0 = 1), (List.range 64).map (bitAt b)⟩
def good (b : List UInt8) : Bool := (of b).ok && decide ((of b).bytes = b)
end Dm
namespace Pn
variable {D : Dk} {L X : Pn}
def dmGet (D : Dk) (L : Pn) (i : Nat) : Dm × Int :=
 if (look D L (4 + i)).2 ≠ 0 then (Dm.zero, (look D L (4 + i)).2) else if Dm.good (look D L (4 + i)).1 = true then (Dm.of (look D L (4 + i)).1, 0) else (Dm.zero, 14)
def maps (D : Dk) (L : Pn) : List Dm × Int := allN (dmGet D L) 2
def rtSet (L : Pn) (l : Int) (n : Nat) : Pn × Int := if l < 0 ∨ 256 ≤ l then (L, 10) else L.set 1 (rtHead l.toNat n)
end Pn
end Go.Proofs.YtlapjkbefkmohaaGreat

set_option linter.unusedVariables false
namespace Go.Proofs.YtlapjkbefkmohaaGreat
/-- An image that is open. -/
structure Im where
 d : Dk
 g : Int
 h : Nat
 j : Jr
 maps : List Dm
 br : Bool
namespace Im
def nameds : List Dm → Bool
 | [] => true
 | m :: r => nameOk m.name && (m.use && r.all fun o => nameOk o.name && (o.use && decide (m.name ≠ o.name)))
def fit (x : Im) : Bool := geomFit x.g x.h && (x.d.fit && (decide (x.d.sz = 96 + 2 * x.h) && (jrFit x.j && (decide (x.maps.length ≤ 2) && nameds x.maps))))
where geomFit (g : Int) (h : Nat) : Bool := decide (0 < g) && (decide (g ≤ 64) && (decide (8 ≤ h) && decide (h ≤ 256)))
/-- What all functions of images want, and leave. -/
structure Ok (x : Im) : Prop where
 d : x.d.fit = true
 g : 0 < x.g ∧ x.g ≤ 64
 h : 8 ≤ x.h ∧ x.h ≤ 256
 seq : x.j.seq < 18446744073709551615
 pos : -9223372036854775808 ≤ x.j.pos ∧ x.j.pos ≤ 9223372036854775807
 maps : x.maps.length ≤ 2
 bits : ∀ m ∈ x.maps, m.bits.length = 64
def markM (k : Int) (l : List Dm) : List Dm := if k < 0 ∨ 64 ≤ k then l else l.map fun m => { m with bits := m.bits.set k.toNat true }
def mark (x : Im) (k : Int) : Im := { x with maps := markM k x.maps }
def clus (D : Dk) (k : Int) : List UInt8 × Int :=
 if (D.read (96 + 2 * k)).2 ≠ 0 then ([], (D.read (96 + 2 * k)).2) else if (D.read (96 + 2 * k + 1)).2 ≠ 0 then ([], (D.read (96 + 2 * k + 1)).2) else ((D.read (96 + 2 * k)).1 ++ (D.read (96 + 2 * k + 1)).1, 0)
def rd (D : Dk) (l1 u : Int) : List UInt8 × Int :=
 if (Pn.tabFind D Pn.none l1 u).2 ≠ 0 then ([], (Pn.tabFind D Pn.none l1 u).2) else if (Pn.tabFind D Pn.none l1 u).1.1 = 1 then clus D (Pn.tabFind D Pn.none l1 u).1.2 else (List.replicate 128 0, 0)
noncomputable def done (x : Im) (L : Pn) : Im × Int :=
 if (jrCommit x.d x.j L).2.2 ≠ 0 then ({ x with d := (jrCommit x.d x.j L).1, br := true }, (jrCommit x.d x.j L).2.2) else ({ x with d := (jrCommit x.d x.j L).1, j := (jrCommit x.d x.j L).2.1 }, 0)
/-- A piece of a text, laid into a sector of a cluster. -/
def placeAt (k off : Int) (s : List UInt8) (i : Nat) (D : Dk) : Dk × Int :=
 if min (off + s.length) (((i : Int) + 1) * 64) ≤ max off (i * 64) then (D, 0) else if (D.read (96 + 2 * k + i)).2 ≠ 0 then (D, (D.read (96 + 2 * k + i)).2)
 else D.write (96 + 2 * k + i) (over (D.read (96 + 2 * k + i)).1 (max off (i * 64) - i * 64).toNat ((s.take (min (off + s.length) (((i : Int) + 1) * 64) - off).toNat).drop (max off (i * 64) - off).toNat))
def place (D : Dk) (k off : Int) (s : List UInt8) : Dk × Int := Dk.next (placeAt k off s 0 D) (placeAt k off s 1)
def fill (D : Dk) (k : Int) (b : List UInt8) : Dk × Int := Dk.next (D.write (96 + 2 * k) (b.take 64)) fun E => E.write (96 + 2 * k + 1) (b.drop 64)
/-- A cluster that is somewhere else, filled, and pointed to. -/
noncomputable def writeNew (x : Im) (l1 u off : Int) (s : List UInt8) : Im × Int :=
 if (Pn.alTake x.d Pn.none x.h).2.2 ≠ 0 then (x, (Pn.alTake x.d Pn.none x.h).2.2) else if (rd x.d l1 u).2 ≠ 0 then (x, (rd x.d l1 u).2)
 else if (fill x.d (Pn.alTake x.d Pn.none x.h).2.1 (over (rd x.d l1 u).1 off.toNat s)).2 ≠ 0 then ({ x with d := (fill x.d (Pn.alTake x.d Pn.none x.h).2.1 (over (rd x.d l1 u).1 off.toNat s)).1 }, (fill x.d (Pn.alTake x.d Pn.none x.h).2.1 (over (rd x.d l1 u).1 off.toNat s)).2)
 else pointed { x with d := (fill x.d (Pn.alTake x.d Pn.none x.h).2.1 (over (rd x.d l1 u).1 off.toNat s)).1 } (Pn.alTake x.d Pn.none x.h).1 u 1 (Pn.alTake x.d Pn.none x.h).2.1
where pointed (x : Im) (L : Pn) (u K A : Int) : Im × Int := if (Pn.ptPoint x.d L x.g x.h u K A).2 ≠ 0 then (x, (Pn.ptPoint x.d L x.g x.h u K A).2) else done x (Pn.ptPoint x.d L x.g x.h u K A).1
noncomputable def writeIn (x : Im) (u off : Int) (s : List UInt8) : Im × Int :=
 if (Pn.rtGet x.d Pn.none).2 ≠ 0 then (x, (Pn.rtGet x.d Pn.none).2) else if (Pn.tabFind x.d Pn.none (Pn.rtGet x.d Pn.none).1.1 u).2 ≠ 0 then (x, (Pn.tabFind x.d Pn.none (Pn.rtGet x.d Pn.none).1.1 u).2)
 else if (Pn.tabFind x.d Pn.none (Pn.rtGet x.d Pn.none).1.1 u).1.1 ≠ 1 then writeNew x (Pn.rtGet x.d Pn.none).1.1 u off s
 else if (Pn.cntGet x.d Pn.none (Pn.tabFind x.d Pn.none (Pn.rtGet x.d Pn.none).1.1 u).1.2).2 ≠ 0 then (x, (Pn.cntGet x.d Pn.none (Pn.tabFind x.d Pn.none (Pn.rtGet x.d Pn.none).1.1 u).1.2).2)
 else if (Pn.cntGet x.d Pn.none (Pn.tabFind x.d Pn.none (Pn.rtGet x.d Pn.none).1.1 u).1.2).1 ≤ 1 then
  ({ x with d := (place x.d (Pn.tabFind x.d Pn.none (Pn.rtGet x.d Pn.none).1.1 u).1.2 off s).1 }, (place x.d (Pn.tabFind x.d Pn.none (Pn.rtGet x.d Pn.none).1.1 u).1.2 off s).2)
 else writeNew x (Pn.rtGet x.d Pn.none).1.1 u off s
noncomputable def write (x : Im) (u off : Int) (s : List UInt8) : Im × Int :=
 if x.br = true then (x, 24) else if (u < 0 ∨ x.g ≤ u) ∨ off < 0 ∨ 128 < s.length ∨ 128 - (s.length : Int) < off then (x, 10) else if s = [] then (x, 0) else writeIn (x.mark u) u off s
noncomputable def wipeIn (x : Im) (u : Int) (hole : Bool) : Im × Int :=
 if (Pn.rtGet x.d Pn.none).2 ≠ 0 then (x, (Pn.rtGet x.d Pn.none).2) else if (Pn.tabFind x.d Pn.none (Pn.rtGet x.d Pn.none).1.1 u).2 ≠ 0 then (x, (Pn.tabFind x.d Pn.none (Pn.rtGet x.d Pn.none).1.1 u).2)
 else if (Pn.tabFind x.d Pn.none (Pn.rtGet x.d Pn.none).1.1 u).1 = (if hole then (0, 0) else (2, 0)) then (x, 0) else writeNew.pointed x Pn.none u (if hole then 0 else 2) 0
noncomputable def wipe (x : Im) (u : Int) (hole : Bool) : Im × Int := if x.br = true then (x, 24) else if u < 0 ∨ x.g ≤ u then (x, 10) else wipeIn (x.mark u) u hole
/-- A range, cluster by cluster. -/
def cutGo : Nat → Int → Int → List (Int × Int × Int)
 | 0, _, _ => []
 | f + 1, a, n => if n ≤ 0 then [] else (a / 128, a % 128, min n (128 - a % 128)) :: cutGo f (a + min n (128 - a % 128)) (n - min n (128 - a % 128))
def cuts (a n : Int) : List (Int × Int × Int) := if a < 0 ∨ n < 0 ∨ 1073741824 < a ∨ 65536 < n then [] else cutGo n.toNat a n
def within (g a n : Int) : Bool := decide (0 ≤ a) && (decide (0 ≤ n) && (decide (n ≤ 128 * g) && decide (a ≤ 128 * g - n)))
noncomputable def clearStep (hole : Bool) (X : Im × Int) (p : Int × Int × Int) : Im × Int :=
 if X.2 ≠ 0 then X else if p.2.2 = 128 then wipe X.1 p.1 hole else write X.1 p.1 p.2.1 (List.replicate p.2.2.toNat 0)
noncomputable def clear (x : Im) (a n : Int) (hole : Bool) : Im × Int := if x.br = true then (x, 24) else if within x.g a n = false then (x, 10) else (cuts a n).foldl (clearStep hole) (x, 0)

/-! ### What stays -/
theorem markM_length (k : Int) (l : List Dm) : (markM k l).length = l.length := by unfold markM; split <;> simp
theorem markM_bits {k : Int} {l : List Dm} (h : ∀ m ∈ l, m.bits.length = 64) : ∀ m ∈ markM k l, m.bits.length = 64 := by
 intro m hm
 unfold markM at hm
 split at hm
 · exact h m hm
 · obtain ⟨o, ho, rfl⟩ := List.mem_map.1 hm
   simpa using h o ho
theorem Ok.mark {x : Im} (h : x.Ok) (k : Int) : (x.mark k).Ok := ⟨h.d, h.g, h.h, h.seq, h.pos, by show (markM k x.maps).length ≤ 2; rw [markM_length]; exact h.maps, markM_bits h.bits⟩
theorem Ok.withD {x : Im} (h : x.Ok) {D : Dk} (hD : D.fit = true) : ({ x with d := D } : Im).Ok := ⟨hD, h.g, h.h, h.seq, h.pos, h.maps, h.bits⟩
theorem jrCommit_j {D : Dk} {j : Jr} {L : Pn} (h : (jrCommit D j L).2.2 = 0) : (jrCommit D j L).2.1 = j ∨ (j.seq < 4611686018427387904 ∧ (jrCommit D j L).2.1.seq = j.seq + 1 ∧ 0 ≤ (jrCommit D j L).2.1.pos ∧ (jrCommit D j L).2.1.pos ≤ 10000) := by
 unfold jrCommit at h ⊢
 split
 · exact .inl rfl
 split
 · exact .inl rfl
 rename_i h1 h2
 rw [if_neg h1, if_neg h2] at h
 split
 · exact .inl rfl
 · right
   have hl := write_len (⟨j.seq, L⟩ : Tx)
   refine ⟨by omega, rfl, ?_⟩
   show 0 ≤ jrAt j L + ((jrRows j L).length : Int) ∧ jrAt j L + ((jrRows j L).length : Int) ≤ 10000
   have hr : (jrRows j L).length ≤ 27 := hl
   have := jrPlace_bound (pos := j.pos) (size := ((jrRows j L).length : Int)) (by omega) (by omega)
   unfold jrAt
   omega
theorem Ok.done {x : Im} (h : x.Ok) (L : Pn) : (x.done L).1.Ok ∧ (x.done L).1.maps = x.maps ∧ (x.done L).1.g = x.g ∧ (x.done L).1.h = x.h := by
 have hf := jrCommit_fit h.d x.j L
 unfold Im.done
 split
 · exact ⟨⟨hf, h.g, h.h, h.seq, h.pos, h.maps, h.bits⟩, rfl, rfl, rfl⟩
 · rename_i h0
   refine ⟨⟨hf, h.g, h.h, ?_, ?_, h.maps, h.bits⟩, rfl, rfl, rfl⟩
   · have := h.seq
     rcases jrCommit_j (Classical.not_not.1 h0) with e | ⟨e1, e2, _⟩
     · show (jrCommit x.d x.j L).2.1.seq < _; rw [e]; exact h.seq
     · show (jrCommit x.d x.j L).2.1.seq < _; omega
   · have := h.pos
     rcases jrCommit_j (Classical.not_not.1 h0) with e | ⟨_, _, e1, e2⟩
     · show -9223372036854775808 ≤ (jrCommit x.d x.j L).2.1.pos ∧ _ ; rw [e]; exact h.pos
     · show -9223372036854775808 ≤ (jrCommit x.d x.j L).2.1.pos ∧ (jrCommit x.d x.j L).2.1.pos ≤ _; omega
/-- What an act leaves: fit, of the same size, with these bitmaps. -/
structure Left (x : Im) (l : List Dm) (y : Im) : Prop where
 ok : y.Ok
 maps : y.maps = l
 g : y.g = x.g
 h : y.h = x.h
theorem Left.refl {x : Im} (h : x.Ok) : Left x x.maps x := ⟨h, rfl, rfl, rfl⟩
theorem Left.done {x y : Im} {l : List Dm} (h : Left x l y) (L : Pn) : Left x l (y.done L).1 := by
 obtain ⟨a, b, c, d⟩ := h.ok.done L
 exact ⟨a, b.trans h.maps, c.trans h.g, d.trans h.h⟩
theorem Left.withD {x y : Im} {l : List Dm} (h : Left x l y) {D : Dk} (hD : D.fit = true) : Left x l { y with d := D } := ⟨h.ok.withD hD, h.maps, h.g, h.h⟩
theorem Left.pointed {x y : Im} {l : List Dm} (h : Left x l y) (L : Pn) (u K A : Int) : Left x l (writeNew.pointed y L u K A).1 := by
 unfold writeNew.pointed
 split
 · exact h
 · exact h.done _
theorem fill_fit {D : Dk} (h : D.fit = true) (k : Int) (b : List UInt8) : (fill D k b).1.fit = true := Dk.next_fit (Dk.write_fit h _ _) fun E hE => Dk.write_fit hE _ _
theorem placeAt_fit {D : Dk} (h : D.fit = true) (k off : Int) (s : List UInt8) (i : Nat) : (placeAt k off s i D).1.fit = true := by
 unfold placeAt
 split
 · exact h
 split
 · exact h
 · exact Dk.write_fit h _ _
theorem place_fit {D : Dk} (h : D.fit = true) (k off : Int) (s : List UInt8) : (place D k off s).1.fit = true := Dk.next_fit (placeAt_fit h k off s 0) fun E hE => placeAt_fit hE k off s 1
theorem Left.writeNew {x y : Im} {l : List Dm} (h : Left x l y) (l1 u off : Int) (s : List UInt8) : Left x l (y.writeNew l1 u off s).1 := by
 unfold Im.writeNew
 split
 · exact h
 split
 · exact h
 split
 · exact h.withD (fill_fit h.ok.d _ _)
 · exact (h.withD (fill_fit h.ok.d _ _)).pointed _ _ _ _
theorem Left.writeIn {x y : Im} {l : List Dm} (h : Left x l y) (u off : Int) (s : List UInt8) : Left x l (y.writeIn u off s).1 := by
 unfold Im.writeIn
 split
 · exact h
 split
 · exact h
 split
 · exact h.writeNew _ _ _ _
 split
 · exact h
 split
 · exact h.withD (place_fit h.ok.d _ _ _)
 · exact h.writeNew _ _ _ _
theorem Left.wipeIn {x y : Im} {l : List Dm} (h : Left x l y) (u : Int) (b : Bool) : Left x l (y.wipeIn u b).1 := by
 unfold Im.wipeIn
 split
 · exact h
 split
 · exact h
 by_cases hc : (Pn.tabFind y.d Pn.none (Pn.rtGet y.d Pn.none).1.1 u).1 = (if b then (0, 0) else (2, 0))
 · rw [if_pos hc]; exact h
 · rw [if_neg hc]; exact h.pointed _ _ _ _
/-- A write leaves the bitmaps as they were, or marked; marked, where it went through. -/
theorem write_left {x : Im} (h : x.Ok) (u off : Int) (s : List UInt8) : (Left x x.maps (x.write u off s).1 ∧ ((x.write u off s).2 = 0 → s = [])) ∨ Left x (markM u x.maps) (x.write u off s).1 := by
 unfold write
 split
 · exact .inl ⟨Left.refl h, fun h => absurd h (by simp)⟩
 split
 · exact .inl ⟨Left.refl h, fun h => absurd h (by simp)⟩
 split
 · rename_i h3; exact .inl ⟨Left.refl h, fun _ => h3⟩
 · exact .inr ((show Left x (markM u x.maps) (x.mark u) from ⟨h.mark u, rfl, rfl, rfl⟩).writeIn u off s)
theorem wipe_left {x : Im} (h : x.Ok) (u : Int) (b : Bool) : (Left x x.maps (x.wipe u b).1 ∧ (x.wipe u b).2 ≠ 0) ∨ Left x (markM u x.maps) (x.wipe u b).1 := by
 unfold wipe
 split
 · exact .inl ⟨Left.refl h, by simp⟩
 split
 · exact .inl ⟨Left.refl h, by simp⟩
 · exact .inr ((show Left x (markM u x.maps) (x.mark u) from ⟨h.mark u, rfl, rfl, rfl⟩).wipeIn u b)
/-! ### Which bits are set -/
/-- All bits that one row of bitmaps has, another one has, too; their names are the same. -/
def Covers (l m : List Dm) : Prop := l.map (·.name) = m.map (·.name) ∧ ∀ (i : Nat) (a b : Dm), l[i]? = some a → m[i]? = some b → ∀ k, a.bits.getD k false = true → b.bits.getD k false = true
/-- All bitmaps of a row have this bit. -/
def Marked (k : Nat) (l : List Dm) : Prop := ∀ m ∈ l, m.bits.getD k false = true
theorem Covers.refl (l : List Dm) : Covers l l := ⟨rfl, fun i a b h1 h2 k hk => by rw [h1] at h2; injection h2 with h2; rw [← h2]; exact hk⟩
theorem Covers.trans {l m o : List Dm} (h : Covers l m) (h2 : Covers m o) : Covers l o := ⟨h.1.trans h2.1, fun i a c h3 h4 k hk => by
 have hl := congrArg List.length h.1
 rw [List.length_map, List.length_map] at hl
 have hi := (List.getElem?_eq_some_iff.1 h3).1
 have e : m[i]? = some (m[i]'(by omega)) := List.getElem?_eq_getElem (by omega)
 exact h2.2 i _ c e h4 k (h.2 i a _ h3 e k hk)⟩
theorem covers_mark (k : Int) (l : List Dm) : Covers l (markM k l) := by
 unfold markM
 split
 · exact Covers.refl l
 · refine ⟨by rw [List.map_map]; rfl, fun i a b h1 h2 j hj => ?_⟩
   rw [List.getElem?_map, h1] at h2
   injection h2 with h2
   rw [← h2]
   show (a.bits.set k.toNat true).getD j false = true
   rw [List.getD_eq_getElem?_getD, List.getElem?_set]
   rw [List.getD_eq_getElem?_getD] at hj
   split
   · split
     · rfl
     · rename_i e h3; rw [← e, List.getElem?_eq_none (by omega)] at hj; exact hj
   · exact hj
theorem marked_mark {k : Nat} (hk : k < 64) {l : List Dm} (h : ∀ m ∈ l, m.bits.length = 64) : Marked k (markM k l) := by
 intro m hm
 unfold markM at hm
 rw [if_neg (by omega)] at hm
 obtain ⟨o, ho, rfl⟩ := List.mem_map.1 hm
 show (o.bits.set (k : Int).toNat true).getD k false = true
 rw [Int.toNat_natCast, List.getD_eq_getElem?_getD, List.getElem?_set_self (by rw [h o ho]; exact hk)]
 rfl
theorem Marked.covers {k : Nat} {l m : List Dm} (h : Marked k l) (hc : Covers l m) : Marked k m := by
 intro b hb
 obtain ⟨i, hi, rfl⟩ := List.getElem_of_mem hb
 have hl := congrArg List.length hc.1
 rw [List.length_map, List.length_map] at hl
 exact hc.2 i (l[i]'(by omega)) m[i] (List.getElem?_eq_getElem _) (List.getElem?_eq_getElem _) k (h _ (List.getElem_mem _))
/-- What a row of acts leaves. -/
structure Kept (x y : Im) : Prop where
 ok : y.Ok
 maps : Covers x.maps y.maps
 g : y.g = x.g
 h : y.h = x.h
theorem Kept.refl {x : Im} (h : x.Ok) : Kept x x := ⟨h, Covers.refl _, rfl, rfl⟩
theorem Kept.trans {x y z : Im} (h : Kept x y) (h2 : Kept y z) : Kept x z := ⟨h2.ok, h.maps.trans h2.maps, h2.g.trans h.g, h2.h.trans h.h⟩
theorem write_kept {x : Im} (h : x.Ok) (u : Nat) (off : Int) (s : List UInt8) : Kept x (x.write u off s).1 ∧ ((x.write u off s).2 = 0 → s ≠ [] → u < 64 ∧ Marked u (x.write u off s).1.maps) := by
 have hu : (x.write u off s).2 = 0 → s ≠ [] → u < 64 := fun h0 h1 => by
  unfold write at h0
  split at h0
  · exact absurd h0 (by simp)
  split at h0
  · exact absurd h0 (by simp)
  · rename_i h3
    have := h.g
    omega
 rcases write_left h u off s with ⟨a, b⟩ | a
 · exact ⟨⟨a.ok, by rw [a.maps]; exact Covers.refl _, a.g, a.h⟩, fun h0 h1 => absurd (b h0) h1⟩
 · exact ⟨⟨a.ok, by rw [a.maps]; exact covers_mark _ _, a.g, a.h⟩, fun h0 h1 => ⟨hu h0 h1, by rw [a.maps]; exact marked_mark (hu h0 h1) h.bits⟩⟩
theorem wipe_kept {x : Im} (h : x.Ok) (u : Nat) (b : Bool) : Kept x (x.wipe u b).1 ∧ ((x.wipe u b).2 = 0 → u < 64 ∧ Marked u (x.wipe u b).1.maps) := by
 have hu : (x.wipe u b).2 = 0 → u < 64 := fun h0 => by
  unfold wipe at h0
  split at h0
  · exact absurd h0 (by simp)
  split at h0
  · exact absurd h0 (by simp)
  · rename_i h3
    have := h.g
    omega
 rcases wipe_left h u b with ⟨a, c⟩ | a
 · exact ⟨⟨a.ok, by rw [a.maps]; exact Covers.refl _, a.g, a.h⟩, fun h0 => absurd h0 c⟩
 · exact ⟨⟨a.ok, by rw [a.maps]; exact covers_mark _ _, a.g, a.h⟩, fun h0 => ⟨hu h0, by rw [a.maps]; exact marked_mark (hu h0) h.bits⟩⟩
end Im
end Go.Proofs.YtlapjkbefkmohaaGreat

set_option linter.unusedVariables false
namespace Go.Proofs.YtlapjkbefkmohaaGreat
open Go.RowKit Go.Shelf
theorem blk3 {w : World} {g : Nat} {t : TypeId} {a b c : Value} (h : Blk w g t #[a, b, c]) : w.cell? ⟨g, 0, none⟩ = some a ∧ w.cell? ⟨g, 1, none⟩ = some b ∧ w.cell? ⟨g, 2, none⟩ = some c := ⟨h.cell 0, h.cell 1, h.cell 2⟩
end Go.Proofs.YtlapjkbefkmohaaGreat
