/- Package txn and the document's: sizes, what a head tells, numbers and pads. Package txn: slices.Chunk at []int, whose iterator hands out stretches of 16. Package txn: a transaction as sectors. Package txn: reading sectors as a transaction: its parts. Package txn: reading sectors as a transaction. Package jour: a plan that is made to last. The document's transactions: which are the same, what a head tells, and the sectors of one. The document's transactions: the sectors of one. -/
import Derived.Test.YtlapjkbefkmohaaGreatSdPlain1
import Derived.Test.YtlapjkbefkmohaaGreatSdPacks
import Derived.Test.YtlapjkbefkmohaaGreatSdRegs
import Derived.Test.YtlapjkbefkmohaaGreatSdLay2
import Derived.Test.YtlapjkbefkmohaaGreatSdDev2
import Derived.Test.YtlapjkbefkmohaaGreatShelfB
import Derived.Shelf.Strings.OnBuilder
import Derived.Shelf.RegionOpen
import Derived.Test.YtlapjkbefkmohaaGreatSdPackLaw
import Derived.Lib.Builder
import Derived.Shelf.Strings.Builder1
import Derived.Test.YtlapjkbefkmohaaGreatSdPlan1
import Derived.BigQuiet
import Derived.Test.YtlapjkbefkmohaaGreatSdBlk3
import Derived.Test.YtlapjkbefkmohaaGreatSdPlan8
import Derived.Test.YtlapjkbefkmohaaGreatSdImg9
import Derived.Deep.RegionHeld3
set_option linter.unusedVariables false
namespace Go.Proofs.YtlapjkbefkmohaaGreat
open Go.RowKit Go.Shelf
attribute [local go_sem] bs_mk bs_append bs_extract bs_size bs_toList bs_get
theorem r6_pad (s : List UInt8) (hs : s.length ≤ 64) (w : World) : Calls Tryz.prog 98 #[.string (bs s)] w fun e w' => e = .returned (.string (bs (pad64 s))) ∧ Below w.heap.size w w' := by
 have hp := fun W => rpad_ok s (by unfold maxLen; omega) 64 (by omega) (by omega) W
 go_enter Tryz.func98, Tryz.ntmps98
 go_wp2_with (go_at_call 75; refine (hp _).mono ?_; rintro e w' ⟨rfl, hb⟩)
 go_ret
 exact ⟨rfl, hb⟩
end Go.Proofs.YtlapjkbefkmohaaGreat
set_option linter.unusedVariables false
namespace Go.Proofs.YtlapjkbefkmohaaGreat
open Go.RowKit Go.Shelf
attribute [local go_sem] bs_mk bs_append bs_extract bs_size bs_toList bs_get Oper.semAt_some
end Go.Proofs.YtlapjkbefkmohaaGreat

set_option linter.unusedVariables false
namespace Go.Proofs.YtlapjkbefkmohaaGreat
open Go.RowKit Go.Shelf
attribute [local go_sem] bs_mk bs_append bs_extract bs_size bs_toList bs_get Oper.semAt_some
abbrev tval (t : Tx) (p q : Pl) : Value := .agg #[.int .u64 t.seq, .slice p.a t.plan.targets.length p.c, .slice q.a t.plan.data.length q.c]
/-- The call hands back a row of sectors of its own, and a number. -/
def RetRows (w : World) (te : TypeId) (X : List (List UInt8) × Int) (e : Ending) (w' : World) : Prop :=
 ∃ v, e = .returned (.tuple #[v, .int .i64 X.2]) ∧ w'.ownsRow w.heap.size te 1 v X.1.length (strCells X.1)
theorem crcMore_nil {s : Nat} (h : s < 4294967296) : crcMore s [] = s := by
 unfold crcMore
 show 4294967295 - (4294967295 - s) = s
 omega
theorem strCells_snoc (X : List (List UInt8)) (s : List UInt8) : strCells X ++ [Value.string (bs s)] = strCells (X ++ [s]) := by simp [strCells]
end Go.Proofs.YtlapjkbefkmohaaGreat

set_option linter.unusedVariables false
namespace Go.Proofs.YtlapjkbefkmohaaGreat
open Go.RowKit Go.Shelf
attribute [local go_sem] bs_mk bs_append bs_extract bs_size bs_toList bs_get
/-- The call hands back a transaction and a number. -/
def RetTx (X : Tx × Int) (e : Ending) (w : World) : Prop := ∃ p q, e = .returned (.tuple #[tval X.1 p q, .int .i64 X.2]) ∧ IsPn w X.1.plan p q
/-- Where a plan's slices lie: in rows of their own, from that bound on. -/
def Rows2 (B : Nat) (L : Pn) (p q : Pl) (w : World) : Prop :=
 w.ownsRow B 3 1 (.slice p.a L.targets.length p.c) L.targets.length (intCells L.targets) ∧ w.ownsRow B 9 1 (.slice q.a L.data.length q.c) L.data.length (strCells L.data)
/-- And its slices lie in rows of their own, from that bound on. -/
def RetTxN (B : Nat) (X : Tx × Int) (e : Ending) (w : World) : Prop := ∃ p q, e = .returned (.tuple #[tval X.1 p q, .int .i64 X.2]) ∧ IsPn w X.1.plan p q ∧ Rows2 B X.1.plan p q w
theorem RetTxN.ret {B : Nat} {X : Tx × Int} {e : Ending} {w : World} (h : RetTxN B X e w) : RetTx X e w := by
 obtain ⟨p, q, he, hi, _⟩ := h
 exact ⟨p, q, he, hi⟩
end Go.Proofs.YtlapjkbefkmohaaGreat
set_option linter.unusedVariables false
namespace Go.Proofs.YtlapjkbefkmohaaGreat
open Go.RowKit Go.Shelf
attribute [local go_sem] bs_mk bs_append bs_extract bs_size bs_toList bs_get
theorem own_later {w w' : World} {base : Nat} {e : TypeId} {size n : Nat} {v : Value} {xs : List Value} (h : w.ownsRow base e size v n xs) (hb : Below w.heap.size w w') : w'.ownsRow base e size v n xs :=
 h.kept (row := none) ⟨hb.os, hb.tape, hb.output, hb.size, fun k hk _ => hb.block k hk⟩ (by cases hv : v.ownBlock with | none => exact .inl rfl | some x => exact .inr (by simp))
theorem Rows2.below {B : Nat} {L : Pn} {p q : Pl} {w w' : World} (h : Rows2 B L p q w) (hb : Below w.heap.size w w') : Rows2 B L p q w' := ⟨own_later h.1 hb, own_later h.2 hb⟩
theorem Rows2.off {B : Nat} {L : Pn} {p q : Pl} {w : World} (h : Rows2 B L p q w) {g : Nat} (hg : g < B) : PnOff g L p q := ⟨off_own h.1 hg, off_own h.2 hg⟩
theorem Rows2.set {B : Nat} {L : Pn} {p q : Pl} {w : World} (h : Rows2 B L p q w) {a : Addr} (ha : a.block < B) (v : Value) : Rows2 B L p q (w.setCell a v) :=
 ⟨ownsRow_setCell_other h.1 (a := a) (fun e => by have := (h.1.lt _ e).1; omega) v, ownsRow_setCell_other h.2 (a := a) (fun e => by have := (h.2.lt _ e).1; omega) v⟩
end Go.Proofs.YtlapjkbefkmohaaGreat

set_option linter.unusedVariables false
namespace Go.Proofs.YtlapjkbefkmohaaGreat
open Go.RowKit Go.Shelf
attribute [local go_sem] bs_mk bs_append bs_extract bs_size bs_toList bs_get
/-- The call hands back a device, a journal's place and a number. -/
def RetJr (B : Nat) (D : Dk) (p q : Pl) (X : Dk × Jr × Int) (e : Ending) (w : World) : Prop :=
 ∃ p' q', e = .returned (.tuple #[dval X.1 p' q', jval X.2.1, .int .i64 X.2.2]) ∧ IsDk w X.1 p' q' ∧ ∀ g, g < B → DkOff g D p q → DkOff g X.1 p' q'
theorem below_five (w : World) (a b c d e : Obj) : Below w.heap.size w ((((((w.alloc a).alloc b).alloc c).alloc d).alloc e).drew) :=
 ((((((Below.refl w.heap.size w).alloc (Nat.le_refl _) a).alloc (by simp) b).alloc (by simp; omega) c).alloc (by simp; omega) d).alloc (by simp; omega) e).drew
theorem jrRows_ok {j : Jr} {L : Pn} (hL : L.Fit) (h0 : L.targets ≠ []) : (⟨j.seq, L⟩ : Tx).write = (jrRows j L, 0) ∧ (jrRows j L).length ≤ 27 ∧ (∀ s ∈ jrRows j L, s.length = 64) ∧ 0 < (jrRows j L).length := by
 have hok : (⟨j.seq, L⟩ : Tx).Ok := ⟨hL, h0⟩
 have hw : (⟨j.seq, L⟩ : Tx).write = ((⟨j.seq, L⟩ : Tx).rows, 0) := by unfold Tx.write; rw [if_pos hok]
 have e : jrRows j L = (⟨j.seq, L⟩ : Tx).rows := by unfold jrRows; rw [hw]
 refine ⟨by rw [e]; exact hw, by have := write_len (⟨j.seq, L⟩ : Tx); rw [hw] at this; rw [e]; exact this, by rw [e]; exact Tx.rows_64 hok, by rw [e]; simp [Tx.rows]⟩
end Go.Proofs.YtlapjkbefkmohaaGreat

set_option linter.unusedVariables false
namespace Go.Proofs.YtlapjkbefkmohaaGreat
open Go.RowKit Go.Shelf
attribute [local go_sem] bs_mk bs_append bs_extract bs_size bs_toList bs_get
theorem sector_nat {x : Int} (h : sectorOk x = true) : ∃ k : Nat, x = k ∧ k < 1024 := by
 simp only [sectorOk, Bool.and_eq_true, decide_eq_true_eq] at h
 obtain ⟨k, rfl⟩ := Int.eq_ofNat_of_zero_le h.1
 exact ⟨k, rfl, by omega⟩
set_option maxRecDepth 100000 in
theorem r6_write_no (t : Tx) (p q : Pl) (w : World) (hL : IsPn w t.plan p q) (ht : ¬ t.Ok) :
 Calls Tryz.prog 89 #[tval t p q] w fun e w' => RetRows w 9 t.write e w' ∧ Below w.heap.size w w' := by
 have Hw := hid (show t.write = ([], 25) by unfold Tx.write; rw [if_neg ht])
 have hpm := hL.pm
 have hpc := hL.pc
 unfold maxLen at hpm
 have hz : ∀ W : World, W.ownsRow w.heap.size 9 1 (.slice none 0 0) 0 [] := fun W => World.ownsRow_nil _ _ _ _
 have x0 := Blk.new w 159 #[.int .u64 t.seq, .slice p.a t.plan.targets.length p.c, .slice q.a t.plan.data.length q.c]
 have hb := (Below.refl w.heap.size w).alloc (Nat.le_refl _) (.cells #[.int .u64 t.seq, .slice p.a t.plan.targets.length p.c, .slice q.a t.plan.data.length q.c] 159)
 have k0 := blk3 x0
 have hfit := fun (W : World) (hb : Below w.heap.size w W) => r5_fit t.plan p q W (hL.below hb)
 by_cases hf : t.plan.Fit
 · have h0 : t.plan.targets = [] := Classical.byContradiction fun h => ht ⟨hf, h⟩
   rw [Pn.fit_iff.2 hf] at hfit
   have hl' : ((t.plan.targets.length : Int) == 0) = true := by simp [h0]
   clear h0 hf ht hL
   go_enter Tryz.func89, Tryz.ntmps89
   go_wp2_with fail
   go_at_call 97
   refine (hfit _ hb).mono ?_
   rintro e w1 ⟨rfl, hb1⟩
   go_wp2_with fail
   go_ret2
   exact ⟨⟨_, by rw [Hw.out]; rfl, by rw [Hw.out]; exact hz _⟩, bt hb hb1⟩
 · rw [Pn.fit_no hf] at hfit
   clear hf ht hL
   go_enter Tryz.func89, Tryz.ntmps89
   go_wp2_with fail
   go_at_call 97
   refine (hfit _ hb).mono ?_
   rintro e w1 ⟨rfl, hb1⟩
   go_wp2_with fail
   go_ret2
   exact ⟨⟨_, by rw [Hw.out]; rfl, by rw [Hw.out]; exact hz _⟩, bt hb hb1⟩
end Go.Proofs.YtlapjkbefkmohaaGreat
set_option linter.unusedVariables false
namespace Go.Proofs.YtlapjkbefkmohaaGreat
open Go.RowKit Go.Shelf
attribute [local go_sem] bs_mk bs_append bs_extract bs_size bs_toList bs_get
set_option maxRecDepth 100000 in
set_option maxHeartbeats 2000000 in
theorem r6_write_yes (t : Tx) (p q : Pl) (w : World) (hL : IsPn w t.plan p q) (hs : t.seq < 18446744073709551616) (ht : t.Ok) :
 Calls Tryz.prog 89 #[tval t p q] w fun e w' => RetRows w 9 t.write e w' ∧ Below w.heap.size w w' := by
 have Hw := hid (show t.write = (t.rows, 0) by unfold Tx.write; rw [if_pos ht])
 have hpm := hL.pm
 have hpc := hL.pc
 unfold maxLen at hpm
 have hl := List.length_pos_iff.2 ht.2
 have hl24 := ht.1.2.1
 have hdl : t.plan.data.length = t.plan.targets.length := ht.1.1.symm
 have hdl24 : t.plan.data.length ≤ 24 := by omega
 have hl' : ((t.plan.targets.length : Int) == 0) = false := by rw [beq_eq_false_iff_ne]; omega
 have hfit := fun (W : World) (hb : Below w.heap.size w W) => r5_fit t.plan p q W (hL.below hb)
 rw [Pn.fit_iff.2 ht.1] at hfit
 have Hat := hid (fun (W : World) (hb : Below w.heap.size w W) => hL.targets.below hb)
 have Hdat := hid (fun (W : World) (hb : Below w.heap.size w W) => hL.data.below hb)
 have Hqn := hid hL.qn
 have Hsec := hid (fun i (hi : i < t.plan.targets.length) => sector_nat (ht.1.2.2.1 i hi).1)
 have Hnx := hid (fun i (hi : i < t.plan.targets.length) => wrSt_next (l := t.plan.targets) (i := i) hi hl24)
 have Hln := hid (fun i (hi : i < t.plan.targets.length) => wrSt_len (l := t.plan.targets) (i := i) hi hl24)
 have Hdn := hid (wrSt_done t.plan.targets)
 have Hz := wrSt_zero ht.2
 have hR64 := Tx.rest_64 ht
 have hRl := Tx.rest_length ht
 have hRs : txSize t.plan.targets.length ≤ 27 := by unfold txSize; split <;> omega
 have hrest := hid (show t.rest = idxRows t.plan.targets ++ t.plan.data from rfl)
 have hIl := idxRows_length ht.2 hl24
 have hI27 : (idxRows t.plan.targets).length ≤ 27 := by omega
 have HRL := hid (show (idxRows t.plan.targets).length + t.plan.data.length = t.rest.length by omega)
 have hR27 : t.rest.length ≤ 27 := by omega
 have HRl := hid hRl
 clear hdl hIl hRl
 obtain ⟨PA, PC⟩ := p
 obtain ⟨QA, QC⟩ := q
 simp only at hpm hpc Hat Hdat Hqn
 have x0 := Blk.new w 159 #[.int .u64 t.seq, .slice PA t.plan.targets.length PC, .slice QA t.plan.data.length QC]
 have hb := (Below.refl w.heap.size w).alloc (Nat.le_refl _) (.cells #[.int .u64 t.seq, .slice PA t.plan.targets.length PC, .slice QA t.plan.data.length QC] 159)
 have hn8 : ∀ W, Calls Tryz.prog 74 #[.int .u64 t.seq, .int .i64 8] W fun e w' => e = .returned (.string (bs (be 8 t.seq))) ∧ Below W.heap.size W w' := fun W => rput_ok t.seq 8 hs (by omega) (by omega) W
 have hn2 : ∀ W, Calls Tryz.prog 74 #[.int .u64 t.plan.targets.length, .int .i64 2] W fun e w' => e = .returned (.string (bs (be 2 t.plan.targets.length))) ∧ Below W.heap.size W w' := fun W => rput_ok t.plan.targets.length 2 (by omega) (by omega) (by omega) W
 have hnt : ∀ W, Calls Tryz.prog 74 #[.int .u64 (65535 - t.plan.targets.length : Nat), .int .i64 2] W fun e w' => e = .returned (.string (bs (be 2 (65535 - t.plan.targets.length)))) ∧ Below W.heap.size W w' := fun W => rput_ok (65535 - t.plan.targets.length) 2 (by omega) (by omega) (by omega) W
 have hhd : be 8 t.seq ++ be 2 t.plan.targets.length = t.head := rfl
 have hhl := t.head_length
 have hof := fun W => r2_of t.head (by rw [hhl]; decide) W
 have hcs : crcMore (crcOf t.head) t.rest.flatten = crcOf (t.head ++ t.rest.flatten) := crcMore_append (by omega) _ _
 have hcl : crcOf (t.head ++ t.rest.flatten) < 4294967296 := crcMore_lt _ _
 have hch : crcOf t.head < 4294967296 := crcMore_lt _ _
 have htop : pad64 (magicJ ++ t.head ++ be 2 (65535 - t.plan.targets.length) ++ be 4 (crcOf (t.head ++ t.rest.flatten))) = t.top := rfl
 have hrows : t.rows = t.top :: t.rest := rfl
 have Htop := hid htop
 have Hrows := hid hrows
 have hb4 : (be 4 (crcOf (t.head ++ t.rest.flatten))).length = 4 := be_length _ _
 have hb2 : (be 2 (65535 - t.plan.targets.length)).length = 2 := be_length _ _
 have hb8l : (be 8 t.seq).length = 8 := be_length _ _
 have hb2l : (be 2 t.plan.targets.length).length = 2 := be_length _ _
 have hby := fun W => r2_bytes (crcOf (t.head ++ t.rest.flatten)) hcl W
 have hpad := fun W => r6_pad (magicJ ++ t.head ++ be 2 (65535 - t.plan.targets.length) ++ be 4 (crcOf (t.head ++ t.rest.flatten))) (by simp only [List.length_append, hhl, hb2, hb4]; decide) W
 rw [htop] at hpad
 have Hcsum := hid hcs
 have Hcf := hid (fun i (hi : i < t.rest.length) => crcMore_flat hch t.rest i hi)
 have wn := u64w (x := (t.plan.targets.length : Int)) ⟨by omega, by omega⟩
 have wt := u64w (x := 65535 - (t.plan.targets.length : Int)) ⟨by omega, by omega⟩
 have wti := i64w (x := 65535 - (t.plan.targets.length : Int)) ⟨by omega, by omega⟩
 have wn1 := i64w (x := (t.plan.targets.length : Int) - 1) ⟨by omega, by omega⟩
 have et : (65535 : Int) - (t.plan.targets.length : Int) = ((65535 - t.plan.targets.length : Nat) : Int) := by omega
 obtain ⟨i0, hi, iz0, iz1, iz2⟩ := info_parts Tryz.infoStrP
 clear hL htop hrows ht hcs
 generalize t.rest = R at *
 generalize t.head = H at *
 generalize t.top = TP at *
 generalize be 4 (crcOf (H ++ R.flatten)) = B4 at *
 generalize crcOf (H ++ R.flatten) = C at *
 generalize crcOf H = C0 at *
 generalize be 2 (65535 - t.plan.targets.length) = BT at *
 generalize (65535 - t.plan.targets.length : Nat) = mt at *
 generalize be 8 t.seq = B8 at *
 generalize be 2 t.plan.targets.length = B2 at *
 have hml4 : magicJ ++ H ++ BT ++ B4 = 67 :: 79 :: 70 :: 74 :: (H ++ (BT ++ B4)) := by simp [magicJ]
 rw [hml4] at hpad
 clear hml4
 have k0 := blk3 x0
 go_enter Tryz.func89, Tryz.ntmps89
 go_wp2_with fail
 go_at_call 97
 refine (hfit _ hb).mono ?_
 rintro e w1 ⟨rfl, hb1⟩
 have x1 := x0.below hb1 x0.lt
 have b1 := bt hb hb1
 clear k0 hfit
 have k1 := blk3 x1
 go_wp2_with fail
 clear k1
 go_loopw [5, 6, 7] (fun v s i W => ∃ (k : Nat) (X : List (List UInt8)) (z : List UInt8), k ≤ t.plan.targets.length ∧ i = .int .i64 k ∧ s = .string (bs z) ∧ Hid (wrSt t.plan.targets k = (X, z)) ∧ W.ownsRow (w.heap.size + 1) 9 1 v X.length (strCells X) ∧ Blk W w.heap.size 159 #[.int .u64 t.seq, .slice PA t.plan.targets.length PC, .slice QA t.plan.data.length QC] ∧ Below w.heap.size w W) (fun _ _ i _ => t.plan.targets.length - (intOf i).toNat)
 case atStart => exact ⟨0, [], [], Nat.zero_le _, rfl, rfl, hid Hz, World.ownsRow_nil _ _ _ _, x1, b1⟩
 case round =>
  obtain ⟨k, X, z, hk, rfl, rfl, hst, own, x, hB⟩ := hrel
  have xk := blk3 x
  by_cases hlt : k < t.plan.targets.length
  · obtain ⟨a, ha, ha'⟩ := Hsec.out k hlt
    have hnx := Hnx.out k hlt
    obtain ⟨hzl, hXl⟩ := Hln.out k hlt
    rw [hst.out] at hnx hzl hXl
    rw [ha, Int.toNat_natCast] at hnx
    simp only at hnx hzl hXl
    obtain ⟨pb, po, hpa, hcell⟩ := (Hat.out _ hB).int hlt
    replace hcell := hcell k hlt
    rw [ha] at hcell
    subst hpa
    have hput : ∀ W, Calls Tryz.prog 74 #[.int .u64 a, .int .i64 4] W fun e w' => e = .returned (.string (bs (be 4 a))) ∧ Below W.heap.size W w' := fun W => rput_ok a 4 (by omega) (by omega) (by omega) W
    have hb4' : (be 4 a).length = 4 := be_length _ _
    have wa := u64w (x := (a : Int)) ⟨by omega, by omega⟩
    have hpd := fun W => r6_pad (z ++ be 4 a) (by rw [List.length_append, hb4']; omega) W
    have Hsn := hid (strCells_snoc X (pad64 (z ++ be 4 a)))
    generalize be 4 a = ba at *
    generalize pad64 (z ++ ba) = pz at *
    have er : (k : Int).tmod 16 = ((k % 16 : Nat) : Int) := by rw [Int.tmod_eq_emod_of_nonneg (by omega)]; rfl
    have hcut := hid hnx
    clear hnx ha
    by_cases c1 : k = t.plan.targets.length - 1
    · replace c1 := hid c1
      go_wp2_with fail
      go_at_call 74
      refine (hput _).mono ?_
      rintro e w2 ⟨rfl, hb2'⟩
      have x2 := x.below hb2' x.lt
      have own2 := own_later own hb2'
      have B2' := bt hB hb2'
      have xk2 := blk3 x2
      clear xk
      have g1 : ((k : Int) == (t.plan.targets.length : Int) - 1) = true := by rw [beq_iff_eq]; have := c1.out; omega
      go_wp2_with fail
      go_at_call 98
      refine (hpd _).mono ?_
      rintro e w3 ⟨rfl, hb3⟩
      have x3 := x2.below hb3 x2.lt
      have own3 := own_later own2 hb3
      have B3 := bt B2' hb3
      have xA := x3.alloc (.cells #[.string (bs pz)] 9)
      have ownA := own3.alloc (.cells #[.string (bs pz)] 9)
      have BA := B3.alloc B3.size (.cells #[.string (bs pz)] 9)
      clear xk2
      go_wp2_with (at_builtin; refine wpList_append_own _ rfl _ _ 65 rfl (w.heap.size + 1) 9 i0 (.string ⟨#[]⟩) 1 16 Tryz.underlying65 hi iz0 iz1 iz2 rfl (by decide) u5 X.length (strCells X) rfl ownA ⟨w3.heap.size, 0, none⟩ 1 1 [.string (bs pz)] rfl rfl (World.news_of_block (Blk.new w3 9 #[.string (bs pz)])) (by simp [Value.oneCell']) (by unfold maxLen; omega) (by omega) (Nat.succ_le_of_lt xA.lt) ?_; intro v9 w9 own9 gr9 _; have x9 := xA.kept gr9 (own_box ownA xA (by decide)); have B9 := BA.trans ((grown_below ownA gr9 (Nat.succ_le_of_lt xA.lt)).mono (Nat.le_succ _)); have xk9 := blk3 x9)
      go_roundw
      case rel => exact ⟨k + 1, X ++ [pz], [], by omega, by go_num, rfl, hid (by rw [hcut.out, if_pos (.inl (by have := c1.out; omega))]), by rw [List.length_append, List.length_singleton, ← Hsn.out]; exact own9, x9, B9⟩
      case measure => simp [intOf]; omega
    · have g1 : ((k : Int) == (t.plan.targets.length : Int) - 1) = false := by rw [beq_eq_false_iff_ne]; omega
      by_cases c2 : k % 16 = 15
      · have g2 : (((k % 16 : Nat) : Int) == 15) = true := by rw [beq_iff_eq]; omega
        replace c2 := hid c2
        go_wp2_with fail
        go_at_call 74
        refine (hput _).mono ?_
        rintro e w2 ⟨rfl, hb2'⟩
        have x2 := x.below hb2' x.lt
        have own2 := own_later own hb2'
        have B2' := bt hB hb2'
        have xk2 := blk3 x2
        clear xk
        go_wp2_with fail
        go_at_call 98
        refine (hpd _).mono ?_
        rintro e w3 ⟨rfl, hb3⟩
        have x3 := x2.below hb3 x2.lt
        have own3 := own_later own2 hb3
        have B3 := bt B2' hb3
        have xA := x3.alloc (.cells #[.string (bs pz)] 9)
        have ownA := own3.alloc (.cells #[.string (bs pz)] 9)
        have BA := B3.alloc B3.size (.cells #[.string (bs pz)] 9)
        clear xk2
        go_wp2_with (at_builtin; refine wpList_append_own _ rfl _ _ 65 rfl (w.heap.size + 1) 9 i0 (.string ⟨#[]⟩) 1 16 Tryz.underlying65 hi iz0 iz1 iz2 rfl (by decide) u5 X.length (strCells X) rfl ownA ⟨w3.heap.size, 0, none⟩ 1 1 [.string (bs pz)] rfl rfl (World.news_of_block (Blk.new w3 9 #[.string (bs pz)])) (by simp [Value.oneCell']) (by unfold maxLen; omega) (by omega) (Nat.succ_le_of_lt xA.lt) ?_; intro v9 w9 own9 gr9 _; have x9 := xA.kept gr9 (own_box ownA xA (by decide)); have B9 := BA.trans ((grown_below ownA gr9 (Nat.succ_le_of_lt xA.lt)).mono (Nat.le_succ _)); have xk9 := blk3 x9)
        go_roundw
        case rel => exact ⟨k + 1, X ++ [pz], [], by omega, by go_num, rfl, hid (by rw [hcut.out, if_pos (.inr c2.out)]), by rw [List.length_append, List.length_singleton, ← Hsn.out]; exact own9, x9, B9⟩
        case measure => simp [intOf]; omega
      · have g2 : (((k % 16 : Nat) : Int) == 15) = false := by rw [beq_eq_false_iff_ne]; omega
        go_wp2_with fail
        go_at_call 74
        refine (hput _).mono ?_
        rintro e w2 ⟨rfl, hb2'⟩
        have x2 := x.below hb2' x.lt
        have own2 := own_later own hb2'
        have B2' := bt hB hb2'
        have xk2 := blk3 x2
        clear xk
        go_wp2_with fail
        go_roundw
        case rel => exact ⟨k + 1, X, z ++ ba, by omega, by go_num, rfl, hid (by rw [hcut.out, if_neg (by omega)]), own2, x2, B2'⟩
        case measure => simp [intOf]; omega
  · obtain rfl : k = t.plan.targets.length := by omega
    have hX := hst.out
    rw [Hdn.out] at hX
    obtain ⟨rfl, rfl⟩ := Prod.mk.inj hX
    have HR := hid (show strCells (idxRows t.plan.targets) ++ strCells t.plan.data = strCells R by rw [hrest.out]; simp [strCells])
    clear hX hst
    go_wp2_with (at_builtin; refine wpList_app rfl _ _ 65 rfl (w.heap.size + 1) 9 i0 (.string ⟨#[]⟩) 1 16 Tryz.underlying65 hi iz0 iz1 iz2 rfl (by decide) u5 (idxRows t.plan.targets).length (strCells (idxRows t.plan.targets)) rfl own QA t.plan.data.length QC (strCells t.plan.data) rfl (Hdat.out _ hB) (by rw [strCells_length, Nat.mul_one]) Hqn.out (one_strs _) (by unfold maxLen; omega) (by omega) (Nat.succ_le_of_lt x.lt) ?_; intro v2 w2 own2 bl2; rw [HR.out, HRL.out] at own2; have x2 := x.below bl2 (Nat.lt_succ_self _); have B2' := hB.trans (bl2.mono (Nat.le_succ _)); have xk2 := blk3 x2; clear xk)
    go_at_call 74
    refine (hn8 _).mono ?_
    rintro e w3 ⟨rfl, hb3⟩
    have x3 := x2.below hb3 x2.lt
    have own3 := own_later own2 hb3
    have B3 := bt B2' hb3
    clear xk2
    go_wp2_with fail
    go_at_call 74
    refine (hn2 _).mono ?_
    rintro e w4 ⟨rfl, hb4'⟩
    have own4 := own_later own3 hb4'
    have B4' := bt B3 hb4'
    clear x3 x2 x x1 x0
    go_wp2_with fail
    go_at_call 57
    refine (hof _).mono ?_
    rintro e w4' ⟨rfl, rfl⟩
    obtain ⟨AR, cR, rfl, hR1, hR2, hR3⟩ := own_slice own4
    go_wp2_with fail
    go_loopw [9, 10] (fun s i W => ∃ (k : Nat), k ≤ R.length ∧ i = .int .i64 k ∧ s = .int .u32 (crcMore C0 ((R.take k).flatten) : Nat) ∧ W = w4) (fun _ i _ => R.length - (intOf i).toNat)
    case atStart => exact ⟨0, Nat.zero_le _, rfl, by simp [crcMore_nil hch], rfl⟩
    case round =>
     obtain ⟨k, hk, rfl, rfl, rfl⟩ := hrel
     by_cases hlt : k < R.length
     · obtain ⟨pb, po, hpa, hcell⟩ := (Cells.of_own own4).str hlt
       subst hpa
       replace hcell := hcell k hlt
       have hml : crcMore C0 ((R.take k).flatten) < 4294967296 := crcMore_lt _ _
       have hm := fun W => r2_more (crcMore C0 ((R.take k).flatten)) hml R[k] (by rw [hR64 _ (List.getElem_mem hlt)]; decide) W
       rw [Hcf.out k hlt] at hm
       generalize R[k] = rk at *
       generalize crcMore C0 ((R.take k).flatten) = ck at *
       obtain ⟨cn, hcn⟩ : ∃ cn, crcMore C0 ((R.take (k + 1)).flatten) = cn := ⟨_, rfl⟩
       have Hcn := hid hcn
       rw [hcn] at hm
       clear hcn
       go_wp2_with fail
       go_at_call 80
       refine (hm _).mono ?_
       rintro e w5 ⟨rfl, rfl⟩
       go_wp2_with fail
       go_roundw
       case rel => exact ⟨k + 1, by omega, by go_num, by rw [Hcn.out], trivial⟩
       case measure => simp [intOf]; omega
     · obtain rfl : k = R.length := by omega
       rw [List.take_length, Hcsum.out]
       go_wp2_with fail
       go_at_call 74
       refine (hnt _).mono ?_
       rintro e w5 ⟨rfl, hb5⟩
       have own5 := own_later own4 hb5
       have B5 := bt B4' hb5
       go_wp2_with fail
       go_at_call 56
       refine (hby _).mono ?_
       rintro e w6 ⟨rfl, hb6⟩
       have own6 := own_later own5 hb6
       have B6 := bt B5 hb6
       go_wp2_with fail
       go_at_call 98
       refine (hpad _).mono ?_
       rintro e w7 ⟨rfl, hb7⟩
       have own7 := own_later own6 hb7
       have B7 := bt B6 hb7
       have hrow := World.ownsRow_lit (base := w.heap.size) (e := 9) (size := 1) w7 #[.string (bs TP)] 1 B7.size (by unfold maxLen; omega) rfl
       have own7a := own7.alloc (.cells #[.string (bs TP)] 9)
       have B7a := B7.alloc B7.size (.cells #[.string (bs TP)] 9)
       have HT := hid (show [Value.string (bs TP)] ++ strCells R = strCells t.rows by rw [Hrows.out]; rfl)
       have HTl : 1 + R.length = t.rows.length := by rw [Hrows.out, List.length_cons]; omega
       go_wp2_with (at_builtin; refine wpList_app rfl _ _ 65 rfl w.heap.size 9 i0 (.string ⟨#[]⟩) 1 16 Tryz.underlying65 hi iz0 iz1 iz2 rfl (by decide) _ 1 [.string (bs TP)] rfl hrow AR R.length cR (strCells R) rfl (Cells.of_own own7a) (by rw [strCells_length, Nat.mul_one]) hR3 (one_strs _) (by unfold maxLen; omega) (by omega) B7a.size ?_; intro v8 w8 own8 bl8; rw [HT.out, HTl] at own8; have B8' := B7a.trans bl8)
       go_ret2
       exact ⟨⟨_, by rw [Hw.out]; rfl, by rw [Hw.out]; exact own8⟩, B8'⟩
theorem r6_write (t : Tx) (p q : Pl) (w : World) (hL : IsPn w t.plan p q) (hs : t.seq < 18446744073709551616) :
 Calls Tryz.prog 89 #[tval t p q] w fun e w' => RetRows w 9 t.write e w' ∧ Below w.heap.size w w' := by
 by_cases h : t.Ok
 · exact r6_write_yes t p q w hL hs h
 · exact r6_write_no t p q w hL h
end Go.Proofs.YtlapjkbefkmohaaGreat
