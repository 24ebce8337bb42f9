/- sync.Once, not yet done, one goroutine: the parts of its slow way, each a contract of its own. Package crc: the table. Package crc: sums, and their bytes; the document's own. A loop over an iterator that itself loops over an iterator: the caller's invariant abides turns of loop records and of blocks for deferred calls, too, if they were laid since the iterator's call began. A loop over an iterator: what the round's beginning leaves need not be the caller's invariant (for a caller that leaves at the first one). Iterators that hand out what is told one by one, with the error of the last one. Nothing of the program stands here. A loop over an iterator that has some blocks of its own: the caller keeps those (its first c), and all that is no variable; rows of the caller's may grow. Nothing of the program stands here. A loop over an iterator that has some blocks of its own, and of whose values something is known in the world where they are handed out. Nothing of the program stands here. Package dev, function by function: how great, new ones, the writes handed out the last one first. Package dev: what is read. Package dev: new devices, what is written, flushed, crashed. -/
import Derived.Test.YtlapjkbefkmohaaGreatSdPlain1
import Derived.Test.YtlapjkbefkmohaaGreatProg
import Derived.Tactics
import Derived.Tactics2
import Derived.Defers
import Derived.Laws.Pointers
import Derived.Laws.LoneSync
import Derived.RegionTactic
import Derived.RegionCalls
import Derived.ChangeAlike
import Derived.Laws.NewBlocks
import Derived.WalkKit
import Derived.Laws.BitsAllLaws
import Derived.Laws.DeepNot64
import Derived.Lib.ConvBytes
import Derived.Lib.LazyBuf
import Derived.Test.YtlapjkbefkmohaaGreatSdPackLaw
import Derived.RangeFuncNested
import Derived.RangeFuncBox
import Derived.OwnWalkIn
import Derived.Test.YtlapjkbefkmohaaGreatShelf
import Derived.WalkMore
set_option linter.unusedVariables false
namespace Go.Proofs.YtlapjkbefkmohaaGreat
open Go.RowKit Go.Shelf
end Go.Proofs.YtlapjkbefkmohaaGreat
set_option linter.unusedVariables false
namespace Go.Proofs.YtlapjkbefkmohaaGreat
open Go.RowKit Go.Shelf
attribute [local go_sem] bs_mk bs_append bs_extract bs_size bs_toList bs_get
theorem crcN_next (n : Nat) : ∀ c, crcN (n + 1) c = crc1 (crcN n c) := by
 induction n with
 | zero => intro c; rfl
 | succ n ih => intro c; rw [crcN, ih]; rfl
end Go.Proofs.YtlapjkbefkmohaaGreat
set_option linter.unusedVariables false
namespace Go.Proofs.YtlapjkbefkmohaaGreat
open Go.RowKit Go.Shelf
attribute [local go_sem] bs_mk bs_append bs_extract bs_size bs_toList bs_get
theorem not32 (s : Nat) (h : s < 4294967296) : 4294967295 ^^^ s = 4294967295 - s := by
 have e := congrArg BitVec.toNat (BitVec.allOnes_xor (x := BitVec.ofNat 32 s))
 rw [BitVec.toNat_xor, BitVec.toNat_not, BitVec.toNat_allOnes, BitVec.toNat_ofNat, Nat.mod_eq_of_lt h] at e
 exact e
theorem not32_bits (s : Nat) (h : s < 4294967296) : bits .xor .u32 IntKind.u32.max (s : Int) = (((4294967295 - s : Nat)) : Int) := by
 rw [← not32 s h]
 exact u32_xor_nat 4294967295 s (by omega) h
theorem crcR_step {c : Nat} (h : c < 4294967296) : (c % 2 = 1 → bits .xor .u32 ((c : Int) / 2) 2197175160 = ((crc1 c : Nat) : Int)) ∧ (c % 2 = 0 → (c : Int) / 2 = ((crc1 c : Nat) : Int)) := by
 have e2 : ((c : Int) / (2 : Int)) = (((c >>> 1 : Nat)) : Int) := by rw [Nat.shiftRight_eq_div_pow]; omega
 constructor
 · intro h1
   rw [e2, show (2197175160 : Int) = ((2197175160 : Nat) : Int) by rfl, u32_xor_nat _ _ (by rw [Nat.shiftRight_eq_div_pow]; omega) (by omega)]
   rw [crc1, Nat.and_one_is_mod, h1, Nat.one_mul]
 · intro h0
   rw [e2, crc1, Nat.and_one_is_mod, h0, Nat.zero_mul, Nat.xor_zero]
set_option maxRecDepth 100000 in
set_option maxHeartbeats 1600000 in
theorem r2_more (s : Nat) (hs : s < 4294967296) (l : List UInt8) (hl : l.length ≤ 140737488355328) (w : World) :
 Calls Tryz.prog 80 #[.int .u32 s, .string (bs l)] w fun e w' => e = .returned (.int .u32 (crcMore s l : Nat)) ∧ w = w' := by
 have hx := not32_bits s hs
 have hml : 4294967295 - s < 4294967296 := by omega
 have He := hid (show crcMore s l = 4294967295 - crcL (4294967295 - s) l from rfl)
 obtain ⟨m, hme⟩ : ∃ m, 4294967295 - s = m := ⟨_, rfl⟩
 rw [hme] at hx hml He
 have hsg : IntKind.u32.signed = false := rfl
 have hy := not32_bits (crcL m l) (crcL_lt l hml)
 obtain ⟨v, hv⟩ : ∃ v, crcL m l = v := ⟨_, rfl⟩
 rw [hv] at hy He
 obtain ⟨r, hr⟩ : ∃ r, 4294967295 - v = r := ⟨_, rfl⟩
 rw [hr] at hy He
 have Hv := hid hv
 have Hy := hid hy
 rw [He.out]
 clear hme He hv hr hy
 go_enter Tryz.func80, Tryz.ntmps80
 go_wp2_with fail
 go_loop [5, 6] (fun c u => ∃ i : Nat, i ≤ l.length ∧ u = .int .i64 i ∧ c = .int .u32 (crcL m (l.take i) : Nat)) (fun c u => l.length - (intOf u).toNat)
 case atStart => exact ⟨0, Nat.zero_le _, rfl, rfl⟩
 case round =>
  obtain ⟨i, hi, rfl, rfl⟩ := hrel
  have hcl := crcL_lt (l.take i) hml
  clear hx
  by_cases hlt : i < l.length
  · have Hn := hid (show crcL m (l.take (i + 1)) = crcB (crcL m (l.take i)) l[i] by rw [List.take_succ_eq_append_getElem hlt, crcL_snoc])
    generalize crcL m (l.take i) = cc at *
    have hbl : l[i].toNat < 256 := l[i].toNat_lt
    have hX : bits .xor .u32 (cc : Int) (l[i].toNat : Int) = (((cc ^^^ l[i].toNat : Nat)) : Int) := u32_xor_nat cc _ hcl (by omega)
    have hm2 : cc ^^^ l[i].toNat < 4294967296 := Nat.xor_lt_two_pow (n := 32) hcl (by omega)
    have Hn2 := hid (show crcL m (l.take (i + 1)) = crcN 8 (cc ^^^ l[i].toNat) from Hn.out)
    generalize cc ^^^ l[i].toNat = y at *
    clear Hn
    go_wp2_with fail
    go_loop [5, 7] (fun c u => ∃ k : Nat, k ≤ 8 ∧ u = .int .i64 k ∧ c = .int .u32 (crcN k y : Nat)) (fun c u => 8 - (intOf u).toNat)
    case atStart => exact ⟨0, by omega, rfl, rfl⟩
    case round =>
     obtain ⟨k, hk, rfl, rfl⟩ := hrel
     clear hX
     have hkl := crcN_lt k hm2
     have Hk := hid (crcN_next k y)
     by_cases hlk : k < 8
     · obtain ⟨s1, s0⟩ := crcR_step hkl
       obtain ⟨z, hz⟩ : ∃ z, crcN k y = z := ⟨_, rfl⟩
       rw [hz] at hkl Hk s1 s0 ⊢
       clear hz
       rcases Nat.mod_two_eq_zero_or_one z with h | h
       · have S := hid (s0 h)
         have hz2 : ((((z : Int) % 2) == 1) = false) := by simp; omega
         clear s1 s0 h
         go_wp2_with fail
         refine ⟨⟨k + 1, by omega, by go_num, by rw [S.out, Hk.out]⟩, ?_⟩
         simp [intOf]; omega
       · have S := hid (s1 h)
         have hz2 : ((((z : Int) % 2) == 1) = true) := by simp; omega
         clear s1 s0 h
         go_wp2_with fail
         refine ⟨⟨k + 1, by omega, by go_num, by rw [S.out, Hk.out]⟩, ?_⟩
         simp [intOf]; omega
     · obtain rfl : k = 8 := by omega
       clear Hk
       go_wp2_with fail
       refine ⟨⟨i + 1, by omega, by go_num, by rw [Hn2.out]⟩, ?_⟩
       simp [intOf]; omega
  · obtain rfl : i = l.length := by omega
    rw [List.take_length, Hv.out]
    have hy := Hy.out
    go_wp2_with fail
    go_ret
    exact ⟨rfl, rfl⟩
theorem r2_of (l : List UInt8) (hl : l.length ≤ 140737488355328) (w : World) :
 Calls Tryz.prog 57 #[.string (bs l)] w fun e w' => e = .returned (.int .u32 (crcOf l : Nat)) ∧ w = w' := by
 have hm := r2_more 0 (by omega) l hl w
 unfold crcOf
 generalize crcMore 0 l = r at *
 go_enter Tryz.func57, Tryz.ntmps57
 go_wp2_with (go_at_call 80; refine hm.mono ?_; rintro e w2 ⟨rfl, rfl⟩)
 go_ret
 exact ⟨rfl, rfl⟩
theorem be4 (s : Nat) : be 4 s = [UInt8.ofNat (s / 16777216), UInt8.ofNat (s / 65536), UInt8.ofNat (s / 256), UInt8.ofNat s] := by
 simp [be]
theorem u8cell (n : Nat) : Value.int .u8 ((UInt8.ofNat n).toNat : Int) = .int .u8 ((n : Int) % 256) := by
 congr 1
def crcCells (s : Nat) (i : Nat) : Array Value := #[.int .u8 (if 0 < i then (s : Int) / 16777216 else 0), .int .u8 (if 1 < i then (s : Int) / 65536 % 256 else 0), .int .u8 (if 2 < i then (s : Int) / 256 % 256 else 0), .int .u8 (if 3 < i then (s : Int) % 256 else 0)]
theorem crcCells_be {s : Nat} (hs : s < 4294967296) : crcCells s 4 = byteCells (be 4 s) := by
 simp only [crcCells, byteCells, be4, List.map_cons, List.map_nil, u8cell]
 simp
 omega
set_option maxRecDepth 100000 in
set_option maxHeartbeats 1600000 in
theorem r2_bytes (s : Nat) (hs : s < 4294967296) (w : World) :
 Calls Tryz.prog 56 #[.int .u32 s] w fun e w' => e = .returned (.string (bs (be 4 s))) ∧ Below w.heap.size w w' := by
 have hk := Blk.new w 5 (crcCells s 4)
 have hcell : ∀ j (hj : j < (be 4 s).length), (w.alloc (.cells (crcCells s 4) 5)).cell? ((⟨w.heap.size, 0, none⟩ : Addr).add j) = some (.int .u8 ((be 4 s)[j].toNat : Int)) := fun j hj => by
  rw [add_at, hk.cell, crcCells_be hs, Nat.zero_add]
  simp [byteCells, hj]
 have hcv := run_convert_bytes_back (P := Tryz.prog) (w.alloc (.cells (crcCells s 4) 5)) 77 9 5 ⟨w.heap.size, 0, none⟩ 4 (be 4 s) Tryz.underlying77 Tryz.underlying5 Tryz.underlying9 hcell
 rw [be_length] at hcv
 simp only [crcCells, Nat.reduceLT, if_true] at hcv
 clear hcell hk
 go_enter Tryz.func56, Tryz.ntmps56
 go_wp2_with fail
 go_ret
 exact ⟨rfl, (Below.refl w.heap.size w).alloc (Nat.le_refl _) _⟩
end Go.Proofs.YtlapjkbefkmohaaGreat

set_option linter.unusedVariables false
namespace Go.Proofs.YtlapjkbefkmohaaGreat
open Go.RowKit Go.Shelf

/-- What lies from block B on lies as it lay. -/
def Stays (B : Nat) (X Y : World) : Prop := X.heap.size ≤ Y.heap.size ∧ ∀ k, B ≤ k → k < X.heap.size → Y.heap[k]? = X.heap[k]?
theorem Stays.refl (B : Nat) (X : World) : Stays B X X := ⟨Nat.le_refl _, fun _ _ _ => rfl⟩
theorem Stays.trans {B : Nat} {X Y Z : World} (h : Stays B X Y) (k : Stays B Y Z) : Stays B X Z := ⟨Nat.le_trans h.1 k.1, fun i hB hi => (k.2 i hB (Nat.lt_of_lt_of_le hi h.1)).trans (h.2 i hB hi)⟩
theorem Stays.grown {B : Nat} {X Y : World} {row : Option Nat} (h : X.grownBy Y row) (hr : ∀ j, row = some j → j < B ∨ X.heap.size ≤ j) : Stays B X Y :=
 ⟨h.size, fun k hB hk => h.block k hk (fun e => by have := hr k e.symm; omega)⟩
theorem Stays.keeps {B : Nat} {X Y : World} (h : Stays B X Y) : KeepsFrom B X Y := ⟨h.1, fun k o hB hk _ => (h.2 k hB (Array.getElem?_eq_some_iff.1 hk).1).trans hk⟩
theorem Stays.below {n : Nat} {X Y : World} (h : Below n X Y) {B : Nat} (hs : X.heap.size ≤ n) : Stays B X Y := ⟨h.size, fun k _ hk => h.block k (by omega)⟩

def SeqO {α : Type} (F : Fence) (n : Nat) (P : Program) (g : Nat) (lb : Array Value) (encs : α → Array Value) (Kp : World → World → Prop) (S Sp : List α → Prop) (N : Nat) (w : World) : Prop :=
 ∀ (l : Nat) (J Jx : List α → World → Prop) (W : World), Below w.heap.size w W → OwnFrom W.heap.size J → OwnFrom W.heap.size Jx →
  (∀ pre x W1, J pre W1 → pre.length < N → YieldAt F (n - 1) P l (encs x) W1 fun e W' =>
   (e = .returned (.bool true) ∧ J (pre ++ [x]) W' ∧ Stays W.heap.size W1 W' ∧ Kp W1 W') ∨ (e = .returned (.bool false) ∧ Jx (pre ++ [x]) W' ∧ KeepsFrom W.heap.size W1 W')) →
  J [] W →
  CallsIn F n P g (#[.func (.yield l) #[] #[]] ++ lb) W fun e W' => (∃ v, e = .returned v) ∧ ((∃ xs, S xs ∧ J xs W') ∨ (∃ pre, Sp pre ∧ Jx pre W'))

theorem keepsFrom_later {B B' : Nat} {X Y : World} (h : KeepsFrom B X Y) (hB : B ≤ B') : KeepsFrom B' X Y := ⟨h.size, fun k o hk => h.same k o (Nat.le_trans hB hk)⟩
/-- A turn from block B on leaves what lies below. -/
theorem grown_lower {X Y : World} {row : Option Nat} {B k : Nat} {o : Obj} (hg : X.grownBy Y row) (hr : ∀ r, row = some r → B ≤ r ∧ ∃ o : Obj, X.heap[r]? = some o ∧ o.isCells = false) (hk : k < B) (ho : X.heap[k]? = some o) : Y.heap[k]? = some o :=
 (hg.block k (Array.getElem?_eq_some_iff.1 ho).1 (fun e => by have := (hr k e.symm).1; omega)).trans ho

theorem range_own {F : Fence} {n : Nat} {P : Program} {α : Type} {g : Operand} {ps : Array Tmp} {assign body : Code} {Q : Exit → Act → World → Prop} {a : Act} {w : World}
 (hro : F.round = none) (h1 : 1 ≤ n) {gf : Nat} {lb : Array Value} (hg : a.eval g = .func (.func gf) #[] lb) (hFg : F.fn gf) (eg : ∀ args w, (callFunc gf args).run P w = .ok (.enter gf args) w)
 {encs : α → Array Value} {Kp : World → World → Prop} {S Sp : List α → Prop} {N : Nat} {w0 : World} (hseq : SeqO F (n - 1) P gf lb encs Kp S Sp N w0)
 (hKt : ∀ {A B C : World}, Kp A B → Kp B C → Kp A C) (hKb : ∀ (W : World) (l : Nat) (o o' : Obj), w.heap.size ≤ l → W.heap[l]? = some o → o.isCells = false → o.isWalk = false → Kp W (W.putObj l o')) (hb0 : Below w0.heap.size w0 w) (hps : ∀ x, (encs x).size = ps.size)
 (I : List α → World → Prop) (Ix : Code → List α → World → Prop) (hI : OwnFrom w.heap.size I) (hIx : ∀ c, OwnFrom w.heap.size (Ix c)) (h0 : I [] w) (Ax : α → Act → World → Prop) (hAx : ∀ x a', OwnFrom w.heap.size (fun (_ : Unit) W => Ax x a' W))
 (hassign : ∀ (l : Nat) (pre : List α) (x : α) (W : World) (K : Act → World → Prop), I pre W → (∀ a' W', KeepsFrom w.heap.size W W' → Stays (w.heap.size + 2) W W' → Kp W W' → I pre W' → Ax x a' W' → K a' W') →
  assign.wpIn (F.inRound l) (n - 1 - 1) P (Exit.then K (fun _ _ _ => False)) { tmps := (ps.zip (encs x)).foldl (fun t (p, v) => t.setIfInBounds p v) a.tmps, defers := [] } W)
 (hbody : ∀ (l : Nat) (pre : List α) (x : α) (a' : Act) (W : World), I pre W → Ax x a' W → pre.length < N → body.wpIn (F.inRound l) (n - 1 - 1) P (ownPostG w.heap.size (fun A B => Stays (w.heap.size + 2) A B ∧ Kp A B) I Ix (pre ++ [x]) W) a' W)
 (hdone : ∀ (D : Nat) (xs : List α) (W : World), w.heap.size ≤ D → S xs → I xs W → W.heap[D]? = some (.deferred (some [])) → Q .normal { a with defers := { target := .collected D, args := #[] } :: a.defers } W)
 (hstop : ∀ (D : Nat) (c : Code) (pre : List α) (W : World), w.heap.size ≤ D → Sp pre → Ix c pre W → W.heap[D]? = some (.deferred (some [])) → c.wpIn F n P Q { a with defers := { target := .collected D, args := #[] } :: a.defers } W) :
 (Code.rangeFunc g ps assign body).wpIn F n P Q a w := by
 refine wpIn_rangeFunc ?_
 intro fn hfn
 rw [hro]
 obtain ⟨rec, hrec⟩ : ∃ rec : LoopState → Option Code → Loop, rec = fun st pe => { state := st, pending := pe, fn, tmps := a.tmps, params := ps, assign, body, defers := w.heap.size } := ⟨_, rfl⟩
 obtain ⟨V, hV⟩ : ∃ V, (w.alloc (.deferred (some []))).alloc (.loop (rec .ready none)) = V := ⟨_, rfl⟩
 have hVs : V.heap.size = w.heap.size + 1 + 1 := by rw [← hV]; simp
 have hVl : V.heap[w.heap.size + 1]? = some (.loop (rec .ready none)) := by
  have := World.alloc_heap_new (w.alloc (.deferred (some []))) (.loop (rec .ready none)); rwa [World.size_alloc, hV] at this
 have hVd : V.heap[w.heap.size]? = some (.deferred (some [])) := by
  rw [← hV]; exact (Below.heap_alloc _ _ _ (by simp)).trans (World.alloc_heap_new w _)
 have hVI : I [] V := by rw [← hV]; exact hI.alloc _ (hI.alloc _ h0)
 have hVb : Below w0.heap.size w0 V := by
  rw [← hV]; exact hb0.trans ((((Below.refl _ w).alloc (Nat.le_refl _) _).alloc (by simp) _).mono hb0.size)
 have two : ∀ (o : Obj), OwnFrom V.heap.size (fun (_ : List α) W => W.heap[w.heap.size + 1]? = some o ∧ W.heap[w.heap.size]? = some (.deferred (some []))) := fun o s X Y row hs hy hr =>
  ⟨grown_lower hy hr (by omega) hs.1, grown_lower hy hr (by omega) hs.2⟩
 have up : ∀ {β : Type} {I : β → World → Prop}, OwnFrom w.heap.size I → OwnFrom V.heap.size I := fun h s X Y row hs hy hr => h s X Y row hs hy (fun r e => ⟨by have := (hr r e).1; omega, (hr r e).2⟩)
 refine ⟨w.heap.size + 1, [{ target := .collected w.heap.size, args := #[] }], V, { target := .fn (.func gf) lb, args := #[.func (.yield (w.heap.size + 1)) #[] #[]] }, V, gf,
  #[.func (.yield (w.heap.size + 1)) #[] #[]] ++ lb, V, ?_, ?_, ?_, ?_, fun _ => h1, ?_⟩
 · rw [← hV, hrec]; exact run_enterLoop_outer _ _ _ _ _
 · simp only [resolve, hg]; simp [go_sem]
 · intro f' hf'; simp [Target.leads] at hf'; subst hf'; exact hFg
 · simp [invoke, go_sem, eg]
 refine (hseq (w.heap.size + 1)
  (fun pre W => I pre W ∧ W.heap[w.heap.size + 1]? = some (.loop (rec .ready none)) ∧ W.heap[w.heap.size]? = some (.deferred (some [])))
  (fun pre W => ∃ c, Ix c pre W ∧ W.heap[w.heap.size + 1]? = some (.loop (rec .done (some c))) ∧ W.heap[w.heap.size]? = some (.deferred (some [])))
  V hVb ((up hI).and (two _))
  (fun s X Y row hs hy hr => by obtain ⟨c, hs⟩ := hs; exact ⟨c, ((up (hIx c)).and (two _)) s X Y row hs hy hr⟩)
  ?_ ⟨hVI, hVl, hVd⟩).mono ?_
 · rintro pre x W ⟨hi, hl, hd⟩ hlen
   have hy := run_yield (P := P) (args := encs x) hl (by rw [hrec]; exact hps x)
   rw [hrec] at hy
   refine ⟨fn, _, assign, body, hy, roundIn_of_wpIn hfn (hassign _ pre x W _ hi ?_)⟩
   clear hy
   intro a' U hkf hst hkp hiU hax
   have lU := hkf.same _ _ (by omega) hl rfl
   have dU := hkf.same _ _ (Nat.le_refl _) hd rfl
   have sU : w.heap.size + 1 < U.heap.size := (Array.getElem?_eq_some_iff.1 lU).1
   refine ⟨_, run_beginRound lU (by rw [hrec]), ?_⟩
   obtain ⟨U2, hU2⟩ : ∃ U2, U.putObj (w.heap.size + 1) (.loop { rec .ready none with state := .busy }) = U2 := ⟨_, rfl⟩
   rw [hU2]
   have lU2 : U2.heap[w.heap.size + 1]? = some (.loop { rec .ready none with state := .busy }) := by rw [← hU2]; exact World.putObj_heap_same sU
   have dU2 : U2.heap[w.heap.size]? = some (.deferred (some [])) := by rw [← hU2]; exact (World.putObj_heap_other (by omega)).trans dU
   have kU2 : Kp U U2 := by rw [← hU2]; exact hKb _ _ _ _ (by omega) lU rfl rfl
   have sU2 : Stays V.heap.size U U2 := by rw [← hU2]; exact Stays.grown (grownBy_putObj' _ _ _) (fun j e => by cases e; omega)
   have fU2 : KeepsFrom V.heap.size U U2 := by rw [← hU2]; exact KeepsFrom.of_grownBy (grownBy_putObj' _ _ _) (fun j e => by cases e; omega)
   have iU2 : I pre U2 := by rw [← hU2]; exact hI.putObj _ hiU (by omega) lU rfl
   have aU2 : Ax x a' U2 := by rw [← hU2]; exact (hAx x a').putObj (s := ()) _ hax (by omega) lU rfl
   refine wpIn_mono (hbody _ pre x a' _ iU2 aU2 hlen) ?_
   have fin : ∀ (jump : Option Code) (T : World), KeepsFrom w.heap.size U2 T →
    (Instr.endRound (w.heap.size + 1) jump).run P T = .ok (.bool jump.isNone) (T.putObj (w.heap.size + 1) (.loop (rec (if jump.isNone then .ready else .done) jump))) ∧
    T.heap[w.heap.size + 1]? = some (.loop { rec .ready none with state := .busy }) ∧
    (T.putObj (w.heap.size + 1) (.loop (rec (if jump.isNone then .ready else .done) jump))).heap[w.heap.size + 1]? = some (.loop (rec (if jump.isNone then .ready else .done) jump)) ∧
    (T.putObj (w.heap.size + 1) (.loop (rec (if jump.isNone then .ready else .done) jump))).heap[w.heap.size]? = some (.deferred (some [])) ∧
    KeepsFrom V.heap.size W (T.putObj (w.heap.size + 1) (.loop (rec (if jump.isNone then .ready else .done) jump))) := fun jump T hT => by
    have hl3 := hT.same _ _ (by omega) lU2 rfl
    have := run_endRound (P := P) jump hl3
    refine ⟨by rw [hrec] at this ⊢; exact this, hl3, World.putObj_heap_same (Array.getElem?_eq_some_iff.1 hl3).1, (World.putObj_heap_other (by omega)).trans (hT.same _ _ (Nat.le_refl _) dU2 rfl), ?_⟩
    exact ((keepsFrom_later hkf (by omega)).trans fU2).trans ((keepsFrom_later hT (by omega)).trans (KeepsFrom.of_grownBy (grownBy_putObj' _ _ _) (fun j e => by cases e; omega)))
   have stop : ∀ (c : Code) (T : World), KeepsFrom w.heap.size U2 T → Ix c (pre ++ [x]) T → ∃ b W', (Instr.endRound (w.heap.size + 1) (some c)).run P T = .ok b W' ∧
    ((b = .bool true ∧ (I (pre ++ [x]) W' ∧ W'.heap[w.heap.size + 1]? = some (.loop (rec .ready none)) ∧ W'.heap[w.heap.size]? = some (.deferred (some []))) ∧ Stays V.heap.size W W' ∧ Kp W W') ∨
     (b = .bool false ∧ (∃ c, Ix c (pre ++ [x]) W' ∧ W'.heap[w.heap.size + 1]? = some (.loop (rec .done (some c))) ∧ W'.heap[w.heap.size]? = some (.deferred (some []))) ∧ KeepsFrom V.heap.size W W')) := fun c T hT hx => by
    obtain ⟨hr, hl3, hl4, hd4, hk4⟩ := fin (some c) T hT
    exact ⟨_, _, hr, .inr ⟨rfl, ⟨c, (hIx _).putObj _ hx (by omega) hl3 rfl, hl4, hd4⟩, hk4⟩⟩
   rintro e a3 T hp
   cases e with
   | normal =>
    obtain ⟨hk3, ⟨hst3, hkp3⟩, hi3⟩ := hp
    obtain ⟨hr, hl3, hl4, hd4, hk4⟩ := fin none T hk3
    exact ⟨_, _, hr, .inl ⟨rfl, ⟨hI.putObj _ hi3 (by omega) hl3 rfl, hl4, hd4⟩, ((hVs ▸ hst : Stays V.heap.size W U).trans sU2).trans ((hVs ▸ hst3 : Stays V.heap.size U2 T).trans (Stays.grown (grownBy_putObj' _ _ _) (fun j e => by cases e; omega))), hKt hkp (hKt (hKt kU2 hkp3) (hKb _ _ _ _ (by omega) hl3 rfl rfl))⟩⟩
   | ret => obtain ⟨b, W', hr, h⟩ := stop .ret T hp.1 hp.2; exact ⟨_, _, hr, h.elim (fun h => .inl ⟨by rw [h.1], h.2⟩) (fun h => .inr ⟨by rw [h.1], h.2⟩)⟩
   | exit id => obtain ⟨b, W', hr, h⟩ := stop (.exit id) T hp.1 hp.2; exact ⟨_, _, hr, h.elim (fun h => .inl ⟨by rw [h.1], h.2⟩) (fun h => .inr ⟨by rw [h.1], h.2⟩)⟩
   | goto t => obtain ⟨b, W', hr, h⟩ := stop (.goto t) T hp.1 hp.2; exact ⟨_, _, hr, h.elim (fun h => .inl ⟨by rw [h.1], h.2⟩) (fun h => .inr ⟨by rw [h.1], h.2⟩)⟩
   | panic ch => exact hp.elim
   | outgrown => exact hp.elim
 · rintro e W2 ⟨⟨v, rfl⟩, (⟨xs, hS, hi, hl, hk⟩ | ⟨pre, hSp, c, hi, hl, hk⟩)⟩
   · exact ⟨none, _, by have := run_endLoop (P := P) hl (by rw [hrec]; simp); rw [hrec] at this; exact this, hdone _ xs _ (Nat.le_refl _) hS (hI.putObj _ hi (by omega) hl rfl) ((World.putObj_heap_other (by omega)).trans hk)⟩
   · exact ⟨some c, _, by have := run_endLoop (P := P) hl (by rw [hrec]; simp); rw [hrec] at this; exact this, hstop _ c pre _ (Nat.le_refl _) hSp ((hIx c).putObj _ hi (by omega) hl rfl) ((World.putObj_heap_other (by omega)).trans hk)⟩
end Go.Proofs.YtlapjkbefkmohaaGreat
set_option linter.unusedVariables false
namespace Go.Proofs.YtlapjkbefkmohaaGreat
open Go.RowKit Go.Shelf

end Go.Proofs.YtlapjkbefkmohaaGreat
set_option linter.unusedVariables false
namespace Go.Proofs.YtlapjkbefkmohaaGreat
open Go.RowKit Go.Shelf
/-- Below B, and at some blocks, all is as it was. -/
structure KeepB (B : Nat) (bs : List Nat) (X Y : World) : Prop where
 below : Below B X Y
 at_ : ∀ g ∈ bs, Y.heap[g]? = X.heap[g]?
theorem KeepB.refl (B : Nat) (bs : List Nat) (X : World) : KeepB B bs X X := ⟨Below.refl _ _, fun _ _ => rfl⟩
theorem KeepB.trans {B : Nat} {bs : List Nat} {X Y Z : World} (h : KeepB B bs X Y) (k : KeepB B bs Y Z) : KeepB B bs X Z := ⟨h.below.trans k.below, fun g hg => (k.at_ g hg).trans (h.at_ g hg)⟩
theorem KeepB.putObj {B : Nat} {bs : List Nat} {W : World} {l : Nat} (o' : Obj) (hB : B ≤ l) (hbs : ∀ g ∈ bs, g ≠ l) : KeepB B bs W (W.putObj l o') :=
 ⟨⟨rfl, rfl, rfl, by simp [World.putObj], fun k hk => World.putObj_heap_other (by omega)⟩, fun g hg => World.putObj_heap_other (hbs g hg)⟩
theorem Blk.at_ {X Y : World} {g : Nat} {t : TypeId} {cs : Array Value} (h : Blk X g t cs) (k : Y.heap[g]? = X.heap[g]?) : Blk Y g t cs := k.trans h
/-- 'l = append(l, x)' in a loop over an iterator: l's box lies below n₀, its rows from n₀ on. -/
theorem appended_at {W w1 : World} {n₀ B : Nat} {t e : TypeId} {size : Nat} {v v' : Value} {k m : Nat} {xs ys : List Value} {tmp : Obj}
 (hv : Blk W B t #[v]) (hte : t ≠ e) (hrow : W.ownsRow n₀ e size v k xs) (hn₀ : n₀ ≤ W.heap.size) (hown' : w1.ownsRow n₀ e size v' m ys) (hgrow : (W.alloc tmp).grownBy w1 v.ownBlock) :
 Blk w1 B t #[v] ∧ Blk (w1.setCell ⟨B, 0, none⟩ v') B t #[v'] ∧ (w1.setCell ⟨B, 0, none⟩ v').ownsRow n₀ e size v' m ys ∧ KeepsOthers W (w1.setCell ⟨B, 0, none⟩ v') ∧
  (∀ B0, B0 ≤ n₀ → B0 ≤ B → Below B0 W (w1.setCell ⟨B, 0, none⟩ v')) ∧ ∀ g, g < n₀ → g ≠ B → (w1.setCell ⟨B, 0, none⟩ v').heap[g]? = W.heap[g]? := by
 have hv1 : Boxed w1 B t v := (Boxed.alloc hv tmp).kept hgrow (Boxed.not_row hv hte hrow)
 have hlow : ∀ j, v.ownBlock = some j → n₀ ≤ j := fun j ej => by
  rcases hrow.2 with ⟨rfl, _⟩ | ⟨g, cap, cur, rfl, hb, _, _⟩
  · simp [Value.ownBlock] at ej
  · obtain rfl : g = j := by simpa [Value.ownBlock] using ej
    exact hb
 refine ⟨hv1, Boxed.set v' hv1, hown'.kept (grownBy_setCell' w1 B v') (.inr (hv1.not_row hte hown').symm), ?_, fun B0 h0 hB => ?_, fun g hg hne => ?_⟩
 · refine ((KeepsOthers.alloc W tmp).trans (KeepsOthers.of_grownBy hgrow fun j o ej hj => ?_)).trans (KeepsOthers.setCell _ _ _)
   rcases (hrow.alloc tmp).2 with ⟨rfl, _⟩ | ⟨g, cap, cur, rfl, _, hgb, _⟩
   · simp [Value.ownBlock] at ej
   · obtain rfl : g = j := by simpa [Value.ownBlock] using ej
     rw [hgb] at hj; cases hj; rfl
 · exact (((Below.refl B0 W).alloc (by omega) tmp).grown hgrow (by simp; omega) fun j ej => by have := hlow j ej; omega).setCell (p := ⟨B, 0, none⟩) hB v'
 · rw [Below.heap_setCell _ _ _ _ hne, hgrow.block g (by simp; omega) (fun e => by have := hlow g e.symm; omega), Below.heap_alloc _ _ _ (by omega)]
end Go.Proofs.YtlapjkbefkmohaaGreat
set_option linter.unusedVariables false
namespace Go.Proofs.YtlapjkbefkmohaaGreat
open Go.RowKit Go.Shelf
/-- The c blocks from B on lie as they lay. -/
def StaysC (B c : Nat) (X Y : World) : Prop := X.heap.size ≤ Y.heap.size ∧ ∀ k, B ≤ k → k < B + c → k < X.heap.size → Y.heap[k]? = X.heap[k]?
theorem StaysC.refl (B c : Nat) (X : World) : StaysC B c X X := ⟨Nat.le_refl _, fun _ _ _ _ => rfl⟩
theorem StaysC.trans {B c : Nat} {X Y Z : World} (h : StaysC B c X Y) (k : StaysC B c Y Z) : StaysC B c X Z := ⟨Nat.le_trans h.1 k.1, fun i hB hc hi => (k.2 i hB hc (Nat.lt_of_lt_of_le hi h.1)).trans (h.2 i hB hc hi)⟩
theorem StaysC.grown {B c : Nat} {X Y : World} {row : Option Nat} (h : X.grownBy Y row) (hr : ∀ j, row = some j → j < B ∨ B + c ≤ j) : StaysC B c X Y :=
 ⟨h.size, fun k hB hc hk => h.block k hk (fun e => by have := hr k e.symm; omega)⟩
theorem StaysC.below {n : Nat} {X Y : World} (h : Below n X Y) {B c : Nat} (hs : X.heap.size ≤ n) : StaysC B c X Y := ⟨h.size, fun k _ _ hk => h.block k (by omega)⟩
theorem StaysC.zero {B : Nat} {X Y : World} (h : X.heap.size ≤ Y.heap.size) : StaysC B 0 X Y := ⟨h, fun k h1 h2 => by omega⟩
end Go.Proofs.YtlapjkbefkmohaaGreat
set_option linter.unusedVariables false
namespace Go.Proofs.YtlapjkbefkmohaaGreat
open Go.RowKit Go.Shelf
end Go.Proofs.YtlapjkbefkmohaaGreat

set_option linter.unusedVariables false
namespace Go.Proofs.YtlapjkbefkmohaaGreat
open Go.RowKit Go.Shelf
attribute [local go_sem] bs_mk bs_append bs_extract bs_size bs_toList bs_get Oper.semAt_some

theorem d_size (D : Dk) (p q : Pl) (h : D.data.length ≤ 140737488355328) (w : World) :
 Calls Tryz.prog 130 #[dval D p q] w fun e w' => e = .returned (.int .i64 D.sz) ∧ Below w.heap.size w w' := by
 obtain ⟨A1, c1⟩ := p
 obtain ⟨A2, c2⟩ := q
 go_enter Tryz.func130, Tryz.ntmps130
 go_wp2_with fail
 go_ret
 exact ⟨rfl, (Below.refl _ _).alloc (Nat.le_refl _) _⟩
theorem d_out (D : Dk) (p q : Pl) (h : D.data.length ≤ 140737488355328) (k : Int) (w : World) :
 Calls Tryz.prog 127 #[dval D p q, .int .i64 k] w fun e w' => e = .returned (.bool (!D.there k)) ∧ Below w.heap.size w w' := by
 have hs := d_size D p q h
 obtain ⟨A1, c1⟩ := p
 obtain ⟨A2, c2⟩ := q
 by_cases h0 : k < 0
 · have Hw := hid (show D.there k = false by simp [Dk.there]; omega)
   go_enter Tryz.func127, Tryz.ntmps127
   go_wp2_with fail
   go_ret
   exact ⟨by rw [Hw.out]; rfl, (Below.refl _ _).alloc (Nat.le_refl _) _⟩
 · have Hw := hid (show (!D.there k) = decide ((D.sz : Int) ≤ k) by simp [Dk.there]; rw [decide_eq_true (by omega : 0 ≤ k)]; simp; rw [← decide_not]; congr 1; simp)
   go_enter Tryz.func127, Tryz.ntmps127
   go_wp2_with (go_at_call 130; refine (hs _).mono ?_; rintro e w1 ⟨rfl, hb1⟩)
   go_ret
   exact ⟨by rw [Hw.out]; rfl, bt ((Below.refl _ _).alloc (Nat.le_refl _) _) hb1⟩
/-! ### the writes, the last one first -/
def PutsIn (g off : Nat) (l : List (Int × List UInt8)) (W : World) : Prop :=
 ∀ j (hj : j < l.length), W.cell? ⟨g, off + j * 2, none⟩ = some (.int .i64 l[j].1) ∧ W.cell? ⟨g, off + j * 2 + 1, none⟩ = some (.string (bs l[j].2))
def seqEnc (l : List (Int × List UInt8)) (i : Fin l.length) : Array Value := #[.int .i64 (i.val : Int), .agg #[.int .i64 l[i.val].1, .string (bs l[i.val].2)]]

set_option maxRecDepth 100000 in
set_option maxHeartbeats 2000000 in
theorem putsBack_in (F : Fence) (n : Nat) (h7 : F.fn 133) (hro : F.round = none) (hn : 1 ≤ n) (l Bs g off cap : Nat) (A : Option Addr) (L : List (Int × List UInt8)) (hA : L ≠ [] → A = some ⟨g, off, none⟩) (hreach : L.length ≤ 1099511627776) (hcap : cap ≤ maxLen) (hlc : L.length ≤ cap)
 (J Jx : List (Fin L.length) → World → Prop)
 (hK : ∀ pre W, J pre W → W.cell? ⟨Bs, 0, none⟩ = some (.slice A L.length cap) ∧ PutsIn g off L W)
 (hY : ∀ pre x W, J pre W → pre.length < L.length → YieldAt F (n - 1) Tryz.prog l (seqEnc L x) W fun e W' =>
  (e = .returned (.bool true) ∧ J (pre ++ [x]) W') ∨ (e = .returned (.bool false) ∧ Jx (pre ++ [x]) W'))
 (W : World) (h0 : J [] W) :
 CallsIn F n Tryz.prog 133 #[.func (.yield l) #[] #[], .pointer (some ⟨Bs, 0, none⟩)] W fun e W' => (∃ v, e = .returned v) ∧
  ((∃ ys, ys.map (fun y => y.val) = (List.range L.length).reverse ∧ J ys W') ∨ (∃ pre, pre.map (fun y => y.val) = ((List.range L.length).reverse).take pre.length ∧ Jx pre W')) := by
 unfold maxLen at hcap
 refine callsIn_of_wp Tryz.func133 rfl h7 ?_ hro
 simp only [Tryz.ntmps133, List.size_toArray, List.length_cons, List.length_nil, Nat.reduceAdd, Nat.reduceSub, Array.replicate_succ, Array.replicate_zero, List.push_toArray, List.append_toArray, List.nil_append, List.cons_append]
 obtain ⟨hBs, hby⟩ := hK _ _ h0
 gi_wp2
 gi_loopw [3] (fun i wr => ∃ (pre : List (Fin L.length)), pre.length ≤ L.length ∧ i = .int .i64 ((L.length : Int) - 1 - pre.length) ∧ Hid (pre.map (fun y => y.val) = ((List.range L.length).reverse).take pre.length) ∧ J pre wr)
  (fun i _ => (intOf i + 1).toNat)
 case atStart => exact ⟨[], Nat.zero_le _, by simp, Lib.hid rfl, h0⟩
 case round =>
  clear hBs hby
  obtain ⟨pre, hk, rfl, hpm, hJs⟩ := hrel
  obtain ⟨hbx, hby⟩ := hK _ _ hJs
  by_cases hlt : pre.length < L.length
  · obtain rfl := hA (by rintro rfl; simp at hlt)
    obtain ⟨i, hi⟩ : ∃ i, Hid (i = L.length - 1 - pre.length) := ⟨_, hid rfl⟩
    have hiL : i < L.length := by have := hi.out; omega
    obtain ⟨x0, x1⟩ := hby i hiL
    have hie : ((L.length : Int) - 1 - pre.length) = (i : Int) := by have := hi.out; omega
    have Hy := hY pre ⟨i, hiL⟩ wr hJs (by omega)
    obtain ⟨fn, tmps, assign, body, hy, hR⟩ := Hy
    simp only [seqEnc] at hy
    rw [hie]
    generalize hz : L[i] = z at *
    obtain ⟨za, zs⟩ := z
    have Hz := hid hz
    have Hie := hid hie
    clear hz hie
    gi_wp2
    refine hR.mono ?_
    rintro e W3 (⟨rfl, hJ3⟩ | ⟨rfl, hJx3⟩)
    · gi_wp2
      go_roundw
      case rel => exact ⟨pre ++ [⟨i, hiL⟩], by simp; omega, ret_num (by have := hi.out; simp; omega), hid (by
       rw [List.map_append, hpm.out]; simp only [List.length_append, List.map_cons, List.map_nil, List.length_singleton]
       rw [List.take_succ_eq_append_getElem (by simpa using hlt)]; simp [hi.out]), hJ3⟩
      case measure => have := hi.out; simp [intOf]
    · gi_wp2
      refine bodyPost_ret (results_none rfl _ _ _) rfl ?_
      exact ⟨⟨_, rfl⟩, .inr ⟨pre ++ [⟨i, hiL⟩], by
       rw [List.map_append, hpm.out]; simp only [List.length_append, List.map_cons, List.map_nil, List.length_singleton]
       rw [List.take_succ_eq_append_getElem (by simpa using hlt)]; simp [hi.out], hJx3⟩⟩
  · have hle : L.length ≤ pre.length := by omega
    gi_wp2
    go_end0
    exact ⟨⟨_, rfl⟩, .inl ⟨pre, by rw [hpm.out, List.take_of_length_le (by simpa using hle)], hJs⟩⟩
/-! ### puts -/
theorem round_wide {F : Fence} (hr : ∀ k, F.room k) {n m : Nat} {P : Program} {l : Nat} {f : FuncId} {tmps : Array Value} {assign body : Code} {w : World} {R : Ending → World → Prop}
 (h : RoundIn F n P l f tmps assign body w R) : RoundIn F m P l f tmps assign body w R := ⟨h.1, fun c cs _ => h.2 c cs (hr _)⟩
def PutsK (Bs : Nat) (sv : Value) (g off : Nat) (L : List (Int × List UInt8)) (W W' : World) : Prop :=
 (W.cell? ⟨Bs, 0, none⟩ = some sv → W'.cell? ⟨Bs, 0, none⟩ = some sv) ∧ (PutsIn g off L W → PutsIn g off L W')
theorem PutsK.t {Bs : Nat} {sv : Value} {g off : Nat} {L : List (Int × List UInt8)} {A B C : World} (h : PutsK Bs sv g off L A B) (k : PutsK Bs sv g off L B C) : PutsK Bs sv g off L A C :=
 ⟨fun x => k.1 (h.1 x), fun x => k.2 (h.2 x)⟩
theorem putsIn_kept {g off : Nat} {L : List (Int × List UInt8)} {W W' : World} (h : PutsIn g off L W) (hk : W'.heap[g]? = W.heap[g]?) : PutsIn g off L W' := fun j hj =>
 ⟨(World.cell?_of_block (w := W) (a := ⟨g, off + j * 2, none⟩) hk).trans (h j hj).1, (World.cell?_of_block (w := W) (a := ⟨g, off + j * 2 + 1, none⟩) hk).trans (h j hj).2⟩
theorem PutsK.b {Bs : Nat} {sv : Value} {g off : Nat} {L : List (Int × List UInt8)} (W : World) (l : Nat) (o o' : Obj) (h : W.heap[l]? = some o) (hc : o.isCells = false) : PutsK Bs sv g off L W (W.putObj l o') :=
 ⟨fun x => cell_kept x (grownBy_putObj' W l o') (fun r e => by cases e; exact ⟨_, h, hc⟩),
  fun x j hj => ⟨cell_kept (x j hj).1 (grownBy_putObj' W l o') (fun r e => by cases e; exact ⟨_, h, hc⟩), cell_kept (x j hj).2 (grownBy_putObj' W l o') (fun r e => by cases e; exact ⟨_, h, hc⟩)⟩⟩
theorem putsBack_stops (F : Fence) (n : Nat) (h94 : F.fn 133) (hro : F.round = none) (hn : 1 ≤ n) (Bs g off cap : Nat) (A : Option Addr) (L : List (Int × List UInt8)) (hA : L ≠ [] → A = some ⟨g, off, none⟩) (hreach : L.length ≤ 1099511627776) (hcap : cap ≤ maxLen) (hlc : L.length ≤ cap) (w : World) (hB : Bs < w.heap.size) (hg : g < w.heap.size)
 (hBs : w.cell? ⟨Bs, 0, none⟩ = some (.slice A L.length cap)) (hc : PutsIn g off L w) :
 SeqStopsK F n Tryz.prog 133 #[.pointer (some ⟨Bs, 0, none⟩)] (seqEnc L) (PutsK Bs (.slice A L.length cap) g off L) (fun ys => ys.map (fun y => y.val) = (List.range L.length).reverse) (fun pre => pre.map (fun y => y.val) = ((List.range L.length).reverse).take pre.length) L.length w := fun l J Jx W hW _ _ hY h0 => by
 refine (putsBack_in F n h94 hro hn l Bs g off cap A L hA hreach hcap hlc
  (fun pre W => J pre W ∧ W.cell? ⟨Bs, 0, none⟩ = some (.slice A L.length cap) ∧ PutsIn g off L W) Jx (fun pre W h => h.2) ?_ W ⟨h0, (hW.cell (p := ⟨Bs, 0, none⟩) hB).trans hBs, putsIn_kept hc (hW.block g hg)⟩).mono ?_
 · rintro pre x W1 ⟨hj, h1, h2⟩ hl
   obtain ⟨fn, tmps, assign, body, hy, hR⟩ := hY pre x W1 hj hl
   refine ⟨fn, tmps, assign, body, hy, hR.mono ?_⟩
   rintro e W' (⟨he, hj', hk⟩ | h)
   · exact .inl ⟨he, hj', hk.1 h1, hk.2 h2⟩
   · exact .inr h
 · rintro e W' ⟨hv, (⟨ys, h1, h2, _⟩ | h)⟩
   · exact ⟨hv, .inl ⟨ys, h1, h2⟩⟩
   · exact ⟨hv, .inr h⟩
theorem putsBackFn (F : Fence) (n : Nat) (h81 : F.fn 132) (hro : F.round = none) (a : Option Addr) (len cap : Nat) (w : World) :
 CallsIn F n Tryz.prog 132 #[.slice a len cap] w fun e w' => e = .returned (.func (.func 133) #[] #[.pointer (some ⟨w.heap.size, 0, none⟩)]) ∧ w' = w.alloc (.cells #[.slice a len cap] 22) := by
 refine callsIn_of_wp Tryz.func132 rfl h81 ?_ hro
 simp only [Tryz.ntmps132, List.size_toArray, List.length_cons, List.length_nil, Nat.reduceAdd, Nat.reduceSub, Array.replicate_succ, Array.replicate_zero, List.push_toArray, List.append_toArray, List.nil_append, List.cons_append]
 gi_wp2
 go_ret
 exact ⟨rfl, rfl⟩
def oneEnc (L : List (Int × List UInt8)) (i : Fin L.length) : Array Value := #[.agg #[.int .i64 L[i.val].1, .string (bs L[i.val].2)]]
def KeptK (g : Nat) (A B : World) : Prop := B.heap[g]? = A.heap[g]?
theorem lt_of_same {g : Nat} {X Y : World} (h : Y.heap[g]? = X.heap[g]?) (hg : g < X.heap.size) : g < Y.heap.size := by
 rcases Nat.lt_or_ge g Y.heap.size with h' | h'
 · exact h'
 · rw [Array.getElem?_eq_none h', Array.getElem?_eq_getElem hg] at h; cases h
theorem blk_stays {B k : Nat} {X Y : World} {t : TypeId} {cs : Array Value} (h : Blk X k t cs) (hs : Stays B X Y) (hk : B ≤ k) : Blk Y k t cs :=
 (hs.2 k hk (Array.getElem?_eq_some_iff.1 (show X.heap[k]? = some _ from h)).1).trans h
def putsAx (l Bd Y c1 : Nat) (A : Option Addr) (D : Dk) (y : Fin D.cache.length) (a' : Act) (V : World) : Prop :=
 ∃ B, a' = { tmps := #[.func (.yield l) #[] #[], .pointer (some ⟨Bd, 0, none⟩), .pointer (some ⟨Y, 0, none⟩), undef, .pointer (some ⟨B, 0, none⟩), .pointer (some ⟨Bd, 1, none⟩), .slice A D.cache.length c1, .func (.func 133) #[] #[.pointer (some ⟨Y + 1, 0, none⟩)], .int .i64 (y.val : Int), .agg #[.int .i64 D.cache[y.val].1, .string (bs D.cache[y.val].2)], undef, undef, undef, undef], defers := [] } ∧
  Blk V B 133 #[.int .i64 D.cache[y.val].1, .string (bs D.cache[y.val].2)]
theorem putsAx_own (l Bd Y c1 : Nat) (A : Option Addr) (D : Dk) (y : Fin D.cache.length) (a' : Act) (B : Nat) : OwnFrom B (fun (_ : Unit) V => putsAx l Bd Y c1 A D y a' V) := fun s X Z row ⟨b, he, hs⟩ hy hr =>
 ⟨b, he, (Own.from (blk_own b _ (fun _ : Unit => _)) B) s X Z row hs hy hr⟩
set_option maxRecDepth 100000 in
set_option maxHeartbeats 2000000 in
theorem puts_stops (F : Fence) (n : Nat) (h80 : F.fn 131) (h81 : F.fn 132) (h94 : F.fn 133) (hro : F.round = none) (hrm : ∀ k, F.room k) (hn : 3 ≤ n) (D : Dk) (g off : Nat) (p q : Pl) (hp : D.cache ≠ [] → p.a = some ⟨g, off, none⟩) (Bd : Nat) (w : World) (hD : IsDk w D p q) (hB : Bd < w.heap.size) (hg : g < w.heap.size) (t : TypeId)
 (hBd : Blk w Bd t #[.string (bs D.data), .slice p.a D.cache.length p.c, .int .i64 D.fuse, .bool D.off, .slice q.a D.bad.length q.c]) (hc : PutsIn g off D.cache w) :
 SeqO F n Tryz.prog 131 #[.pointer (some ⟨Bd, 0, none⟩)] (oneEnc D.cache) (KeptK g) (fun ys => ys.map (fun y => y.val) = (List.range D.cache.length).reverse) (fun pre => pre.map (fun y => y.val) = ((List.range D.cache.length).reverse).take pre.length) D.cache.length w := by
 intro l J Jx W hW hJ hJx hY h0
 obtain ⟨A, c1⟩ := p
 obtain ⟨A2, c2⟩ := q
 simp only at hp
 have y0 := blk5 ((hBd.below hW hB).alloc (.cells #[.func (.yield l) #[] #[]] 197))
 have byl := Blk.new W 197 #[.func (.yield l) #[] #[]]
 have hgW : g < W.heap.size := Nat.lt_of_lt_of_le hg hW.size
 have hcW := putsIn_kept hc (hW.block g hg)
 have hcl := hD.cl
 have hpm := hD.pm
 have hpc := hD.pc
 have h1 : 1 ≤ n := by omega
 refine callsIn_of_wp_marks Tryz.func131 rfl h80 ?_ hro
 simp only [Tryz.ntmps131, List.size_toArray, List.length_cons, List.length_nil, Nat.reduceAdd, Nat.reduceSub, Array.replicate_succ, Array.replicate_zero, List.push_toArray, List.append_toArray, List.nil_append, List.cons_append]
 gi_wp2_with (gi_at_call 132; refine (putsBackFn F _ h81 hro _ _ _ _).mono ?_; rintro e w' ⟨rfl, rfl⟩)
 have hbx := Blk.new (W.alloc (.cells #[.func (.yield l) #[] #[]] 197)) 22 #[.slice A D.cache.length c1]
 rw [World.size_alloc] at hbx
 refine wpIn_rangeFunc_ownH hro (by omega) (gf := 133) (lb := #[.pointer (some ⟨W.heap.size + 1, 0, none⟩)]) rfl h94 (enters_of Tryz.func133 (by kernel_rfl) rfl)
  (putsBack_stops F (n - 1) h94 hro (by omega) (W.heap.size + 1) g off c1 A D.cache hp hcl hpm hpc ((W.alloc (.cells #[.func (.yield l) #[] #[]] 197)).alloc (.cells #[.slice A D.cache.length c1] 22)) (by simp) (by simp; omega) (by rw [hbx.cell]; rfl) ?hby) PutsK.t (fun W l o o' q1 q2 q3 q4 => PutsK.b W l o o' q2 q3) (Below.refl _ _) (fun _ => rfl)
  (fun pre V => J pre V ∧ (Blk V W.heap.size 197 #[.func (.yield l) #[] #[]] ∧ Blk V (W.heap.size + 1) 22 #[.slice A D.cache.length c1]) ∧ V.heap[g]? = W.heap[g]?)
  (fun c pre V => c = .ret ∧ Jx pre V) ?hI ?hIx ?h0 (putsAx l Bd W.heap.size c1 A D) (fun y a' => putsAx_own _ _ _ _ _ _ _ _ _) ?assign ?body ?done ?stop
 case hby => exact putsIn_kept hcW ((Below.heap_alloc _ _ _ (by simp; omega)).trans (Below.heap_alloc _ _ _ hgW))
 case h0 => exact ⟨hJ.alloc _ (hJ.alloc _ h0), ⟨(byl.alloc _), hbx⟩, (Below.heap_alloc _ _ _ (by simp; omega)).trans (Below.heap_alloc _ _ _ hgW)⟩
 case assign =>
  intro l' pre y V K ⟨hj, ⟨hb1, hb2⟩, hg3⟩ hK
  dsimp only [seqEnc]
  gi_wp2
  refine hK _ _ (KeepsFrom.of_grownBy (World.grownBy_alloc V _ none) (fun j e => by cases e)) ⟨fun x => ?_, fun x => putsIn_kept x ?_⟩ ⟨hJ.alloc _ hj, ⟨hb1.alloc _, hb2.alloc _⟩, ?_⟩ ⟨V.heap.size, rfl, Blk.new _ _ _⟩
  · exact ((Below.refl V.heap.size V).alloc (Nat.le_refl _) _).cell (lt_of_cell x) |>.trans x
  · exact Below.heap_alloc _ _ _ (lt_of_same hg3 hgW)
  · exact (Below.heap_alloc _ _ _ (lt_of_same hg3 hgW)).trans hg3
 case hI =>
  have hB : W.heap.size ≤ ((W.alloc (.cells #[.func (.yield l) #[] #[]] 197)).alloc (.cells #[.slice A D.cache.length c1] 22)).heap.size := by simp; omega
  refine OwnFrom.and (fun s X Y row hs hy hr => hJ s X Y row hs hy (fun r e => ⟨Nat.le_trans hB (hr r e).1, (hr r e).2⟩)) (OwnFrom.and (Own.from (Own.and (blk_own _ _ _) (blk_own _ _ _)) _) ?_)
  intro s X Y row hs hy hr
  exact (hy.block g (lt_of_same hs hgW) (fun e => by have := (hr g e.symm).1; omega)).trans hs
 case hIx =>
  intro c
  have hB : W.heap.size ≤ ((W.alloc (.cells #[.func (.yield l) #[] #[]] 197)).alloc (.cells #[.slice A D.cache.length c1] 22)).heap.size := by simp; omega
  exact fun s X Y row hs hy hr => ⟨hs.1, hJx s X Y row hs.2 hy (fun r e => ⟨Nat.le_trans hB (hr r e).1, (hr r e).2⟩)⟩
 case body =>
  rintro l' pre y a' V hl' hrec ⟨hj, ⟨hb1, hb2⟩, hg3⟩ ⟨B, rfl, hbp⟩ hpl
  have z1 := blk1 hb1
  have z2 := blk2 hbp
  obtain ⟨fn, tmps, assign, body, hy, hR⟩ := hY pre y V hj hpl
  simp only [oneEnc] at hy
  have hRR : RoundIn (F.inRound l') (n - 1 - 1 - 1) Tryz.prog l fn tmps assign body V _ := round_wide hrm (m := n - 1 - 1 - 1) hR
  have h3 : 1 ≤ n - 1 - 1 := by omega
  gi_wp2
  refine RoundIn.mono hRR ?_
  rintro e V' (⟨rfl, hj', hst, hkg⟩ | ⟨rfl, hj', hkf⟩)
  · gi_wp2
    exact ⟨keepsFrom_later hst.keeps (by simp; omega), ⟨fun _ => by rw [(blk_stays hb2 hst (Nat.le_succ _)).cell]; rfl, fun x => putsIn_kept x hkg⟩, hj', ⟨blk_stays hb1 hst (Nat.le_refl _), blk_stays hb2 hst (Nat.le_succ _)⟩, hkg.trans hg3⟩
  · gi_wp2
    exact ⟨keepsFrom_later hkf (by simp; omega), rfl, hj'⟩
 case done =>
  rintro Dd ys V hDd hys ⟨hj, ⟨hb1, hb2⟩, hg3⟩ hK
  gi_wp2
  refine ⟨by simp, .inl ⟨_, _, rfl, run_takeDeferred hK, ?_⟩⟩
  exact ⟨_, results_none rfl _ _ _, ⟨_, rfl⟩, .inl ⟨ys, hys, hJ.putObj _ hj (by simp at hDd; omega) hK rfl⟩⟩
 case stop =>
  rintro Dd c pre V hDd hpre ⟨rfl, hj⟩ hK
  gi_wp2
  refine ⟨by simp, .inl ⟨_, _, rfl, run_takeDeferred hK, ?_⟩⟩
  exact ⟨_, results_none rfl _ _ _, ⟨_, rfl⟩, .inr ⟨pre, hpre, hJx.putObj _ hj (by simp at hDd; omega) hK rfl⟩⟩
end Go.Proofs.YtlapjkbefkmohaaGreat

set_option linter.unusedVariables false
namespace Go.Proofs.YtlapjkbefkmohaaGreat
open Go.RowKit Go.Shelf
attribute [local go_sem] bs_mk bs_append bs_extract bs_size bs_toList bs_get Oper.semAt_some

/-- 'slices.Contains' at a slice of ints, wherever it stands. -/
theorem contains_any (A : Option Addr) (l : List Int) (c : Nat) (x : Int) (w : World) (hA : Cells w A (intCells l)) (hl : l.length ≤ 17592186044416) :
 Calls Tryz.prog 128 #[.slice A l.length c, .int .i64 x] w fun e w' => e = .returned (.bool (decide (x ∈ l))) ∧ w' = w := by
 cases l with
 | nil =>
  refine (Tryz.slices_Contains_int_empty A c x w).mono ?_
  rintro e w' ⟨rfl, rfl⟩
  exact ⟨by simp, rfl⟩
 | cons a l =>
  obtain ⟨b, off, rfl, hc⟩ := hA.int (i := 0) (by simp)
  refine (Tryz.slices_Contains_int b off (a :: l).length c (a :: l) x w (Nat.le_refl _) (by omega) (fun j hj => by rw [hc j hj, List.getD_eq_getElem?_getD, List.getElem?_eq_getElem hj]; rfl)).mono ?_
  rintro e w' ⟨rfl, rfl⟩
  refine ⟨?_, rfl⟩
  rw [List.take_of_length_le (Nat.le_refl _)]
  simp [List.contains_eq_mem]
theorem puts_in (F : Fence) (n : Nat) (h63 : F.fn 129) (hro : F.round = none) (D : Dk) (p q : Pl) (w : World) :
 CallsIn F n Tryz.prog 129 #[dval D p q] w fun e w' => e = .returned (.func (.func 131) #[] #[.pointer (some ⟨w.heap.size, 0, none⟩)]) ∧ w' = w.alloc (.cells #[.string (bs D.data), .slice p.a D.cache.length p.c, .int .i64 D.fuse, .bool D.off, .slice q.a D.bad.length q.c] 25) := by
 refine callsIn_of_wp Tryz.func129 rfl h63 ?_ hro
 simp only [Tryz.ntmps129, List.size_toArray, List.length_cons, List.length_nil, Nat.reduceAdd, Nat.reduceSub, Array.replicate_succ, Array.replicate_zero, List.push_toArray, List.append_toArray, List.nil_append, List.cons_append]
 gi_wp2
 go_ret
 exact ⟨rfl, rfl⟩
theorem stop_order {n : Nat} {pre' : List (Fin n)} {y : Fin n} (h : (pre' ++ [y]).map (fun y => y.val) = ((List.range n).reverse).take (pre' ++ [y]).length) (P : Fin n → Prop) (hP : ∀ y ∈ pre', P y) :
 ∀ j (hj : j < n), y.val < j → P ⟨j, hj⟩ := by
 intro j hj hy
 have hlen : pre'.length + 1 ≤ n := by
  have := congrArg List.length h; simp at this; omega
 have hg : ∀ i (hi : i < pre'.length + 1), ((pre' ++ [y])[i]'(by simpa using hi)).val = n - 1 - i := by
  intro i hi
  have e : ((pre' ++ [y]).map (fun y => y.val))[i]? = some ((pre' ++ [y])[i]'(by simpa using hi)).val := by
   rw [List.getElem?_map, List.getElem?_eq_getElem (by simpa using hi)]; rfl
  rw [h, List.getElem?_take_of_lt (by simpa using hi), List.getElem?_reverse (by simp; omega)] at e
  simp only [List.length_range] at e
  rw [List.getElem?_range (by omega)] at e
  exact (Option.some.inj e).symm
 have hl := hg pre'.length (by omega)
 simp at hl
 have hi := hg (n - 1 - j) (by omega)
 rw [List.getElem_append_left (by omega)] at hi
 have : (pre'[n - 1 - j]'(by omega)) = ⟨j, hj⟩ := Fin.ext (by rw [hi]; simp; omega)
 rw [← this]
 exact hP _ (List.getElem_mem _)
set_option maxRecDepth 100000 in
set_option maxHeartbeats 2000000 in
theorem d_read_ok (D : Dk) (p q : Pl) (k : Nat) (w : World) (hD : IsDk w D p q) (hl : D.data.length = D.sz * 64) (h1 : D.off = false) (h2 : D.there k = true) (h3 : ¬ (k : Int) ∈ D.bad) :
 Calls Tryz.prog 126 #[dval D p q, .int .i64 k] w fun e w' => e = .returned (.tuple #[.string (bs (D.sees k)), .int .i64 0]) ∧ Below w.heap.size w w' := by
 obtain ⟨A1, c1⟩ := p
 obtain ⟨A2, c2⟩ := q
 have hk' : 0 ≤ (k : Int) ∧ (k : Int) < D.sz := by simpa [Dk.there] using h2
 have hks : k * 64 + 64 ≤ D.data.length := by rw [hl]; omega
 have hdl := hD.data
 have hcl := hD.cl
 have Hl := hid hl
 have Hk := hid hk'
 have hcon2 := fun (W : World) (hW : Below w.heap.size w W) => contains_any A2 D.bad c2 k W (hD.below hW).bad hD.bl
 rw [decide_eq_false h3] at hcon2
 have hout2 := d_out D ⟨A1, c1⟩ ⟨A2, c2⟩ hD.data k
 rw [h2] at hout2
 have m1 : (0 : Int) ≤ (k : Int) * 64 := by omega
 have m2 : (k : Int) * 64 ≤ D.data.length := by omega
 clear hl hk' h2 h3
 have hb0 := (below_two w (.cells #[.string (bs D.data), .slice A1 D.cache.length c1, .int .i64 D.fuse, .bool D.off, .slice A2 D.bad.length c2] 25) (.cells #[.int .i64 k] 3))
 have x0 := Blk.new w 25 #[.string (bs D.data), .slice A1 D.cache.length c1, .int .i64 D.fuse, .bool D.off, .slice A2 D.bad.length c2]
 obtain ⟨data, cache, fuse, off, bad⟩ := D
 simp only at h1 hks hdl hcl m2
 subst h1
 refine (callsIn_wide (n := 6)).1 (callsIn_of_wp_marks Tryz.func126 rfl trivial (wpIn_wide.2 ?_) rfl)
 simp only [Tryz.ntmps126, List.size_toArray, List.length_cons, List.length_nil, Nat.reduceAdd, Nat.reduceSub, Array.replicate_succ, Array.replicate_zero, List.push_toArray, List.append_toArray, List.nil_append, List.cons_append]
 go_wp2_with fail
 go_step3
 go_wp2_with first | (go_at_call 127; refine (hout2 _).mono ?_; rintro e w1 ⟨rfl, hb1⟩; have b1 := bt hb0 hb1; obtain ⟨x1, x2⟩ := blk_two hb1; have y1 := blk5 x1; have y2 := blk1 x2) | (go_at_call 128; refine (hcon2 _ b1).mono ?_; rintro e w2 ⟨rfl, rfl⟩)
 go_step3
 have x3 := Blk.new w2 9 #[.string (bs (List.take 64 (List.drop (k * 64) data)))]
 have y3 := blk5 (x1.alloc (.cells #[.string (bs (List.take 64 (List.drop (k * 64) data)))] 9))
 go_wp2_with (go_at_call 129; refine (callsIn_wide.1 (puts_in Fence.wide 5 trivial rfl ⟨data, cache, fuse, false, bad⟩ ⟨A1, c1⟩ ⟨A2, c2⟩ _)).mono ?_; rintro e w3 ⟨rfl, rfl⟩)
 have n1 : 1 ≤ 6 := by omega
 obtain ⟨g, off, hp, hg⟩ : ∃ g off, (cache ≠ [] → A1 = some ⟨g, off, none⟩) ∧ g < w.heap.size + 1 ∧ PutsIn g off cache w2 := by
  cases hcs : cache with
  | nil => exact ⟨w.heap.size, 0, fun h => absurd rfl h, by omega, fun j hj => by simp at hj⟩
  | cons a l =>
   obtain ⟨b, o, e, hc⟩ := (hD.below b1).cache.put (i := 0) (by simp [hcs])
   have e' : A1 = some ⟨b, o, none⟩ := e
   subst e'
   have h0 := hD.cache.put (i := 0) (by simp [hcs])
   obtain ⟨b', o', e', hc'⟩ := h0
   cases e'
   have hlt := lt_of_cell (hc' 0 (by simp [hcs])).1
   simp only at hlt
   exact ⟨b, o, fun _ => rfl, by omega, by rw [← hcs]; exact hc⟩
 have w2l := hb1.size
 simp only [World.size_alloc] at w2l
 have hDl : IsDk ((w2.alloc (.cells #[.string (bs (List.take 64 (List.drop (k * 64) data)))] 9)).alloc (.cells #[.string (bs data), .slice A1 cache.length c1, .int .i64 fuse, .bool false, .slice A2 bad.length c2] 25)) ⟨data, cache, fuse, false, bad⟩ ⟨A1, c1⟩ ⟨A2, c2⟩ := (hD.below b1).below (below_two _ _ _)
 have x4 := Blk.new (w2.alloc (.cells #[.string (bs (List.take 64 (List.drop (k * 64) data)))] 9)) 25 #[.string (bs data), .slice A1 cache.length c1, .int .i64 fuse, .bool false, .slice A2 bad.length c2]
 rw [World.size_alloc] at x4
 refine (wpIn_wide (n := 6)).1 ?_
 refine range_own rfl n1 (gf := 131) (lb := #[.pointer (some ⟨w2.heap.size + 1, 0, none⟩)]) rfl trivial (enters_of Tryz.func131 (by kernel_rfl) rfl)
  (puts_stops Fence.wide 5 trivial trivial trivial rfl room_wide (by omega) ⟨data, cache, fuse, false, bad⟩ g off ⟨A1, c1⟩ ⟨A2, c2⟩ hp (w2.heap.size + 1) _ hDl (by simp) (by simp; omega) 25 x4 ?hby)
  (fun h k => Eq.trans k h) (fun W l o o' q1 q2 q3 q4 => World.putObj_heap_other (by simp at q1; omega)) (Below.refl _ _) (fun _ => rfl)
  (fun pre V => (Blk V w2.heap.size 9 #[.string (bs (List.take 64 (List.drop (k * 64) data)))] ∧ Blk V (w.heap.size + 1) 3 #[.int .i64 k]) ∧ Below w.heap.size w V ∧ Hid (∀ y ∈ pre, cache[y.val].1 ≠ k))
  (fun c pre V => (∃ pre' y, pre = pre' ++ [y] ∧ Hid (cache[y.val].1 = (k : Int) ∧ ∀ y ∈ pre', cache[y.val].1 ≠ (k : Int)) ∧ Blk V w2.heap.size 9 #[.string (bs cache[y.val].2)]) ∧ Below w.heap.size w V ∧ c = .exit 1)
  ?hI ?hIx ?h0
  (fun y a' V => ∃ B, a' = { tmps := #[dval ⟨data, cache, fuse, false, bad⟩ ⟨A1, c1⟩ ⟨A2, c2⟩, .int .i64 k, .pointer (some ⟨w.heap.size, 0, none⟩), .pointer (some ⟨w.heap.size + 1, 0, none⟩), .string (bs []), .int .i64 0, .pointer (some ⟨w2.heap.size, 0, none⟩), .pointer (some ⟨B, 0, none⟩), .bool false, .pointer (some ⟨w.heap.size, 3, none⟩), .bool false, .bool false,
   .agg #[.string (bs data), .slice A1 cache.length c1, .int .i64 fuse, .bool false, .slice A2 bad.length c2], .int .i64 k, .bool false, .bool false, .pointer (some ⟨w.heap.size, 4, none⟩), .slice A2 bad.length c2, .int .i64 k, .bool false, .pointer (some ⟨w.heap.size, 0, none⟩), .string (bs data), .int .i64 k, .int .i64 (k * 64), .string (bs (List.drop (k * 64) data)), .string (bs (List.take 64 (List.drop (k * 64) data))),
   .agg #[.string (bs data), .slice A1 cache.length c1, .int .i64 fuse, .bool false, .slice A2 bad.length c2], .func (.func 131) #[] #[.pointer (some ⟨w2.heap.size + 1, 0, none⟩)], .agg #[.int .i64 cache[y.val].1, .string (bs cache[y.val].2)], undef, undef, undef, undef, undef, undef, undef], defers := [] } ∧ Blk V B 133 #[.int .i64 cache[y.val].1, .string (bs cache[y.val].2)])
  ?hAx ?assign ?body ?done ?stop
 case hby => exact putsIn_kept hg.2 ((Below.heap_alloc _ _ _ (by simp; omega)).trans (Below.heap_alloc _ _ _ (by omega)))
 case hI => exact OwnFrom.and (Own.from (Own.and (blk_own _ _ _) (blk_own _ _ _)) _) (OwnFrom.and (ownFrom_below (Nat.le_refl _) (by simp; omega)) (fun _ _ _ _ hs _ _ => hs))
 case hIx =>
  rintro c s X Y row ⟨⟨pre', y, e, h, hb⟩, hB, hc⟩ hy hr
  refine ⟨⟨pre', y, e, h, ?_⟩, ownFrom_below (β := Unit) (Nat.le_refl _) (by simp; omega) () X Y row hB hy hr, hc⟩
  exact (Own.from (blk_own _ _ (fun _ : Unit => _)) _) () X Y row hb hy hr
 case h0 => exact ⟨⟨x3.alloc _, (x2.alloc _).alloc _⟩, bt b1 (below_two _ _ _), hid (fun y hy => by cases hy)⟩
 case hAx =>
  intro y a' s X Y row ⟨B, e, hs⟩ hy hr
  exact ⟨B, e, (Own.from (blk_own B _ (fun _ : Unit => _)) _) () X Y row hs hy hr⟩
 case assign =>
  rintro l pre y V K ⟨⟨hb1, hb2⟩, hB, hh⟩ hK
  dsimp only [oneEnc]
  gi_wp2
  refine hK _ _ (KeepsFrom.of_grownBy (World.grownBy_alloc V _ none) (fun j e => by cases e)) (Stays.grown (World.grownBy_alloc V _ none) (fun j e => by cases e)) (Below.heap_alloc _ _ _ (by have := (Array.getElem?_eq_some_iff.1 hb2).1; omega)) ⟨⟨hb1.alloc _, hb2.alloc _⟩, hB.alloc (by have := (Array.getElem?_eq_some_iff.1 hb2).1; omega) _, hh⟩ ⟨V.heap.size, rfl, Blk.new _ _ _⟩
 case body =>
  rintro l pre y a' V ⟨⟨hb1, hb2⟩, hB, hh⟩ ⟨B, rfl, hbp⟩ hpl
  have z1 := blk1 hb1
  have z2 := blk1 hb2
  have z3 := blk2 hbp
  have f1 := hb1.frozen 0
  by_cases he : cache[y.val].1 = k
  · have He := hid he
    have he' : (cache[y.val].1 == (k : Int)) = true := by simpa using he
    clear he
    gi_wp2
    exact ⟨(KeepsOthers.setCell _ _ _).from _, ⟨pre, y, rfl, hid ⟨He.out, hh.out⟩, hb1.set 0 _⟩, hB.setCell (p := ⟨w2.heap.size, 0, none⟩) (by simp; omega) _, rfl⟩
  · have He := hid he
    have he' : (cache[y.val].1 == (k : Int)) = false := by simpa using he
    clear he
    gi_wp2
    exact ⟨KeepsFrom.refl _ _, ⟨Stays.refl _ _, rfl⟩, ⟨hb1, hb2⟩, hB, hid (fun y' hy' => by
     rcases List.mem_append.1 hy' with h | h
     · exact hh.out y' h
     · rw [List.mem_singleton.1 h]; exact He.out)⟩
 case done =>
  rintro Dd ys V hDd hys ⟨⟨hb1, hb2⟩, hB, hh⟩ hK
  have z1 := blk1 hb1
  go_wp2_with fail
  refine ⟨by simp, .inl ⟨_, _, rfl, run_takeDeferred hK, ?_⟩⟩
  refine ⟨.tuple #[.string (bs (List.take 64 (List.drop (k * 64) data))), .int .i64 0], by simp [results, Tryz.results126, go_sem], ?_, ?_⟩
  · rw [Dk.sees, Dk.seesIn_none (fun j hj => by
     have : j ∈ ys.map (fun y => y.val) := by rw [hys]; simpa using hj
     obtain ⟨y, hy, rfl⟩ := List.mem_map.1 this
     exact hh.out y hy)]
    simp only [Option.getD_none, Dk.sector, Int.toNat_natCast, List.drop_take]
    rw [show (k + 1) * 64 - k * 64 = 64 by omega]
  · exact hB.trans (belowK_b (w := w) (Nat.le_refl _) V Dd _ _ (by simp at hDd; omega) hK rfl rfl)
 case stop =>
  rintro Dd c pre V hDd hpre ⟨⟨pre', y, rfl, hh, hb1⟩, hB, rfl⟩ hK
  have z1 := blk1 hb1
  refine wpIn_wide.2 ?_
  go_wp2_with fail
  refine ⟨by simp, .inl ⟨_, _, rfl, run_takeDeferred hK, ?_⟩⟩
  refine ⟨.tuple #[.string (bs cache[y.val].2), .int .i64 0], by simp [results, Tryz.results126, go_sem], ?_, ?_⟩
  · rw [Dk.sees, Dk.seesIn_some (i := y.val) y.isLt hh.out.1 (stop_order hpre (fun y => cache[y.val].1 ≠ (k : Int)) hh.out.2)]
    rfl
  · exact hB.trans (belowK_b (w := w) (Nat.le_refl _) V Dd _ _ (by simp at hDd; omega) hK rfl rfl)
set_option maxRecDepth 100000 in
theorem d_read_off (D : Dk) (p q : Pl) (w : World) (hD : IsDk w D p q) (k : Int) (h1 : D.off = true) :
 Calls Tryz.prog 126 #[dval D p q, .int .i64 k] w fun e w' => e = .returned (.tuple #[.string (bs (D.read k).1), .int .i64 (D.read k).2]) ∧ Below w.heap.size w w' := by
 have Hw := hid (show D.read k = ([], 12) by simp [Dk.read, *])
 obtain ⟨A1, c1⟩ := p
 obtain ⟨A2, c2⟩ := q
 go_enter Tryz.func126, Tryz.ntmps126
 go_wp2_with fail
 go_step3
 go_wp2_with fail
 try rw [Exit.noGoto_ret]
 go_ret2
 exact ⟨by rw [Hw.out]; rfl, below_two _ _ _⟩
set_option maxRecDepth 100000 in
theorem d_read_out (D : Dk) (p q : Pl) (w : World) (hD : IsDk w D p q) (k : Int) (h1 : D.off = false) (h2 : D.there k = false) :
 Calls Tryz.prog 126 #[dval D p q, .int .i64 k] w fun e w' => e = .returned (.tuple #[.string (bs (D.read k).1), .int .i64 (D.read k).2]) ∧ Below w.heap.size w w' := by
 have Hw := hid (show D.read k = ([], 10) by simp [Dk.read, *])
 obtain ⟨A1, c1⟩ := p
 obtain ⟨A2, c2⟩ := q
 have hout2 := d_out D ⟨A1, c1⟩ ⟨A2, c2⟩ hD.data k
 rw [h2] at hout2
 clear h2
 obtain ⟨data, cache, fuse, off, bad⟩ := D
 simp only at h1
 subst h1
 go_enter Tryz.func126, Tryz.ntmps126
 go_wp2_with fail
 go_step3
 go_wp2_with (go_at_call 127; refine (hout2 _).mono ?_; rintro e w1 ⟨rfl, hb1⟩)
 try rw [Exit.noGoto_ret]
 go_ret2
 exact ⟨by rw [Hw.out]; rfl, bt (below_two _ _ _) hb1⟩
set_option maxRecDepth 100000 in
theorem d_read_bad (D : Dk) (p q : Pl) (w : World) (hD : IsDk w D p q) (k : Int) (h1 : D.off = false) (h2 : D.there k = true) (h3 : k ∈ D.bad) :
 Calls Tryz.prog 126 #[dval D p q, .int .i64 k] w fun e w' => e = .returned (.tuple #[.string (bs (D.read k).1), .int .i64 (D.read k).2]) ∧ Below w.heap.size w w' := by
 have Hw := hid (show D.read k = ([], 13) by simp [Dk.read, *])
 obtain ⟨A1, c1⟩ := p
 obtain ⟨A2, c2⟩ := q
 have hcon2 := fun (W : World) (hW : Below w.heap.size w W) => contains_any A2 D.bad c2 k W (hD.below hW).bad hD.bl
 rw [decide_eq_true h3] at hcon2
 have hout2 := d_out D ⟨A1, c1⟩ ⟨A2, c2⟩ hD.data k
 rw [h2] at hout2
 clear h2 h3
 have hb0 := (below_two w (.cells #[.string (bs D.data), .slice A1 D.cache.length c1, .int .i64 D.fuse, .bool D.off, .slice A2 D.bad.length c2] 25) (.cells #[.int .i64 k] 3))
 obtain ⟨data, cache, fuse, off, bad⟩ := D
 simp only at h1
 subst h1
 go_enter Tryz.func126, Tryz.ntmps126
 go_wp2_with fail
 go_step3
 go_wp2_with first | (go_at_call 127; refine (hout2 _).mono ?_; rintro e w1 ⟨rfl, hb1⟩; have b1 := bt hb0 hb1; obtain ⟨x1, x2⟩ := blk_two hb1; have y1 := blk5 x1; have y2 := blk1 x2) | (go_at_call 128; refine (hcon2 _ b1).mono ?_; rintro e w2 ⟨rfl, rfl⟩)
 try rw [Exit.noGoto_ret]
 go_ret2
 exact ⟨by rw [Hw.out]; rfl, b1⟩
theorem d_read (D : Dk) (p q : Pl) (w : World) (hD : IsDk w D p q) (k : Int) (hl : D.data.length = D.sz * 64) :
 Calls Tryz.prog 126 #[dval D p q, .int .i64 k] w fun e w' => e = .returned (.tuple #[.string (bs (D.read k).1), .int .i64 (D.read k).2]) ∧ Below w.heap.size w w' := by
 cases h1 : D.off with
 | true => exact d_read_off D p q w hD k h1
 | false =>
  cases h2 : D.there k with
  | false => exact d_read_out D p q w hD k h1 h2
  | true =>
   by_cases h3 : k ∈ D.bad
   · exact d_read_bad D p q w hD k h1 h2 h3
   · obtain ⟨k, rfl⟩ := Int.eq_ofNat_of_zero_le (show 0 ≤ k by simp [Dk.there] at h2; exact h2.1)
     rw [show D.read k = (D.sees k, 0) by simp [Dk.read, *]]
     exact d_read_ok D p q k w hD hl h1 h2 h3
end Go.Proofs.YtlapjkbefkmohaaGreat
set_option linter.unusedVariables false
namespace Go.Proofs.YtlapjkbefkmohaaGreat
open Go.RowKit Go.Shelf
attribute [local go_sem] bs_mk bs_append bs_extract bs_size bs_toList bs_get

end Go.Proofs.YtlapjkbefkmohaaGreat
