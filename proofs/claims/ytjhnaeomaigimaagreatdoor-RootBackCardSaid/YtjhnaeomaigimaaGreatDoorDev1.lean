/- Package dev, function by function: how great, new ones, the writes handed out the last one first. -/
import Derived.Test.YtjhnaeomaigimaaGreatDoorPlain1
import Derived.Test.YtjhnaeomaigimaaGreatDoorRanges
import Derived.Test.YtjhnaeomaigimaaGreatDoorShelf
set_option linter.unusedVariables false
namespace Go.Proofs.YtjhnaeomaigimaaGreatDoor
open Go.RowKit Go.Shelf
attribute [local go_sem] bs_mk bs_append bs_extract bs_size bs_toList bs_get Oper.semAt_some

theorem d_size (D : Dk) (p q : Pl) (h : D.data.length ≤ 140737488355328) (w : World) :
    Calls Tryz.prog 180 #[dval D p q] w fun e w' => e = .returned (.int .i64 D.sz) ∧ Below w.heap.size w w' := by
  obtain ⟨A1, c1⟩ := p
  obtain ⟨A2, c2⟩ := q
  go_enter Tryz.func180, Tryz.ntmps180
  go_wp2_with fail
  go_ret
  exact ⟨rfl, (Below.refl _ _).alloc (Nat.le_refl _) _⟩
theorem d_out (D : Dk) (p q : Pl) (h : D.data.length ≤ 140737488355328) (k : Int) (w : World) :
    Calls Tryz.prog 152 #[dval D p q, .int .i64 k] w fun e w' => e = .returned (.bool (!D.there k)) ∧ Below w.heap.size w w' := by
  have hs := d_size D p q h
  obtain ⟨A1, c1⟩ := p
  obtain ⟨A2, c2⟩ := q
  by_cases h0 : k < 0
  · have Hw := hid (show D.there k = false by simp [Dk.there]; omega)
    go_enter Tryz.func152, Tryz.ntmps152
    go_wp2_with fail
    go_ret
    exact ⟨by rw [Hw.out]; rfl, (Below.refl _ _).alloc (Nat.le_refl _) _⟩
  · have Hw := hid (show (!D.there k) = decide ((D.sz : Int) ≤ k) by simp [Dk.there]; rw [decide_eq_true (by omega : 0 ≤ k)]; simp; rw [← decide_not]; congr 1; simp)
    go_enter Tryz.func152, Tryz.ntmps152
    go_wp2_with (go_at_call 180; refine (hs _).mono ?_; rintro e w1 ⟨rfl, hb1⟩)
    go_ret
    exact ⟨by rw [Hw.out]; rfl, bt ((Below.refl _ _).alloc (Nat.le_refl _) _) hb1⟩
/-! ### the writes, the last one first -/
def PutsIn (g off : Nat) (l : List (Int × List UInt8)) (W : World) : Prop :=
  ∀ j (hj : j < l.length), W.cell? ⟨g, off + j * 2, none⟩ = some (.int .i64 l[j].1) ∧ W.cell? ⟨g, off + j * 2 + 1, none⟩ = some (.string (bs l[j].2))
def seqEnc (l : List (Int × List UInt8)) (i : Fin l.length) : Array Value := #[.int .i64 (i.val : Int), .agg #[.int .i64 l[i.val].1, .string (bs l[i.val].2)]]

set_option maxRecDepth 100000 in
set_option maxHeartbeats 2000000 in
theorem putsBack_in (F : Fence) (n : Nat) (h7 : F.fn 212) (hro : F.round = none) (hn : 1 ≤ n) (l Bs g off cap : Nat) (A : Option Addr) (L : List (Int × List UInt8)) (hA : L ≠ [] → A = some ⟨g, off, none⟩) (hreach : L.length ≤ 1099511627776) (hcap : cap ≤ maxLen) (hlc : L.length ≤ cap)
    (J Jx : List (Fin L.length) → World → Prop)
    (hK : ∀ pre W, J pre W → W.cell? ⟨Bs, 0, none⟩ = some (.slice A L.length cap) ∧ PutsIn g off L W)
    (hY : ∀ pre x W, J pre W → pre.length < L.length → YieldAt F (n - 1) Tryz.prog l (seqEnc L x) W fun e W' =>
      (e = .returned (.bool true) ∧ J (pre ++ [x]) W') ∨ (e = .returned (.bool false) ∧ Jx (pre ++ [x]) W'))
    (W : World) (h0 : J [] W) :
    CallsIn F n Tryz.prog 212 #[.func (.yield l) #[] #[], .pointer (some ⟨Bs, 0, none⟩)] W fun e W' => (∃ v, e = .returned v) ∧
      ((∃ ys, ys.map (fun y => y.val) = (List.range L.length).reverse ∧ J ys W') ∨ (∃ pre, pre.map (fun y => y.val) = ((List.range L.length).reverse).take pre.length ∧ Jx pre W')) := by
  unfold maxLen at hcap
  refine callsIn_of_wp Tryz.func212 rfl h7 ?_ hro
  simp only [Tryz.ntmps212, List.size_toArray, List.length_cons, List.length_nil, Nat.reduceAdd, Nat.reduceSub, Array.replicate_succ, Array.replicate_zero, List.push_toArray, List.append_toArray, List.nil_append, List.cons_append]
  obtain ⟨hBs, hby⟩ := hK _ _ h0
  gi_wp2
  gi_loopw [3] (fun i wr => ∃ (pre : List (Fin L.length)), pre.length ≤ L.length ∧ i = .int .i64 ((L.length : Int) - 1 - pre.length) ∧ Hid (pre.map (fun y => y.val) = ((List.range L.length).reverse).take pre.length) ∧ J pre wr)
    (fun i _ => (intOf i + 1).toNat)
  case atStart => exact ⟨[], Nat.zero_le _, by simp, Lib.hid rfl, h0⟩
  case round =>
    clear hBs hby
    obtain ⟨pre, hk, rfl, hpm, hJs⟩ := hrel
    obtain ⟨hbx, hby⟩ := hK _ _ hJs
    by_cases hlt : pre.length < L.length
    · obtain rfl := hA (by rintro rfl; simp at hlt)
      obtain ⟨i, hi⟩ : ∃ i, Hid (i = L.length - 1 - pre.length) := ⟨_, hid rfl⟩
      have hiL : i < L.length := by have := hi.out; omega
      obtain ⟨x0, x1⟩ := hby i hiL
      have hie : ((L.length : Int) - 1 - pre.length) = (i : Int) := by have := hi.out; omega
      have Hy := hY pre ⟨i, hiL⟩ wr hJs (by omega)
      obtain ⟨fn, tmps, assign, body, hy, hR⟩ := Hy
      simp only [seqEnc] at hy
      rw [hie]
      generalize hz : L[i] = z at *
      obtain ⟨za, zs⟩ := z
      have Hz := hid hz
      have Hie := hid hie
      clear hz hie
      gi_wp2
      refine hR.mono ?_
      rintro e W3 (⟨rfl, hJ3⟩ | ⟨rfl, hJx3⟩)
      · gi_wp2
        go_roundw
        case rel => exact ⟨pre ++ [⟨i, hiL⟩], by simp; omega, ret_num (by have := hi.out; simp; omega), hid (by
          rw [List.map_append, hpm.out]; simp only [List.length_append, List.map_cons, List.map_nil, List.length_singleton]
          rw [List.take_succ_eq_append_getElem (by simpa using hlt)]; simp [hi.out]), hJ3⟩
        case measure => have := hi.out; simp [intOf]
      · gi_wp2
        refine bodyPost_ret (results_none rfl _ _ _) rfl ?_
        exact ⟨⟨_, rfl⟩, .inr ⟨pre ++ [⟨i, hiL⟩], by
          rw [List.map_append, hpm.out]; simp only [List.length_append, List.map_cons, List.map_nil, List.length_singleton]
          rw [List.take_succ_eq_append_getElem (by simpa using hlt)]; simp [hi.out], hJx3⟩⟩
    · have hle : L.length ≤ pre.length := by omega
      gi_wp2
      go_end0
      exact ⟨⟨_, rfl⟩, .inl ⟨pre, by rw [hpm.out, List.take_of_length_le (by simpa using hle)], hJs⟩⟩
/-! ### puts -/
theorem round_wide {F : Fence} (hr : ∀ k, F.room k) {n m : Nat} {P : Program} {l : Nat} {f : FuncId} {tmps : Array Value} {assign body : Code} {w : World} {R : Ending → World → Prop}
    (h : RoundIn F n P l f tmps assign body w R) : RoundIn F m P l f tmps assign body w R := ⟨h.1, fun c cs _ => h.2 c cs (hr _)⟩
def PutsK (Bs : Nat) (sv : Value) (g off : Nat) (L : List (Int × List UInt8)) (W W' : World) : Prop :=
  (W.cell? ⟨Bs, 0, none⟩ = some sv → W'.cell? ⟨Bs, 0, none⟩ = some sv) ∧ (PutsIn g off L W → PutsIn g off L W')
theorem PutsK.t {Bs : Nat} {sv : Value} {g off : Nat} {L : List (Int × List UInt8)} {A B C : World} (h : PutsK Bs sv g off L A B) (k : PutsK Bs sv g off L B C) : PutsK Bs sv g off L A C :=
  ⟨fun x => k.1 (h.1 x), fun x => k.2 (h.2 x)⟩
theorem putsIn_kept {g off : Nat} {L : List (Int × List UInt8)} {W W' : World} (h : PutsIn g off L W) (hk : W'.heap[g]? = W.heap[g]?) : PutsIn g off L W' := fun j hj =>
  ⟨(World.cell?_of_block (w := W) (a := ⟨g, off + j * 2, none⟩) hk).trans (h j hj).1, (World.cell?_of_block (w := W) (a := ⟨g, off + j * 2 + 1, none⟩) hk).trans (h j hj).2⟩
theorem PutsK.b {Bs : Nat} {sv : Value} {g off : Nat} {L : List (Int × List UInt8)} (W : World) (l : Nat) (o o' : Obj) (h : W.heap[l]? = some o) (hc : o.isCells = false) : PutsK Bs sv g off L W (W.putObj l o') :=
  ⟨fun x => cell_kept x (grownBy_putObj' W l o') (fun r e => by cases e; exact ⟨_, h, hc⟩),
   fun x j hj => ⟨cell_kept (x j hj).1 (grownBy_putObj' W l o') (fun r e => by cases e; exact ⟨_, h, hc⟩), cell_kept (x j hj).2 (grownBy_putObj' W l o') (fun r e => by cases e; exact ⟨_, h, hc⟩)⟩⟩
theorem putsBack_stops (F : Fence) (n : Nat) (h94 : F.fn 212) (hro : F.round = none) (hn : 1 ≤ n) (Bs g off cap : Nat) (A : Option Addr) (L : List (Int × List UInt8)) (hA : L ≠ [] → A = some ⟨g, off, none⟩) (hreach : L.length ≤ 1099511627776) (hcap : cap ≤ maxLen) (hlc : L.length ≤ cap) (w : World) (hB : Bs < w.heap.size) (hg : g < w.heap.size)
    (hBs : w.cell? ⟨Bs, 0, none⟩ = some (.slice A L.length cap)) (hc : PutsIn g off L w) :
    SeqStopsK F n Tryz.prog 212 #[.pointer (some ⟨Bs, 0, none⟩)] (seqEnc L) (PutsK Bs (.slice A L.length cap) g off L) (fun ys => ys.map (fun y => y.val) = (List.range L.length).reverse) (fun pre => pre.map (fun y => y.val) = ((List.range L.length).reverse).take pre.length) L.length w := fun l J Jx W hW _ _ hY h0 => by
  refine (putsBack_in F n h94 hro hn l Bs g off cap A L hA hreach hcap hlc
    (fun pre W => J pre W ∧ W.cell? ⟨Bs, 0, none⟩ = some (.slice A L.length cap) ∧ PutsIn g off L W) Jx (fun pre W h => h.2) ?_ W ⟨h0, (hW.cell (p := ⟨Bs, 0, none⟩) hB).trans hBs, putsIn_kept hc (hW.block g hg)⟩).mono ?_
  · rintro pre x W1 ⟨hj, h1, h2⟩ hl
    obtain ⟨fn, tmps, assign, body, hy, hR⟩ := hY pre x W1 hj hl
    refine ⟨fn, tmps, assign, body, hy, hR.mono ?_⟩
    rintro e W' (⟨he, hj', hk⟩ | h)
    · exact .inl ⟨he, hj', hk.1 h1, hk.2 h2⟩
    · exact .inr h
  · rintro e W' ⟨hv, (⟨ys, h1, h2, _⟩ | h)⟩
    · exact ⟨hv, .inl ⟨ys, h1, h2⟩⟩
    · exact ⟨hv, .inr h⟩
theorem putsBackFn (F : Fence) (n : Nat) (h81 : F.fn 182) (hro : F.round = none) (a : Option Addr) (len cap : Nat) (w : World) :
    CallsIn F n Tryz.prog 182 #[.slice a len cap] w fun e w' => e = .returned (.func (.func 212) #[] #[.pointer (some ⟨w.heap.size, 0, none⟩)]) ∧ w' = w.alloc (.cells #[.slice a len cap] 22) := by
  refine callsIn_of_wp Tryz.func182 rfl h81 ?_ hro
  simp only [Tryz.ntmps182, List.size_toArray, List.length_cons, List.length_nil, Nat.reduceAdd, Nat.reduceSub, Array.replicate_succ, Array.replicate_zero, List.push_toArray, List.append_toArray, List.nil_append, List.cons_append]
  gi_wp2
  go_ret
  exact ⟨rfl, rfl⟩
def oneEnc (L : List (Int × List UInt8)) (i : Fin L.length) : Array Value := #[.agg #[.int .i64 L[i.val].1, .string (bs L[i.val].2)]]
def KeptK (g : Nat) (A B : World) : Prop := B.heap[g]? = A.heap[g]?
theorem lt_of_same {g : Nat} {X Y : World} (h : Y.heap[g]? = X.heap[g]?) (hg : g < X.heap.size) : g < Y.heap.size := by
  rcases Nat.lt_or_ge g Y.heap.size with h' | h'
  · exact h'
  · rw [Array.getElem?_eq_none h', Array.getElem?_eq_getElem hg] at h; cases h
theorem blk_stays {B k : Nat} {X Y : World} {t : TypeId} {cs : Array Value} (h : Blk X k t cs) (hs : Stays B X Y) (hk : B ≤ k) : Blk Y k t cs :=
  (hs.2 k hk (Array.getElem?_eq_some_iff.1 (show X.heap[k]? = some _ from h)).1).trans h
def putsAx (l Bd Y c1 : Nat) (A : Option Addr) (D : Dk) (y : Fin D.cache.length) (a' : Act) (V : World) : Prop :=
  ∃ B, a' = { tmps := #[.func (.yield l) #[] #[], .pointer (some ⟨Bd, 0, none⟩), .pointer (some ⟨Y, 0, none⟩), undef, .pointer (some ⟨B, 0, none⟩), .pointer (some ⟨Bd, 1, none⟩), .slice A D.cache.length c1, .func (.func 212) #[] #[.pointer (some ⟨Y + 1, 0, none⟩)], .int .i64 (y.val : Int), .agg #[.int .i64 D.cache[y.val].1, .string (bs D.cache[y.val].2)], undef, undef, undef, undef], defers := [] } ∧
    Blk V B 140 #[.int .i64 D.cache[y.val].1, .string (bs D.cache[y.val].2)]
theorem putsAx_own (l Bd Y c1 : Nat) (A : Option Addr) (D : Dk) (y : Fin D.cache.length) (a' : Act) (B : Nat) : OwnFrom B (fun (_ : Unit) V => putsAx l Bd Y c1 A D y a' V) := fun s X Z row ⟨b, he, hs⟩ hy hr =>
  ⟨b, he, (Own.from (blk_own b _ (fun _ : Unit => _)) B) s X Z row hs hy hr⟩
set_option maxRecDepth 100000 in
set_option maxHeartbeats 2000000 in
theorem puts_stops (F : Fence) (n : Nat) (h80 : F.fn 181) (h81 : F.fn 182) (h94 : F.fn 212) (hro : F.round = none) (hrm : ∀ k, F.room k) (hn : 3 ≤ n) (D : Dk) (g off : Nat) (p q : Pl) (hp : D.cache ≠ [] → p.a = some ⟨g, off, none⟩) (Bd : Nat) (w : World) (hD : IsDk w D p q) (hB : Bd < w.heap.size) (hg : g < w.heap.size) (t : TypeId)
    (hBd : Blk w Bd t #[.string (bs D.data), .slice p.a D.cache.length p.c, .int .i64 D.fuse, .bool D.off, .slice q.a D.bad.length q.c]) (hc : PutsIn g off D.cache w) :
    SeqO F n Tryz.prog 181 #[.pointer (some ⟨Bd, 0, none⟩)] (oneEnc D.cache) (KeptK g) (fun ys => ys.map (fun y => y.val) = (List.range D.cache.length).reverse) (fun pre => pre.map (fun y => y.val) = ((List.range D.cache.length).reverse).take pre.length) D.cache.length w := by
  intro l J Jx W hW hJ hJx hY h0
  obtain ⟨A, c1⟩ := p
  obtain ⟨A2, c2⟩ := q
  simp only at hp
  have y0 := blk5 ((hBd.below hW hB).alloc (.cells #[.func (.yield l) #[] #[]] 259))
  have byl := Blk.new W 259 #[.func (.yield l) #[] #[]]
  have hgW : g < W.heap.size := Nat.lt_of_lt_of_le hg hW.size
  have hcW := putsIn_kept hc (hW.block g hg)
  have hcl := hD.cl
  have hpm := hD.pm
  have hpc := hD.pc
  have h1 : 1 ≤ n := by omega
  refine callsIn_of_wp_marks Tryz.func181 rfl h80 ?_ hro
  simp only [Tryz.ntmps181, List.size_toArray, List.length_cons, List.length_nil, Nat.reduceAdd, Nat.reduceSub, Array.replicate_succ, Array.replicate_zero, List.push_toArray, List.append_toArray, List.nil_append, List.cons_append]
  gi_wp2_with (gi_at_call 182; refine (putsBackFn F _ h81 hro _ _ _ _).mono ?_; rintro e w' ⟨rfl, rfl⟩)
  have hbx := Blk.new (W.alloc (.cells #[.func (.yield l) #[] #[]] 259)) 22 #[.slice A D.cache.length c1]
  rw [World.size_alloc] at hbx
  refine wpIn_rangeFunc_ownH hro (by omega) (gf := 212) (lb := #[.pointer (some ⟨W.heap.size + 1, 0, none⟩)]) rfl h94 (enters_of Tryz.func212 (by kernel_rfl) rfl)
    (putsBack_stops F (n - 1) h94 hro (by omega) (W.heap.size + 1) g off c1 A D.cache hp hcl hpm hpc ((W.alloc (.cells #[.func (.yield l) #[] #[]] 259)).alloc (.cells #[.slice A D.cache.length c1] 22)) (by simp) (by simp; omega) (by rw [hbx.cell]; rfl) ?hby) PutsK.t (fun W l o o' q1 q2 q3 q4 => PutsK.b W l o o' q2 q3) (Below.refl _ _) (fun _ => rfl)
    (fun pre V => J pre V ∧ (Blk V W.heap.size 259 #[.func (.yield l) #[] #[]] ∧ Blk V (W.heap.size + 1) 22 #[.slice A D.cache.length c1]) ∧ V.heap[g]? = W.heap[g]?)
    (fun c pre V => c = .ret ∧ Jx pre V) ?hI ?hIx ?h0 (putsAx l Bd W.heap.size c1 A D) (fun y a' => putsAx_own _ _ _ _ _ _ _ _ _) ?assign ?body ?done ?stop
  case hby => exact putsIn_kept hcW ((Below.heap_alloc _ _ _ (by simp; omega)).trans (Below.heap_alloc _ _ _ hgW))
  case h0 => exact ⟨hJ.alloc _ (hJ.alloc _ h0), ⟨(byl.alloc _), hbx⟩, (Below.heap_alloc _ _ _ (by simp; omega)).trans (Below.heap_alloc _ _ _ hgW)⟩
  case assign =>
    intro l' pre y V K ⟨hj, ⟨hb1, hb2⟩, hg3⟩ hK
    dsimp only [seqEnc]
    gi_wp2
    refine hK _ _ (KeepsFrom.of_grownBy (World.grownBy_alloc V _ none) (fun j e => by cases e)) ⟨fun x => ?_, fun x => putsIn_kept x ?_⟩ ⟨hJ.alloc _ hj, ⟨hb1.alloc _, hb2.alloc _⟩, ?_⟩ ⟨V.heap.size, rfl, Blk.new _ _ _⟩
    · exact ((Below.refl V.heap.size V).alloc (Nat.le_refl _) _).cell (lt_of_cell x) |>.trans x
    · exact Below.heap_alloc _ _ _ (lt_of_same hg3 hgW)
    · exact (Below.heap_alloc _ _ _ (lt_of_same hg3 hgW)).trans hg3
  case hI =>
    have hB : W.heap.size ≤ ((W.alloc (.cells #[.func (.yield l) #[] #[]] 259)).alloc (.cells #[.slice A D.cache.length c1] 22)).heap.size := by simp; omega
    refine OwnFrom.and (fun s X Y row hs hy hr => hJ s X Y row hs hy (fun r e => ⟨Nat.le_trans hB (hr r e).1, (hr r e).2⟩)) (OwnFrom.and (Own.from (Own.and (blk_own _ _ _) (blk_own _ _ _)) _) ?_)
    intro s X Y row hs hy hr
    exact (hy.block g (lt_of_same hs hgW) (fun e => by have := (hr g e.symm).1; omega)).trans hs
  case hIx =>
    intro c
    have hB : W.heap.size ≤ ((W.alloc (.cells #[.func (.yield l) #[] #[]] 259)).alloc (.cells #[.slice A D.cache.length c1] 22)).heap.size := by simp; omega
    exact fun s X Y row hs hy hr => ⟨hs.1, hJx s X Y row hs.2 hy (fun r e => ⟨Nat.le_trans hB (hr r e).1, (hr r e).2⟩)⟩
  case body =>
    rintro l' pre y a' V hl' hrec ⟨hj, ⟨hb1, hb2⟩, hg3⟩ ⟨B, rfl, hbp⟩ hpl
    have z1 := blk1 hb1
    have z2 := blk2 hbp
    obtain ⟨fn, tmps, assign, body, hy, hR⟩ := hY pre y V hj hpl
    simp only [oneEnc] at hy
    have hRR : RoundIn (F.inRound l') (n - 1 - 1 - 1) Tryz.prog l fn tmps assign body V _ := round_wide hrm (m := n - 1 - 1 - 1) hR
    have h3 : 1 ≤ n - 1 - 1 := by omega
    gi_wp2
    refine RoundIn.mono hRR ?_
    rintro e V' (⟨rfl, hj', hst, hkg⟩ | ⟨rfl, hj', hkf⟩)
    · gi_wp2
      exact ⟨keepsFrom_later hst.keeps (by simp; omega), ⟨fun _ => by rw [(blk_stays hb2 hst (Nat.le_succ _)).cell]; rfl, fun x => putsIn_kept x hkg⟩, hj', ⟨blk_stays hb1 hst (Nat.le_refl _), blk_stays hb2 hst (Nat.le_succ _)⟩, hkg.trans hg3⟩
    · gi_wp2
      exact ⟨keepsFrom_later hkf (by simp; omega), rfl, hj'⟩
  case done =>
    rintro Dd ys V hDd hys ⟨hj, ⟨hb1, hb2⟩, hg3⟩ hK
    gi_wp2
    refine ⟨by simp, .inl ⟨_, _, rfl, run_takeDeferred hK, ?_⟩⟩
    exact ⟨_, results_none rfl _ _ _, ⟨_, rfl⟩, .inl ⟨ys, hys, hJ.putObj _ hj (by simp at hDd; omega) hK rfl⟩⟩
  case stop =>
    rintro Dd c pre V hDd hpre ⟨rfl, hj⟩ hK
    gi_wp2
    refine ⟨by simp, .inl ⟨_, _, rfl, run_takeDeferred hK, ?_⟩⟩
    exact ⟨_, results_none rfl _ _ _, ⟨_, rfl⟩, .inr ⟨pre, hpre, hJx.putObj _ hj (by simp at hDd; omega) hK rfl⟩⟩
end Go.Proofs.YtjhnaeomaigimaaGreatDoor
