/- Package txn: the sectors behind the head, one by one. -/
import Derived.Test.YtplgmlcoeehnfaaGreatJcTxn2
import Derived.Test.YtplgmlcoeehnfaaGreatShelfB
import Derived.Shelf.Strings.OnBuilder
import Derived.Shelf.RegionOpen
set_option linter.unusedVariables false
namespace Go.Proofs.YtplgmlcoeehnfaaGreat
open Go.RowKit Go.Shelf
attribute [local go_sem] bs_mk bs_append bs_extract bs_size bs_toList bs_get Oper.semAt_some
theorem idxRows_count {l : List Int} (h1 : 1 ≤ l.length) (h : l.length ≤ 24) : (idxRows l).length = (l.length + 15) / 16 := by
  unfold idxRows
  split
  · rw [List.length_singleton]; omega
  · simp only [List.length_cons, List.length_nil]; omega
theorem idxRows_get {l : List Int} (h1 : 1 ≤ l.length) (h : l.length ≤ 24) {j : Nat} (hj : j < (idxRows l).length) : (idxRows l)[j] = pad64 (nums ((l.drop (16 * j)).take 16)) := by
  have hc := idxRows_count h1 h
  rcases Nat.lt_or_ge 16 l.length with h16 | h16
  · have e : idxRows l = [pad64 (nums (l.take 16)), pad64 (nums (l.drop 16))] := by unfold idxRows; rw [if_neg (by omega)]
    have : j = 0 ∨ j = 1 := by omega
    rcases this with rfl | rfl
    · simp only [e, List.getElem_cons_zero, Nat.mul_zero, List.drop_zero]
    · simp only [e, List.getElem_cons_succ, List.getElem_cons_zero]
      rw [List.take_of_length_le (by simp; omega)]
  · have e : idxRows l = [pad64 (nums l)] := by unfold idxRows; rw [if_pos h16]
    obtain rfl : j = 0 := by omega
    simp only [e, List.getElem_cons_zero, Nat.mul_zero, List.drop_zero]
    rw [List.take_of_length_le h16]
def rowEnc (R : List (List UInt8)) (i : Fin R.length) : Array Value := #[.string (bs R[i.val])]
theorem nums_snoc (l : List Int) (x : Int) : nums (l ++ [x]) = nums l ++ be 4 x.toNat := by simp [nums]
theorem bld_write (B b : Nat) (l : List UInt8) (s : List UInt8) (w : World) (h : Lib.IsBuilder 231 5 B b (Lib.byteCells l) w) (hlen : l.length + s.length ≤ 140737488355328) (hBw : B ≤ w.heap.size) :
    Calls Tryz.prog 185 #[.pointer (some ⟨b, 0, none⟩), .string (bs s)] w fun e w' => e = .returned (.tuple #[.int .i64 s.length, .nilIface]) ∧ Lib.IsBuilder 231 5 B b (Lib.byteCells (l ++ s)) w' ∧ Below B w w' := by
  refine (Any.Builder_WriteString { Tryz.lays156 with } Tryz.Builder_Extra_156 B b (Lib.byteCells l) (bs s) w h (by rw [Lib.byteCells_length, bs_size]; exact hlen) hBw).mono ?_
  rintro e w' ⟨rfl, h1, h2⟩
  refine ⟨by rw [bs_size], .inr ?_, h2⟩
  rw [Lib.strCells_eq, bs_list, ← Lib.byteCells_append] at h1
  exact h1
theorem behind_in (n : Nat) (L : Pn) (p' q' : Pl) (w : World) :
    CallsIn Fence.wide n Tryz.prog 136 #[pval L p' q'] w fun e w' => e = .returned (.func (.func 190) #[] #[.pointer (some ⟨w.heap.size, 0, none⟩)]) ∧
      w' = w.alloc (.cells #[.slice p'.a L.targets.length p'.c, .slice q'.a L.data.length q'.c] 28) := by
  refine callsIn_of_wp Tryz.func136 rfl trivial ?_ rfl
  simp only [Tryz.ntmps136, List.size_toArray, List.length_cons, List.length_nil, Nat.reduceAdd, Nat.reduceSub, Array.replicate_succ, Array.replicate_zero, List.push_toArray, List.append_toArray, List.nil_append, List.cons_append]
  gi_wp2
  go_ret
  exact ⟨rfl, rfl⟩
theorem chunk_in (n : Nat) (a : Option Addr) (len cap : Nat) (w : World) :
    CallsIn Fence.wide n Tryz.prog 191 #[.slice a len cap, .int .i64 16] w fun e w' => e = .returned (.func (.func 214) #[] #[.pointer (some ⟨w.heap.size, 0, none⟩), .pointer (some ⟨w.heap.size + 1, 0, none⟩)]) ∧
      w' = (w.alloc (.cells #[.slice a len cap] 23)).alloc (.cells #[.int .i64 16] 3) := by
  have x0 := (Blk.new w 23 #[.slice a len cap]).alloc (.cells #[.int .i64 16] 3)
  have x1 := blk1 (blk_second w (.cells #[.slice a len cap] 23) 3 #[.int .i64 16])
  refine callsIn_of_wp Tryz.func191 rfl trivial ?_ rfl
  simp only [Tryz.ntmps191, List.size_toArray, List.length_cons, List.length_nil, Nat.reduceAdd, Nat.reduceSub, Array.replicate_succ, Array.replicate_zero, List.push_toArray, List.append_toArray, List.nil_append, List.cons_append]
  gi_wp2
  go_ret
  exact ⟨rfl, rfl⟩
theorem picked_emb {R : List (List UInt8)} {K : Nat} (emb : Fin K → Fin R.length) (hemb : ∀ y, (emb y).val = y.val) (hK : K ≤ R.length) (ys : List (Fin K)) (k : Nat) (hk : k ≤ K) (h : ys.map (·.val) = List.range k) : picked R (ys.map emb) = R.take k := by
  have e : picked R (ys.map emb) = (ys.map (·.val)).map (fun i => R.getD i []) := by
    unfold picked
    rw [List.map_map, List.map_map]
    refine List.map_congr_left fun y _ => ?_
    show R[(emb y).val] = R.getD y.val []
    have hl := y.isLt
    rw [List.getD_eq_getElem?_getD, List.getElem?_eq_getElem (by omega), Option.getD_some]
    exact getElem_congr_idx (hemb y)
  rw [e, h]
  apply List.ext_getElem (by simp; omega)
  intro i h1 h2
  simp only [List.length_map, List.length_range] at h1
  rw [List.getElem_map, List.getElem_range, List.getElem_take, List.getD_eq_getElem?_getD, List.getElem?_eq_getElem (by omega), Option.getD_some]
theorem isBuilder_below {T e : TypeId} {B b : Nat} {cs : List Value} {w w' : World} (h : Lib.IsBuilder T e B b cs w) (hb : Below w.heap.size w w') : Lib.IsBuilder T e B b cs w' := by
  have key : ∀ p, Lib.BuilderAt T e B b p cs w → Lib.BuilderAt T e B b p cs w' := by
    rintro p ⟨hB, v, h1, h2, h3⟩
    have hl := (Array.getElem?_eq_some_iff.1 h1).1
    refine ⟨hB, v, (hb.block b hl).trans h1, ?_, h3⟩
    exact h2.kept (row := none) ⟨hb.os, hb.tape, hb.output, hb.size, fun k hk _ => hb.block k hk⟩ (by cases hv : v.ownBlock with | none => exact .inl rfl | some x => exact .inr (by simp))
  exact h.elim (fun x => .inl (key _ x)) (fun x => .inr (key _ x))
theorem round_any {F : Fence} (hr : ∀ k, F.room k) {n m : Nat} {P : Program} {l : Nat} {f : FuncId} {tmps : Array Value} {assign body : Code} {w : World} {R : Ending → World → Prop}
    (h : RoundIn F n P l f tmps assign body w R) : RoundIn F m P l f tmps assign body w R := ⟨h.1, fun c cs _ => h.2 c cs (hr _)⟩
theorem beh_next {B0 Bp : Nat} {w V W3 V' : World} {S V0s : Nat} (hS : B0 ≤ S) (h0' : S + 1 + 1 < V0s) (hs : V0s ≤ V.heap.size) (hBp : Bp < S) (hk : KeepB B0 [Bp] w V) (hc3 : Below V.heap.size V W3) (hkf : KeepsFrom S W3 V') (hst : StaysC S 3 W3 V') (hk3 : KeepB B0 [Bp] W3 V') :
    KeepsFrom V0s V V' ∧ (StaysC (V0s + 2) 0 V V' ∧ KeepB B0 [S + 1, S + 1 + 1] V V') ∧ KeepB B0 [Bp] w V' ∧ V0s ≤ V'.heap.size ∧ V'.heap[S]? = V.heap[S]? := by
  have h3 := hc3.size
  have key : ∀ g, S ≤ g → g < S + 3 → V'.heap[g]? = V.heap[g]? := fun g h1 h2 => (hst.2 g h1 h2 (by omega)).trans (hc3.block g (by omega))
  refine ⟨(keepsFrom_below hc3).trans (keepsFrom_later hkf (by omega)), ⟨StaysC.zero (Nat.le_trans h3 hst.1), ⟨(hc3.mono (by omega)).trans hk3.below, fun g hg => ?_⟩⟩, ?_, Nat.le_trans (Nat.le_trans hs h3) hst.1, key _ (Nat.le_refl _) (by omega)⟩
  · simp only [List.mem_cons, List.not_mem_nil, or_false] at hg
    exact key g (by omega) (by omega)
  · refine hk.trans (KeepB.trans ⟨hc3.mono (by omega), fun g hg => ?_⟩ hk3)
    obtain rfl : g = Bp := by simpa using hg
    exact hc3.block g (by omega)
theorem bool_post {e : Ending} {A B : Prop} (h : (e = .returned (.bool true) ∧ A) ∨ (e = .returned (.bool false) ∧ B)) : ∃ b, e = .returned (.bool b) ∧ ((b = true ∧ A) ∨ (b = false ∧ B)) := by
  rcases h with ⟨h, a⟩ | ⟨h, a⟩
  · exact ⟨true, h, .inl ⟨rfl, a⟩⟩
  · exact ⟨false, h, .inr ⟨rfl, a⟩⟩
theorem keepB_from {B B' Bp : Nat} {w0 X Y : World} {row : Option Nat} (hB : B ≤ B') (hbs : ∀ g ∈ [Bp], g < B') (hsz : Bp < w0.heap.size) (hw : B ≤ w0.heap.size) (hs : KeepB B [Bp] w0 X) (hy : X.grownBy Y row) (hr : ∀ r, row = some r → B' ≤ r ∧ ∃ o : Obj, X.heap[r]? = some o ∧ o.isCells = false) : KeepB B [Bp] w0 Y := by
  have h2 := hs.below.size
  have hp := hbs Bp (by simp)
  refine hs.trans ⟨⟨hy.os, hy.tape, hy.output, hy.size, fun k hk => hy.block k (by omega) (fun e => by have := (hr k e.symm).1; omega)⟩, fun g hg => ?_⟩
  obtain rfl : g = Bp := by simpa using hg
  exact hy.block g (by omega) (fun e => by have := (hr g e.symm).1; omega)
/-- The act in which a stretch's round begins. -/
def behAct (l Bp Y : Nat) (b off lt ct : Nat) (y : Fin ((lt + 15) / 16)) : Act :=
  { tmps := #[.func (.yield l) #[] #[], .pointer (some ⟨Bp, 0, none⟩), .pointer (some ⟨Y, 0, none⟩), .slice (some ⟨b, off + 16 * y.val, none⟩) (min 16 (lt - 16 * y.val)) (min 16 (lt - 16 * y.val)), undef, undef, undef, undef, undef,
      .pointer (some ⟨Bp, 0, none⟩), .slice (some ⟨b, off, none⟩) lt ct, .func (.func 214) #[] #[.pointer (some ⟨Y + 1, 0, none⟩), .pointer (some ⟨Y + 1 + 1, 0, none⟩)],
      .slice (some ⟨b, off + 16 * y.val, none⟩) (min 16 (lt - 16 * y.val)) (min 16 (lt - 16 * y.val)),
      undef, undef, undef, undef, undef, undef, undef, undef, undef, undef, undef, undef, undef, undef, undef, undef, undef, undef, undef, undef, undef, undef, undef, undef, undef, undef, undef], defers := [] }
set_option maxRecDepth 100000 in
set_option maxHeartbeats 2000000 in
theorem behind_stops (n : Nat) (hn : 3 ≤ n) (L : Pn) (p' q' : Pl) (ht1 : 1 ≤ L.targets.length) (ht : L.targets.length ≤ 24) (hd : L.data.length ≤ 1000000) (hok : ∀ x ∈ L.targets, sectorOk x = true) (R : List (List UInt8)) (hR : idxRows L.targets ++ L.data = R) (B0 Bp : Nat) (w : World) (h0 : B0 ≤ w.heap.size)
    (hLW : ∀ W, Below B0 w W → IsPn W L p' q') (bp : Blk w Bp 28 #[.slice p'.a L.targets.length p'.c, .slice q'.a L.data.length q'.c]) :
    SeqC 3 Fence.wide n Tryz.prog 190 #[.pointer (some ⟨Bp, 0, none⟩)] (rowEnc R) (KeepB B0 [Bp])
      (fun ys => picked R ys = R) (fun pre => ∃ m, m < R.length ∧ picked R pre = R.take (m + 1)) R.length w := by
  intro l J Jx W hW hJ hJx hY h0J
  have h1 : 1 ≤ n := by omega
  have HY := hid hY
  clear hY
  have hK := idxRows_count ht1 ht
  have kW : KeepB B0 [Bp] w W := KeepB.later hW h0 (fun g hg => by
    simp only [List.mem_cons, List.not_mem_nil, or_false] at hg
    rcases hg with rfl
    exact bp.lt)
  obtain ⟨B1, b1⟩ := p'
  obtain ⟨B2, b2⟩ := q'
  obtain ⟨tb, tt, te, -⟩ := (hLW W kW.below).targets.int (i := 0) (by omega)
  have te : B1 = some ⟨tb, tt, none⟩ := te
  subst te
  have in1 : Bp ∈ [Bp] := by simp
  have hpc : L.targets.length ≤ b1 := (hLW W kW.below).pc
  have hpm : b1 ≤ maxLen := (hLW W kW.below).pm
  have bW := (bp.at_ (kW.at_ _ in1))
  have hBpW := bW.lt
  have x0 := blk2 (bW.alloc (.cells #[.func (.yield l) #[] #[]] 242))
  have ya := Blk.new W 242 #[.func (.yield l) #[] #[]]
  refine callsIn_of_wp_marks Tryz.func190 rfl trivial ?_ rfl
  simp only [Tryz.ntmps190, List.size_toArray, List.length_cons, List.length_nil, Nat.reduceAdd, Nat.reduceSub, Array.replicate_succ, Array.replicate_zero, List.push_toArray, List.append_toArray, List.nil_append, List.cons_append]
  gi_wp2_with fail
  refine ⟨trivial, (chunk_in _ _ _ _ _).mono ?_⟩
  rintro e w' ⟨rfl, rfl⟩
  have yv := (ya.alloc (.cells #[.slice (some ⟨tb, tt, none⟩) L.targets.length b1] 23)).alloc (.cells #[.int .i64 16] 3)
  have bx1 := (blk_second W (.cells #[.func (.yield l) #[] #[]] 242) 23 #[.slice (some ⟨tb, tt, none⟩) L.targets.length b1]).alloc (.cells #[.int .i64 16] 3)
  have bx2 := Blk.new ((W.alloc (.cells #[.func (.yield l) #[] #[]] 242)).alloc (.cells #[.slice (some ⟨tb, tt, none⟩) L.targets.length b1] 23)) 3 #[.int .i64 16]
  simp only [World.size_alloc] at bx2
  have bV := ((((Below.refl W.heap.size W).alloc (Nat.le_refl _) (.cells #[.func (.yield l) #[] #[]] 242)).alloc (by simp) (.cells #[.slice (some ⟨tb, tt, none⟩) L.targets.length b1] 23)).alloc (by simp; omega) (.cells #[.int .i64 16] 3))
  gi_wp2_with fail
  have h0V := OwnFrom.later hJ h0J bV
  have kV : KeepB B0 [Bp] w (((W.alloc (.cells #[.func (.yield l) #[] #[]] 242)).alloc (.cells #[.slice (some ⟨tb, tt, none⟩) L.targets.length b1] 23)).alloc (.cells #[.int .i64 16] 3)) :=
    kW.trans (KeepB.later bV (Nat.le_trans h0 hW.size) (fun g hg => by
      simp only [List.mem_cons, List.not_mem_nil, or_false] at hg
      rcases hg with rfl
      exact hBpW))
  have hBsz : B0 ≤ W.heap.size := Nat.le_trans h0 hW.size
  generalize ((W.alloc (.cells #[.func (.yield l) #[] #[]] 242)).alloc (.cells #[.slice (some ⟨tb, tt, none⟩) L.targets.length b1] 23)).alloc (.cells #[.int .i64 16] 3) = V0 at *
  have hVs := bx2.lt
  have HR := hid hR
  have hRl : R.length = (L.targets.length + 15) / 16 + L.data.length := by rw [← hR, List.length_append, hK]
  have hRg : ∀ (y : Fin ((L.targets.length + 15) / 16)) (hy : y.val < R.length), R[y.val] = pad64 (nums ((L.targets.drop (16 * y.val)).take 16)) := fun y hy => by
    have h := idxRows_get ht1 ht (j := y.val) (by rw [hK]; exact y.isLt)
    rw [← h]
    subst hR
    rw [List.getElem_append_left]
  have hRd : ∀ m (hm : m < L.data.length) (hy : (L.targets.length + 15) / 16 + m < R.length), R[(L.targets.length + 15) / 16 + m] = L.data[m] := fun m hm hy => by
    subst hR
    rw [List.getElem_append_right (by omega)]
    congr 1; omega
  let emb : Fin ((L.targets.length + 15) / 16) → Fin R.length := fun y => ⟨y.val, by omega⟩
  have hemb : ∀ y, (emb y).val = y.val := fun _ => rfl
  have hpick := fun ys k hk h => picked_emb (R := R) (K := (L.targets.length + 15) / 16) emb hemb (by omega) ys k hk h
  clear_value emb
  refine range_c rfl h1 (gf := 214) (lb := #[.pointer (some ⟨W.heap.size + 1, 0, none⟩), .pointer (some ⟨W.heap.size + 1 + 1, 0, none⟩)]) rfl trivial (enters_of Tryz.func214 (by kernel_rfl) rfl)
    (chunk_stops (n - 1) (by omega) tb tt L.targets.length b1 (by omega) hpc hpm B0 (W.heap.size + 1) (W.heap.size + 1 + 1) V0 (by omega) bx1 bx2)
    KeepB.trans (fun W' l o o' q1 q2 q3 q4 => KeepB.putObj o' (by omega) (fun g hg => by
      simp only [List.mem_cons, List.not_mem_nil, or_false] at hg
      omega)) (Below.refl _ _) (fun _ => rfl)
    (fun pre V => J (pre.map emb) V ∧ Blk V W.heap.size 242 #[.func (.yield l) #[] #[]] ∧ KeepB B0 [Bp] w V ∧ V0.heap.size ≤ V.heap.size)
    (fun c pre V => c = .ret ∧ Jx (pre.map emb) V)
    ?hI ?hIx ⟨h0V, yv, kV, Nat.le_refl _⟩
    (fun y a' V => a' = behAct l Bp W.heap.size tb tt L.targets.length b1 y)
    (fun _ _ _ _ _ _ hs _ _ => hs) ?assign ?body ?done ?stop
  case hI =>
    rintro pre X Y row ⟨h1, h2, h3, h4⟩ hy hr
    exact ⟨hJ _ X Y row h1 hy (fun r e => ⟨by have := (hr r e).1; omega, (hr r e).2⟩), (Own.from (blk_own _ _ (fun _ : Unit => _)) _) () X Y row h2 hy hr,
      keepB_from (B' := V0.heap.size) (by omega) (fun g hg => by simp only [List.mem_cons, List.not_mem_nil, or_false] at hg; omega) bp.lt h0 h3 hy hr, Nat.le_trans h4 hy.size⟩
  case hIx =>
    rintro c pre X Y row ⟨h0, h1⟩ hy hr
    exact ⟨h0, hJx _ X Y row h1 hy (fun r e => ⟨by have := (hr r e).1; omega, (hr r e).2⟩)⟩
  case assign =>
    rintro l' pre y V K hI hK
    dsimp only [chEnc]
    gi_wp2
    exact hK _ _ (KeepsFrom.refl _ _) (StaysC.refl _ _ _) (KeepB.refl _ _ _) hI rfl
  case body =>
    rintro l' pre y a' V ⟨hj, hb1, hk, hs⟩ rfl hpl hVz
    have hyl := y.isLt
    have h2 : 1 ≤ n - 1 - 1 := by omega
    have hy2 : y.val < R.length := by omega
    obtain ⟨ch, hchl, hRy, hcell⟩ : ∃ ch : List Int, ch.length = min 16 (L.targets.length - 16 * y.val) ∧ R[y.val] = pad64 (nums ch) ∧ ∀ k (hk' : k < ch.length), V.cell? ⟨tb, tt + 16 * y.val + k, none⟩ = some (.int .i64 ch[k]) ∧ sectorOk ch[k] = true := by
      refine ⟨(L.targets.drop (16 * y.val)).take 16, by rw [List.length_take, List.length_drop], hRg y hy2, fun k hk' => ?_⟩
      rw [List.length_take, List.length_drop] at hk'
      obtain ⟨b', o', e', ct⟩ := (hLW V hk.below).targets.int (i := 0) (by omega)
      have e' : (some ⟨tb, tt, none⟩ : Option Addr) = some ⟨b', o', none⟩ := e'
      obtain ⟨rfl, rfl⟩ : tb = b' ∧ tt = o' := by injection e' with e'; injection e' with e1 e2; exact ⟨e1, e2⟩
      have hi : 16 * y.val + k < L.targets.length := by omega
      have := ct (16 * y.val + k) hi
      have e : ((L.targets.drop (16 * y.val)).take 16)[k]'(by rw [List.length_take, List.length_drop]; exact hk') = L.targets[16 * y.val + k] := by rw [List.getElem_take, List.getElem_drop]
      rw [e, Nat.add_assoc]
      exact ⟨this, hok _ (List.getElem_mem hi)⟩
    have hRe := hid (show R[(emb y).val] = pad64 (nums ch) from (getElem_congr_idx (hemb y)).trans hRy)
    have hpl2 : (pre.map emb).length < R.length := by rw [List.length_map]; omega
    clear hRy
    unfold behAct
    rw [← hchl]
    have hq16 : ch.length ≤ 16 := by rw [hchl]; omega
    generalize 16 * y.val = ofs at *
    clear hchl hRg
    have hbl := Lib.fresh_isBuilder 231 5 V
    have hbV := (Below.refl V.heap.size V).alloc (Nat.le_refl _) (.cells #[.pointer none, .slice none 0 0] 231)
    have Hz := hid (hpick (pre ++ [y]))
    gi_wp2_with fail
    generalize V.alloc (.cells #[.pointer none, .slice none 0 0] 231) = V1 at *
    gi_loopw [15] (fun x V' => ∃ k : Nat, k ≤ ch.length ∧ x = .int .i64 k ∧ Hid (Lib.IsBuilder 231 5 V.heap.size V.heap.size (Lib.byteCells (nums (ch.take k))) V') ∧ Hid (Below V.heap.size V V')) (fun x _ => ch.length - (intOf x).toNat)
    case atStart => exact ⟨0, Nat.zero_le _, rfl, hid hbl, hid hbV⟩
    case round =>
      obtain ⟨k, hk2, rfl, hB1, hbV1⟩ := hrel
      by_cases hlt : k < ch.length
      · obtain ⟨cc, hok2⟩ := hcell k hlt
        have cc := cell_below hbV1.out cc
        have hx0 : 0 ≤ ch[k] ∧ ch[k] < 1024 := by simpa [sectorOk] using hok2
        have hnx := hid (nums_snoc (ch.take k) ch[k])
        have htk := hid (List.take_succ_eq_append_getElem hlt)
        generalize ch[k] = x at *
        obtain ⟨x, rfl⟩ := Int.eq_ofNat_of_zero_le hx0.1
        have hnum : ∀ W, Calls Tryz.prog 134 #[.int .i64 x, .int .i64 4] W fun e w' => e = .returned (.string (bs (be 4 x))) ∧ Below W.heap.size W w' := fun W => tx_num_i x (by omega) 4 (by omega) (by omega) W
        have hlen : (nums (ch.take k)).length ≤ 64 := by rw [nums_length, List.length_take]; omega
        clear hok2 hcell
        gi_wp2_with fail
        refine ⟨trivial, (CallsIn.inRound l' (callsIn_wide.2 (hnum _))).mono ?_⟩
        rintro e W2 ⟨rfl, hb2⟩
        have hB2 : Lib.IsBuilder 231 5 V.heap.size V.heap.size (Lib.byteCells (nums (ch.take k))) W2 := isBuilder_below hB1.out hb2
        gi_wp2_with fail
        refine ⟨trivial, (CallsIn.inRound l' (callsIn_wide.2 (bld_write _ _ _ _ _ hB2 (by rw [be_length]; omega) (Nat.le_trans hbV1.out.size hb2.size)))).mono ?_⟩
        rintro e W3 ⟨rfl, hB3, hb3⟩
        gi_wp2
        go_roundw
        case rel => exact ⟨k + 1, by omega, by go_num, hid (by rw [htk.out, hnx.out]; exact hB3), hid ((hbV1.out.trans (hb2.mono hbV1.out.size)).trans hb3)⟩
        case measure => simp [intOf]; omega
      · obtain rfl : k = ch.length := by omega
        have hB9 := hB1.out
        rw [List.take_length] at hB9
        have hB9 : Lib.IsBuilder 231 5 V.heap.size V.heap.size (Lib.byteCells (nums ch)) wr.drew := isBuilder_below hB9 (Below.refl _ _).drew
        have hb9 : Below V.heap.size V wr.drew := hbV1.out.trans (((Below.refl _ _).drew : Below wr.heap.size wr wr.drew).mono hbV1.out.size)
        have hl64 : (nums ch).length ≤ 64 := by rw [nums_length]; omega
        have yb := hb1.below hb9 hb1.lt
        have yb1 := blk1 yb
        have hmx : Tryz.prog.follows .mixedOrders = true := by kernel_rfl
        have hst := Tryz.Builder_String_any V.heap.size V.heap.size (nums ch) wr.drew hB9 hb9.size
        have hpd := fun W => tx_pad (nums ch) hl64 W
        clear hB1 hbV1 hB9 hcell hbl hbV
        have hyA : ∀ W3, Below V.heap.size V W3 → ∃ fn tmps assign body, (Instr.yield l #[.string (bs (pad64 (nums ch)))]).run Tryz.prog W3 = .ok (.round l fn tmps assign body) W3 ∧ RoundIn (Fence.wide.inRound l') (n - 1 - 1 - 1) Tryz.prog l fn tmps assign body W3 (fun e V' => ∃ b, e = .returned (.bool b) ∧ ((b = true ∧ J (pre.map emb ++ [emb y]) V' ∧ KeepsFrom W.heap.size W3 V' ∧ StaysC W.heap.size 3 W3 V' ∧ KeepB B0 [Bp] W3 V') ∨ (b = false ∧ Jx (pre.map emb ++ [emb y]) V' ∧ KeepsFrom W.heap.size W3 V'))) := fun W3 hb3 => by
          obtain ⟨fn, tmps, assign, body, hy, hR⟩ := HY.out (pre.map emb) (emb y) W3 (OwnFrom.later hJ hj hb3) hpl2 (by have := hb3.size; omega)
          simp only [rowEnc, hRe.out] at hy
          exact ⟨fn, tmps, assign, body, hy, RoundIn.mono (round_any (F := Fence.wide) (fun k d hd => by cases hd) hR) fun e V' h => bool_post h⟩
        generalize hVd : wr.drew = Vd at *
        gi_wp2_with fail
        gi_region_with_o (first
          | (refine ⟨trivial, (CallsIn.inRound l' (callsIn_wide.2 hst)).mono ?_⟩; rintro e W2 ⟨rfl, hb2⟩; have yb2 := blk1 (yb.below hb2 hb1.lt); have hc2 := hb9.trans hb2)
          | (refine ⟨trivial, (CallsIn.inRound l' (callsIn_wide.2 (hpd _))).mono ?_⟩; rintro e W3 ⟨rfl, hb3⟩; have hc3 := hc2.trans (hb3.mono hc2.size); have yb3 := blk1 (hb1.below hc3 hb1.lt); obtain ⟨fn, tmps, assign, body, hy, hRR⟩ := hyA W3 hc3)
          | (refine RoundIn.mono hRR ?_; rintro e V' ⟨b, rfl, hpost⟩))
        all_goals
          clear hyA hst hpd hRR hy
          rcases hpost with ⟨rfl, hJ3, hkf, hst, hk3⟩ | ⟨rfl, hJx3, hkf⟩
          · gi_wp2
            obtain ⟨m1, m2, m3, m4, m5⟩ := beh_next (S := W.heap.size) (V0s := V0.heap.size) hBsz hVs hs hBpW hk hc3 hkf hst hk3
            exact ⟨m1, m2, by rw [List.map_append]; exact hJ3, hb1.at_ m5, m3, m4⟩
          · gi_wp2
            exact ⟨(keepsFrom_below hc3).trans (keepsFrom_later hkf (by omega)), rfl, by rw [List.map_append]; exact hJx3⟩
  case done =>
    rintro Dd ys V hDd hS ⟨hj, hb1, hk, hs⟩ hK
    have HpR := hid (hpick ys _ (Nat.le_refl _) hS)
    have hlp : (ys.map emb).length = (L.targets.length + 15) / 16 := by
      rw [List.length_map]; have := congrArg List.length hS; simpa using this
    generalize ys.map emb = zs at *
    have x0 := blk2 (bp.at_ (hk.at_ _ in1))
    have hDl := (Array.getElem?_eq_some_iff.1 hK).1
    have hqc : L.data.length ≤ b2 := (hLW W kW.below).qc
    have hqm : b2 ≤ maxLen := (hLW W kW.below).qm
    unfold maxLen at hqm
    have h2 : 1 ≤ n - 1 := by omega
    clear hS hpick hRg bx1 bx2 h0V yv kV
    gi_wp2
    gi_loopw [31] (fun x V' => ∃ m : Nat, m ≤ L.data.length ∧ x = .int .i64 m ∧ (∃ pr, pr.length = (L.targets.length + 15) / 16 + m ∧ Hid (picked R pr = R.take ((L.targets.length + 15) / 16 + m)) ∧ J pr V') ∧ Blk V' W.heap.size 242 #[.func (.yield l) #[] #[]] ∧ KeepB B0 [Bp] w V' ∧ V'.heap[Dd]? = some (.deferred (some [])) ∧ Hid (V0.heap.size ≤ V'.heap.size)) (fun x _ => L.data.length - (intOf x).toNat)
    case atStart => exact ⟨0, Nat.zero_le _, rfl, ⟨zs, hlp, HpR, hj⟩, hb1, hk, hK, hid hs⟩
    case round =>
      obtain ⟨m, hm, rfl, ⟨pr, hpl, hpm, hJm⟩, hb2, hk2, hK2, hsz⟩ := hrel
      have Hpl := hid hpl
      clear hpl x0 hj hb1 hk hK HpR hlp
      by_cases hlt : m < L.data.length
      · have hP := hLW wr hk2.below
        obtain ⟨c2, o2, e2, cs⟩ := hP.data.str hlt
        have e2' : B2 = some ⟨c2, o2, none⟩ := e2
        subst e2'
        have cs := cs m hlt
        have hz : (L.targets.length + 15) / 16 + m < R.length := by omega
        have Hze := hid (hRd m hlt hz)
        have Hz := hid (picked_next R pr _ hz hpm.out)
        have yb := blk1 hb2
        obtain ⟨fn, tmps, assign, body, hy, hR⟩ := HY.out pr ⟨_, hz⟩ wr hJm (by rw [Hpl.out]; exact hz) (by have := hsz.out; omega)
        simp only [rowEnc, Hze.out] at hy
        clear hP e2 hJm
        gi_wp2
        refine hR.mono ?_
        rintro e W3 (⟨rfl, hJ3, hkf, hst, hk3⟩ | ⟨rfl, hJx3, hkf⟩)
        · have HJ3 := hid hJ3
          clear hJ3
          have hwl := hb2.lt
          have hDl2 := (Array.getElem?_eq_some_iff.1 hK2).1
          gi_wp2
          go_roundw
          case rel => exact ⟨m + 1, by omega, by go_num, ⟨_, by rw [List.length_append, Hpl.out]; rfl, Hz, HJ3.out⟩, hb2.at_ (hst.2 _ (Nat.le_refl _) (by omega) hwl), hk2.trans hk3, hkf.same Dd _ (by omega) hK2 rfl, hid (Nat.le_trans hsz.out hst.1)⟩
          case measure => simp [intOf]; omega
        · have hK3 := hkf.same Dd _ (by omega) hK2 rfl
          gi_wp2
          refine ⟨by simp, .inl ⟨_, _, rfl, run_takeDeferred hK3, ?_⟩⟩
          exact ⟨_, results_none rfl _ _ _, ⟨_, rfl⟩, .inr ⟨_, ⟨_, hz, Hz.out⟩, hJx.putObj _ hJx3 (by omega) hK3 rfl⟩⟩
      · obtain rfl : m = L.data.length := by omega
        gi_wp2
        refine ⟨by simp, .inl ⟨_, _, rfl, run_takeDeferred hK2, ?_⟩⟩
        exact ⟨_, results_none rfl _ _ _, ⟨_, rfl⟩, .inl ⟨pr, by rw [hpm.out, ← hRl, List.take_length], hJ.putObj _ hJm (by omega) hK2 rfl⟩⟩
  case stop =>
    rintro Dd c pre V hDd ⟨m, hm, hpm⟩ ⟨rfl, hj⟩ hK
    gi_wp2
    refine ⟨by simp, .inl ⟨_, _, rfl, run_takeDeferred hK, ?_⟩⟩
    exact ⟨_, results_none rfl _ _ _, ⟨_, rfl⟩, .inr ⟨_, ⟨m, by omega, hpick pre (m + 1) (by omega) hpm⟩, hJx.putObj _ hj (by omega) hK rfl⟩⟩
end Go.Proofs.YtplgmlcoeehnfaaGreat
