/- Package cofferdamlaw12: do counts say how often clusters are reached? -/
import Derived.Test.YtplgmlcoeehnfaaGreatPuPointsD
import Derived.Test.YtplgmlcoeehnfaaGreatPuTellsLaw
set_option linter.unusedVariables false
namespace Go.Proofs.YtplgmlcoeehnfaaGreat
open Go.RowKit Go.Shelf
attribute [local go_sem] bs_mk bs_append bs_extract bs_size bs_toList bs_get
namespace Pn
variable {D : Dk} {L : Pn}
open Classical in
noncomputable def countedB (D : Dk) (L : Pn) (a b : Int) : Bool := decide (Counted D L a b ∧ (cntAll D L 256).2 = 0)
theorem countedB_no {a b : Int} (h : ¬ (Counted D L a b ∧ (cntAll D L 256).2 = 0)) : countedB D L a b = false := by simp [countedB, h]
theorem countedB_yes {a b : Int} (h : Counted D L a b ∧ (cntAll D L 256).2 = 0) : countedB D L a b = true := by simp [countedB, h]
open Classical in
theorem countedB_is {a b : Int} (h : countedB D L a b = true) : Counted D L a b := by
  simp only [countedB, decide_eq_true_eq] at h
  exact h.1
def wZ : List Int := List.replicate 256 0
def wRow (D : Dk) (L : Pn) (a b : Int) : Nat → List Int
  | 0 => []
  | 1 => a :: (ptReach D L a).1
  | _ => (a :: (ptReach D L a).1) ++ (b :: (ptReach D L b).1)
def wVal (a b : Int) : Nat → Int
  | 0 => a
  | _ => b
theorem wRow_next {a b : Int} {i : Nat} (hi : i < 2) : wRow D L a b (i + 1) = wRow D L a b i ++ (wVal a b i :: (ptReach D L (wVal a b i)).1) := by
  rcases (show i = 0 ∨ i = 1 by omega) with rfl | rfl <;> rfl
theorem wRow_in {a b : Int} {i : Nat} (hi : i ≤ 2) (h : ∀ j, j < i → 0 ≤ wVal a b j ∧ wVal a b j < 256) : (∀ k ∈ wRow D L a b i, 0 ≤ k ∧ k < 256) ∧ (wRow D L a b i).length ≤ 69 * i := by
  induction i with
  | zero => exact ⟨fun k (hk : k ∈ ([] : List Int)) => (nomatch hk), Nat.zero_le _⟩
  | succ i ih =>
    obtain ⟨h1, h2⟩ := ih (by omega) fun j hj => h j (by omega)
    have hs := ptReach_small (D := D) (L := L) (wVal a b i)
    rw [wRow_next (by omega)]
    refine ⟨fun k hk => ?_, ?_⟩
    · rcases List.mem_append.1 hk with hk | hk
      · exact h1 k hk
      · rcases List.mem_cons.1 hk with rfl | hk
        · exact h i (by omega)
        · exact hs.1 k hk
    · rw [List.length_append, List.length_cons]
      omega
theorem wZ_length : wZ.length = 256 := List.length_replicate
theorem wZ_get (k : Nat) : wZ.getD k 0 = 0 := by
  rw [wZ, List.getD_eq_getElem?_getD, List.getElem?_replicate]
  split <;> rfl
theorem want_row {a b : Int} (h : ∀ j, j < 2 → 0 ≤ wVal a b j ∧ wVal a b j < 256) (k : Nat) (hk : k < 256) : (bump 1 wZ (wRow D L a b 2)).getD k 0 = wantOf D L a b k := by
  have hb := bump_get 1 (wRow D L a b 2) wZ (fun x hx => by rw [wZ_length]; exact (wRow_in (D := D) (L := L) (Nat.le_refl 2) h).1 x hx) k
  rw [List.getD_eq_getElem?_getD, hb]
  have hz := wZ_get k
  rw [List.getD_eq_getElem?_getD, List.getElem?_eq_getElem (by rw [wZ_length]; exact hk)] at hz
  rw [List.getElem?_eq_getElem (by rw [wZ_length]; exact hk)]
  simp only [Option.getD_some, Option.map_some] at hz ⊢
  rw [hz, show wRow D L a b 2 = (a :: (ptReach D L a).1) ++ (b :: (ptReach D L b).1) from rfl, times_append, times_cons, times_cons]
  unfold wantOf
  have e1 : (if a = (k : Int) then (1 : Int) else 0) = if (k : Int) = a then 1 else 0 := by split <;> split <;> omega
  have e2 : (if b = (k : Int) then (1 : Int) else 0) = if (k : Int) = b then 1 else 0 := by split <;> split <;> omega
  rw [e1, e2]
  omega
end Pn
/-- A row of numbers that stands in memory. -/
structure RowK (W : World) (g : Nat) (l : List Int) : Prop where
  row : RowI W g l
  lt : g < W.heap.size
theorem RowK.below {W W' : World} {g : Nat} {l : List Int} (h : RowK W g l) (hb : Below W.heap.size W W') : RowK W' g l := ⟨h.row.below hb h.lt, Nat.lt_of_lt_of_le h.lt hb.size⟩
theorem RowK.set {W : World} {g : Nat} {l : List Int} (h : RowK W g l) (o : Nat) (x : Int) (ho : o < l.length) : RowK (W.setCell ⟨g, o, none⟩ (.int .i64 x)) g (l.set o x) := ⟨h.row.set o x ho, by rw [World.size_setCell]; exact h.lt⟩
theorem rowK_zero (W : World) (t : TypeId) : RowK (W.alloc (.cells (Array.replicate 256 (Value.int .i64 0)) t)) W.heap.size Pn.wZ := ⟨fun j hj => by
  have hb := Blk.new W t (Array.replicate 256 (Value.int .i64 0))
  rw [Pn.wZ_length] at hj
  refine ⟨(hb.cell j).trans ?_, hb.frozen j⟩
  have h2 : Pn.wZ[j]'(by rw [Pn.wZ_length]; exact hj) = 0 := List.getElem_replicate _
  rw [h2, Array.getElem?_replicate, if_pos hj], by simp⟩
theorem Tryz.want_zero : Tryz.zeroCells125 = Array.replicate 256 (Value.int .i64 0) := by kernel_rfl
theorem Tryz.rowK_want {W : World} {g : Nat} {t : TypeId} {cs : Array Value} (h : Blk (W.alloc (.cells Tryz.zeroCells125 125)) g t cs) : RowK (W.alloc (.cells Tryz.zeroCells125 125)) W.heap.size Pn.wZ := by
  rw [Tryz.want_zero]
  exact rowK_zero W 125
set_option maxRecDepth 100000 in
set_option maxHeartbeats 2000000 in
theorem counted12 (D : Dk) (L : Pn) (p q p' q' : Pl) (w : World) (hD : IsDk w D p q) (hL : IsPn w L p' q') (hf : D.fit = true) (hfl : L.Fit) (a b : Int) :
    Calls Tryz.prog 20 #[dval D p q, pval L p' q', .int .i64 a, .int .i64 b] w fun e w' => e = .returned (.bool (Pn.countedB D L a b)) ∧ Below w.heap.size w w' := by
  have h1 := fun (W : World) (hb : Below w.heap.size w W) (x : Int) => r12_reach D L p q p' q' W (hD.below hb) (hL.below hb) hf hfl x
  have h2 := fun (W : World) (hb : Below w.heap.size w W) => r8_all D L p q p' q' W (hD.below hb) (hL.below hb) hf hfl 256
  clear hD hL hf hfl
  obtain ⟨A1, a1⟩ := p
  obtain ⟨A2, a2⟩ := q
  obtain ⟨B1, b1⟩ := p'
  obtain ⟨B2, b2⟩ := q'
  have hB := Below.refl w.heap.size w
  have x := Blk.new w 25 #[.string (bs D.data), .slice A1 D.cache.length a1, .int .i64 D.fuse, .bool D.off, .slice A2 D.bad.length a2]
  have xk := blk5 x
  have hB_1 := hB.alloc hB.size (.cells #[.string (bs D.data), .slice A1 D.cache.length a1, .int .i64 D.fuse, .bool D.off, .slice A2 D.bad.length a2] 25)
  have z := Blk.new (w.alloc (.cells #[.string (bs D.data), .slice A1 D.cache.length a1, .int .i64 D.fuse, .bool D.off, .slice A2 D.bad.length a2] 25)) 28 #[.slice B1 L.targets.length b1, .slice B2 L.data.length b2]
  simp only [World.size_alloc] at z
  have zk := blk2 z
  have hB_2 := hB_1.alloc hB_1.size (.cells #[.slice B1 L.targets.length b1, .slice B2 L.data.length b2] 28)
  have x_3 := x.alloc (.cells #[.slice B1 L.targets.length b1, .slice B2 L.data.length b2] 28)
  have xk_3 := blk5 x_3
  have hB_4 := hB_2.alloc hB_2.size (.cells Tryz.zeroCells125 125)
  have x_5 := x_3.alloc (.cells Tryz.zeroCells125 125)
  have xk_5 := blk5 x_5
  have z_6 := z.alloc (.cells Tryz.zeroCells125 125)
  have zk_6 := blk2 z_6
  have row := Tryz.rowK_want x_5
  simp only [World.size_alloc] at row
  have y := Blk.new (((w.alloc (.cells #[.string (bs D.data), .slice A1 D.cache.length a1, .int .i64 D.fuse, .bool D.off, .slice A2 D.bad.length a2] 25)).alloc (.cells #[.slice B1 L.targets.length b1, .slice B2 L.data.length b2] 28)).alloc (.cells Tryz.zeroCells125 125)) 3 #[.int .i64 a, .int .i64 b]
  simp only [World.size_alloc] at y
  have yk := blk2 y
  have hB_7 := hB_4.alloc hB_4.size (.cells #[.int .i64 a, .int .i64 b] 3)
  have x_8 := x_5.alloc (.cells #[.int .i64 a, .int .i64 b] 3)
  have xk_8 := blk5 x_8
  have z_9 := z_6.alloc (.cells #[.int .i64 a, .int .i64 b] 3)
  have zk_9 := blk2 z_9
  have row_10 := row.below ((Below.refl _ _).alloc (Nat.le_refl _) (.cells #[.int .i64 a, .int .i64 b] 3))
  go_enter Tryz.func20, Tryz.ntmps20
  go_wp2_with fail
  generalize ((((w.alloc (.cells #[.string (bs D.data), .slice A1 D.cache.length a1, .int .i64 D.fuse, .bool D.off, .slice A2 D.bad.length a2] 25)).alloc (.cells #[.slice B1 L.targets.length b1, .slice B2 L.data.length b2] 28)).alloc (.cells Tryz.zeroCells125 125)).alloc (.cells #[.int .i64 a, .int .i64 b] 3)) = V at hB_7 x_8 xk_8 z_9 zk_9 row_10 y yk ⊢
  clear hB_1 hB_2 xk_3 x_3 hB_4 xk_5 x_5 zk_6 z_6 hB x z row xk zk
  have hB := hB_7
  have x := x_8
  have xk := xk_8
  have z := z_9
  have zk := zk_9
  have row := row_10
  clear hB_7 x_8 xk_8 z_9 zk_9 row_10
  go_loopw [23] (fun k W => ∃ i : Nat, i ≤ 2 ∧ k = .int .i64 i ∧ Hid (∀ j, j < i → (Pn.ptReach D L (Pn.wVal a b j)).2 = 0 ∧ 0 ≤ Pn.wVal a b j ∧ Pn.wVal a b j < 256) ∧ Blk W w.heap.size 25 #[.string (bs D.data), .slice A1 D.cache.length a1, .int .i64 D.fuse, .bool D.off, .slice A2 D.bad.length a2] ∧
    Blk W (w.heap.size + 1) 28 #[.slice B1 L.targets.length b1, .slice B2 L.data.length b2] ∧ Blk W (w.heap.size + 1 + 1 + 1) 3 #[.int .i64 a, .int .i64 b] ∧ RowK W (w.heap.size + 1 + 1) (bump 1 Pn.wZ (Pn.wRow D L a b i)) ∧ Below w.heap.size w W) (fun k _ => 2 - (intOf k).toNat)
  case atStart => exact ⟨0, by omega, rfl, hid (fun j hj => by omega), x, z, y, row, hB⟩
  case round =>
    clear x xk z zk y yk row hB
    obtain ⟨i, hi, rfl, hok, x, z, y, row, hB⟩ := hrel
    by_cases hlt : i < 2
    · have hv : wr.cell? ⟨w.heap.size + 1 + 1 + 1, i, none⟩ = some (.int .i64 (Pn.wVal a b i)) := by
        rcases (show i = 0 ∨ i = 1 by omega) with rfl | rfl
        · exact y.cell 0
        · exact y.cell 1
      have Hn := hid (Pn.wRow_next (D := D) (L := L) (a := a) (b := b) hlt)
      have hst := Pn.ptReach_small (D := D) (L := L) (Pn.wVal a b i)
      have hcon := fun (W : World) (hb : Below w.heap.size w W) => h1 W hb (Pn.wVal a b i)
      have hno : ¬ ((Pn.ptReach D L (Pn.wVal a b i)).2 = 0 ∧ 0 ≤ Pn.wVal a b i ∧ Pn.wVal a b i < 256) → Pn.countedB D L a b = false := fun hn => Pn.countedB_no fun hc => hn (by
        rcases (show i = 0 ∨ i = 1 by omega) with rfl | rfl
        · exact ⟨hc.1.ra, hc.1.ia⟩
        · exact ⟨hc.1.rb, hc.1.ib⟩)
      have hin := Pn.wRow_in (D := D) (L := L) (a := a) (b := b) hi (fun j hj => (hok.out j hj).2)
      generalize hvv : Pn.wVal a b i = v at *
      generalize hrr : Pn.ptReach D L v = S at *
      obtain ⟨R, er⟩ := S
      simp only at hst hcon hno Hn
      have Hno := hid hno
      have Hok := hid (show er = 0 → 0 ≤ v → v < 256 → ∀ j, j < i + 1 → (Pn.ptReach D L (Pn.wVal a b j)).2 = 0 ∧ 0 ≤ Pn.wVal a b j ∧ Pn.wVal a b j < 256 from fun e0 e1 e2 j hj => by
        rcases Nat.lt_or_eq_of_le (Nat.le_of_lt_succ hj) with hj | rfl
        · exact hok.out j hj
        · rw [hvv, hrr]; exact ⟨e0, e1, e2⟩)
      have HR := hid hst
      generalize hp2 : Pn.wRow D L a b (i + 1) = P2 at Hn
      have Hp2 := hid hp2
      clear hp2
      generalize Pn.wRow D L a b i = P at *
      clear hst hno hrr hvv hok
      have xk := blk5 x
      have zk := blk2 z
      have yk := blk2 y
      have hr2 := row.lt
      go_wp2_with fail
      go_at_call 26
      refine ((hcon _ hB)).mono ?_
      rintro e w2 ⟨⟨u, rfl, own1⟩, hb2⟩
      replace hB := bt hB hb2
      replace x := x.below hb2 x.lt
      replace xk := blk5 x
      replace z := z.below hb2 z.lt
      replace zk := blk2 z
      replace y := y.below hb2 y.lt
      replace yk := blk2 y
      replace row := row.below hb2
      obtain ⟨C1, c1, rfl, _⟩ := own_slice own1
      have hC1 : R = [] ∨ ∃ gR, C1 = some ⟨gR, 0, none⟩ ∧ gR ≠ w.heap.size + 1 + 1 ∧ RowK w2 gR R := by
        by_cases hne : R = []
        · exact .inl hne
        · obtain ⟨gR, cR, e, r0, r1, _, _, _, r2⟩ := own_rowI own1 hne
          injection e with e1 e2 e3
          exact .inr ⟨gR, e1, by omega, ⟨r2, r1⟩⟩
      have hC := hid hC1
      clear own1 hC1
      by_cases e0 : er = 0
      · subst e0
        by_cases e1 : v < 0
        · have d1 : decide (v < 0) = true := by simpa using e1
          have hz := hid (Hno.out (by omega))
          clear e1
          go_wp2_with fail
          go_ret
          exact ⟨by rw [hz.out]; rfl, hB⟩
        · have d1 : decide (v < 0) = false := by simpa using e1
          by_cases e2 : 256 ≤ v
          · have d2 : decide (256 ≤ v) = true := by simpa using e2
            have hz := hid (Hno.out (by omega))
            clear e1 e2
            go_wp2_with fail
            go_ret
            exact ⟨by rw [hz.out]; rfl, hB⟩
          · have d2 : decide (256 ≤ v) = false := by simpa using e2
            have Hk := hid (Hok.out rfl (by omega) (by omega))
            obtain ⟨n, rfl⟩ := Int.eq_ofNat_of_zero_le (show 0 ≤ v by omega)
            have hn : n < 256 := by omega
            clear e1 e2 Hno Hok hcon
            have hPl : P.length ≤ 140 := by have := hin.2; omega
            have hPi : ∀ k ∈ P, 0 ≤ k ∧ k < (256 : Int) := hin.1
            have hRi := HR.out.1
            have hRl := HR.out.2
            have hQi : ∀ j, ∀ k ∈ P ++ [(n : Int)] ++ R.take j, 0 ≤ k ∧ k < (Pn.wZ.length : Int) := fun j k hk => by
              rw [Pn.wZ_length]
              rcases List.mem_append.1 hk with hk | hk
              · rcases List.mem_append.1 hk with hk | hk
                · exact hPi k hk
                · rw [List.mem_singleton.1 hk]; omega
              · exact hRi k (List.mem_of_mem_take hk)
            have hQs : ∀ j m, (bump 1 Pn.wZ (P ++ [(n : Int)] ++ R.take j)).getD m 0 ≤ 200000 ∧ -200000 ≤ (bump 1 Pn.wZ (P ++ [(n : Int)] ++ R.take j)).getD m 0 := fun j m => by
              have := bump_small (b := 1) (U := Pn.wZ) (l := P ++ [(n : Int)] ++ R.take j) (by omega) (hQi j) (fun x hx => by rw [List.eq_of_mem_replicate hx]; omega) (by simp; omega) m
              omega
            have hPs := bump_small (b := 1) (U := Pn.wZ) (l := P) (by omega) (fun k hk => by rw [Pn.wZ_length]; exact hPi k hk) (fun x hx => by rw [List.eq_of_mem_replicate hx]; omega) (by omega) n
            have hQ0 : bump 1 Pn.wZ (P ++ [(n : Int)] ++ R.take 0) = (bump 1 Pn.wZ P).set n ((bump 1 Pn.wZ P).getD n 0 + 1) := by
              rw [List.take_zero, List.append_nil, bump_snoc, Int.toNat_natCast]
            have hQn : ∀ j (hj : j < R.length), bump 1 Pn.wZ (P ++ [(n : Int)] ++ R.take (j + 1)) = (bump 1 Pn.wZ (P ++ [(n : Int)] ++ R.take j)).set R[j].toNat ((bump 1 Pn.wZ (P ++ [(n : Int)] ++ R.take j)).getD R[j].toNat 0 + 1) := fun j hj => by
              rw [List.take_succ_eq_append_getElem hj, ← List.append_assoc, bump_snoc]
            have hlen : ∀ l, (bump 1 Pn.wZ l).length = 256 := fun l => by rw [bump_length, Pn.wZ_length]
            have hP2 : P2 = P ++ [(n : Int)] ++ R.take R.length := by rw [Hn.out, List.take_length, List.append_assoc]; rfl
            have HP := hid hP2
            have HQn := hid hQn
            have HQs := hid hQs
            have Hlen := hid hlen
            have HRi := hid hRi
            have HRl := hid hRl
            obtain ⟨c0, f0⟩ := (row).row n (by rw [hlen]; exact hn)
            have row1 := (row).set n ((bump 1 Pn.wZ P).getD n 0 + 1) (by rw [hlen]; exact hn)
            rw [← hQ0] at row1
            have e3 : (bump 1 Pn.wZ P)[n]'(by rw [hlen]; exact hn) = (bump 1 Pn.wZ P).getD n 0 := by rw [List.getD_eq_getElem?_getD, List.getElem?_eq_getElem (by rw [hlen]; exact hn)]; rfl
            rw [e3] at c0
            generalize (bump 1 Pn.wZ P).getD n 0 = t0 at c0 row1 hPs
            have hw0 : IntKind.i64.wrap (t0 + 1) = t0 + 1 := i64w (by omega)
            have x1 := (x).other (a := ⟨w.heap.size + 1 + 1, n, none⟩) (by show _ ≠ w.heap.size + 1 + 1; omega) (.int .i64 (t0 + 1))
            have z1 := (z).other (a := ⟨w.heap.size + 1 + 1, n, none⟩) (by show _ ≠ w.heap.size + 1 + 1; omega) (.int .i64 (t0 + 1))
            have y1 := (y).other (a := ⟨w.heap.size + 1 + 1, n, none⟩) (by show _ ≠ w.heap.size + 1 + 1; omega) (.int .i64 (t0 + 1))
            have hB1 := (hB).setCell (p := ⟨w.heap.size + 1 + 1, n, none⟩) (show w.heap.size ≤ w.heap.size + 1 + 1 by omega) (.int .i64 (t0 + 1))
            have hC1 : R = [] ∨ ∃ gR, C1 = some ⟨gR, 0, none⟩ ∧ gR ≠ w.heap.size + 1 + 1 ∧ RowK (w2.setCell ⟨w.heap.size + 1 + 1, n, none⟩ (.int .i64 (t0 + 1))) gR R := by
              rcases hC.out with h | ⟨gR, h1, h2, h3⟩
              · exact .inl h
              · exact .inr ⟨gR, h1, h2, h3.row.other h2 _, by rw [World.size_setCell]; exact h3.lt⟩
            have HC1 := hid hC1
            clear e3 hQ0 hQn hQs hlen hP2 hRi hPl hPi hQi hin Hn HR hC hC1 hRl hPs
            go_wp2_with fail
            generalize w2.setCell ⟨w.heap.size + 1 + 1, n, none⟩ (.int .i64 (t0 + 1)) = V1 at x1 z1 y1 hB1 row1 HC1 ⊢
            go_loopw [51] (fun k W => ∃ j : Nat, j ≤ R.length ∧ k = .int .i64 j ∧ Hid (R = [] ∨ ∃ gR, C1 = some ⟨gR, 0, none⟩ ∧ gR ≠ w.heap.size + 1 + 1 ∧ RowK W gR R) ∧ Blk W w.heap.size 25 #[.string (bs D.data), .slice A1 D.cache.length a1, .int .i64 D.fuse, .bool D.off, .slice A2 D.bad.length a2] ∧
              Blk W (w.heap.size + 1) 28 #[.slice B1 L.targets.length b1, .slice B2 L.data.length b2] ∧ Blk W (w.heap.size + 1 + 1 + 1) 3 #[.int .i64 a, .int .i64 b] ∧ RowK W (w.heap.size + 1 + 1) (bump 1 Pn.wZ (P ++ [(n : Int)] ++ R.take j)) ∧ Below w.heap.size w W) (fun k _ => R.length - (intOf k).toNat)
            case atStart => exact ⟨0, Nat.zero_le _, rfl, HC1, x1, z1, y1, row1, hB1⟩
            case round =>
              clear HC1 x1 z1 y1 row1 hB1 x xk z zk y yk row hB c0 f0
              obtain ⟨j, hj, rfl, HC, x, z, y, row, hB⟩ := hrel
              by_cases hjl : j < R.length
              · have hRl := HRl.out
                obtain h0 | ⟨gR, rfl, hne, rR⟩ := HC.out
                · rw [h0] at hjl; exact absurd hjl (Nat.not_lt_zero _)
                have hcell := (rR.row j hjl).1
                have hQn := HQn.out j hjl
                obtain ⟨hr0, hr1⟩ := HRi.out R[j] (List.getElem_mem hjl)
                obtain ⟨m, hm⟩ := Int.eq_ofNat_of_zero_le hr0
                rw [hm] at hcell hQn hr1
                rw [Int.toNat_natCast] at hQn
                have hm256 : m < 256 := by omega
                have hlen := Hlen.out (P ++ [(n : Int)] ++ R.take j)
                have hQs := HQs.out j m
                obtain ⟨c0, f0⟩ := row.row m (by rw [hlen]; exact hm256)
                have row1 := row.set m ((bump 1 Pn.wZ (P ++ [(n : Int)] ++ R.take j)).getD m 0 + 1) (by rw [hlen]; exact hm256)
                rw [← hQn] at row1
                have e3 : (bump 1 Pn.wZ (P ++ [(n : Int)] ++ R.take j))[m]'(by rw [hlen]; exact hm256) = (bump 1 Pn.wZ (P ++ [(n : Int)] ++ R.take j)).getD m 0 := by rw [List.getD_eq_getElem?_getD, List.getElem?_eq_getElem (by rw [hlen]; exact hm256)]; rfl
                rw [e3] at c0
                generalize (bump 1 Pn.wZ (P ++ [(n : Int)] ++ R.take j)).getD m 0 = t1 at c0 row1 hQs
                have hw1 : IntKind.i64.wrap (t1 + 1) = t1 + 1 := i64w (by omega)
                have x1 := x.other (a := ⟨w.heap.size + 1 + 1, m, none⟩) (by show _ ≠ w.heap.size + 1 + 1; omega) (.int .i64 (t1 + 1))
                have z1 := z.other (a := ⟨w.heap.size + 1 + 1, m, none⟩) (by show _ ≠ w.heap.size + 1 + 1; omega) (.int .i64 (t1 + 1))
                have y1 := y.other (a := ⟨w.heap.size + 1 + 1, m, none⟩) (by show _ ≠ w.heap.size + 1 + 1; omega) (.int .i64 (t1 + 1))
                have hB1 := hB.setCell (p := ⟨w.heap.size + 1 + 1, m, none⟩) (show w.heap.size ≤ w.heap.size + 1 + 1 by omega) (.int .i64 (t1 + 1))
                have rR1 : RowK (wr.setCell ⟨w.heap.size + 1 + 1, m, none⟩ (.int .i64 (t1 + 1))) gR R := ⟨rR.row.other hne _, by rw [World.size_setCell]; exact rR.lt⟩
                have HX := hid (show _ ∧ _ ∧ _ ∧ _ ∧ _ ∧ _ from ⟨x1, z1, y1, row1, hB1, rR1⟩)
                have Hne := hid hne
                clear e3 hQn hlen hm hr0 hr1 hQs x z y row hB rR x1 z1 y1 row1 hB1 rR1 hne HC
                go_wp2_with fail
                go_roundw
                case rel =>
                  obtain ⟨x1, z1, y1, row1, hB1, rR1⟩ := HX.out
                  exact ⟨j + 1, by omega, by go_num, hid (.inr ⟨gR, rfl, Hne.out, rR1⟩), x1, z1, y1, row1, hB1⟩
                case measure => simp [intOf]; omega
              · obtain rfl : j = R.length := by omega
                rw [← HP.out, ← Hp2.out] at row
                go_wp2_with fail
                go_roundw
                case rel => exact ⟨i + 1, by omega, by go_num, Hk, x, z, y, row, hB⟩
                case measure => simp [intOf]; omega
      · have d0 : (er != 0) = true := by simpa using e0
        have hz := hid (Hno.out (fun h => e0 h.1))
        clear e0
        go_wp2_with fail
        go_ret
        exact ⟨by rw [hz.out]; rfl, hB⟩
    · obtain rfl : i = 2 := by omega
      have hcon := h2
      have hq2 := hok.out
      have hwant := fun k hk => Pn.want_row (D := D) (L := L) (a := a) (b := b) (fun j hj => (hq2 j hj).2) k hk
      have hlen : (bump 1 Pn.wZ (Pn.wRow D L a b 2)).length = 256 := by rw [bump_length, Pn.wZ_length]
      have hra : (Pn.ptReach D L a).2 = 0 ∧ 0 ≤ a ∧ a < 256 := hq2 0 (by omega)
      have hrb : (Pn.ptReach D L b).2 = 0 ∧ 0 ≤ b ∧ b < 256 := hq2 1 (by omega)
      generalize bump 1 Pn.wZ (Pn.wRow D L a b 2) = T at *
      have hyes : (Pn.cntAll D L 256).2 = 0 → a ≠ b → (∀ k : Nat, k < 256 → T.getD k 0 ≤ (Pn.cntAll D L 256).1.getD k 0) → T.getD a.toNat 0 = 1 → T.getD b.toNat 0 = 1 → Pn.countedB D L a b = true := fun e0 e1 e2 e3 e4 => by
        refine Pn.countedB_yes ⟨⟨hra.1, hrb.1, hra.2, hrb.2, e1, fun k k0 k1 => ?_, ?_, ?_⟩, e0⟩
        · obtain ⟨k, rfl⟩ := Int.eq_ofNat_of_zero_le k0
          have h3 := ((Pn.cntAll_ok e0).2.2.2 k (by omega)).2
          have h4 := e2 k (by omega)
          rw [hwant k (by omega), List.getD_eq_getElem?_getD, h3] at h4
          exact h4
        · obtain ⟨k, rfl⟩ := Int.eq_ofNat_of_zero_le hra.2.1
          rw [← hwant k (by omega)]
          exact e3
        · obtain ⟨k, rfl⟩ := Int.eq_ofNat_of_zero_le hrb.2.1
          rw [← hwant k (by omega)]
          exact e4
      have hno : (Pn.cntAll D L 256).2 ≠ 0 ∨ a = b ∨ (∃ k : Nat, k < 256 ∧ (Pn.cntAll D L 256).1.getD k 0 < T.getD k 0) ∨ T.getD a.toNat 0 ≠ 1 ∨ T.getD b.toNat 0 ≠ 1 → Pn.countedB D L a b = false := fun h => Pn.countedB_no fun ⟨hc, e0⟩ => by
        rcases h with h | h | ⟨k, hk, h⟩ | h | h
        · exact h e0
        · exact hc.ne h
        · have h3 := ((Pn.cntAll_ok e0).2.2.2 k (by omega)).2
          have h4 := hc.le k (by omega) (by omega)
          rw [hwant k hk, List.getD_eq_getElem?_getD, h3] at h
          exact absurd h (Int.not_lt.2 h4)
        · obtain ⟨k, rfl⟩ := Int.eq_ofNat_of_zero_le hra.2.1
          exact h ((hwant k (by omega)).trans hc.wa)
        · obtain ⟨k, rfl⟩ := Int.eq_ofNat_of_zero_le hrb.2.1
          exact h ((hwant k (by omega)).trans hc.wb)
      have hcl : (Pn.cntAll D L 256).2 = 0 → (Pn.cntAll D L 256).1.length = 256 := fun h => (Pn.cntAll_ok h).2.2.1
      have hce : (Pn.cntAll D L 256).2 ≠ 0 → (Pn.cntAll D L 256).1 = [] := Pn.cntAll_err
      generalize Pn.cntAll D L 256 = S at *
      obtain ⟨U, er⟩ := S
      simp only at hyes hno hcl hce hcon
      have Hyes := hid hyes
      have Hno := hid hno
      have Hra := hid hra.2
      have Hrb := hid hrb.2
      have Hlen := hid hlen
      have Hce := hid hce
      have Hcl := hid hcl
      clear hyes hno hra hrb hlen hwant hq2 hok hce hcl h1 h2
      have xk := blk5 x
      have zk := blk2 z
      go_wp2_with fail
      go_at_call 30
      refine ((hcon _ hB)).mono ?_
      rintro e w2 ⟨⟨u, rfl, own1⟩, hb2⟩
      replace hB := bt hB hb2
      replace x := x.below hb2 x.lt
      replace xk := blk5 x
      replace z := z.below hb2 z.lt
      replace zk := blk2 z
      replace row := row.below hb2
      obtain ⟨C1, c1, rfl, _⟩ := own_slice own1
      have cc1 := Cells.of_own own1
      have hbx := hB
      have row := row
      clear own1
      go_wp2_with fail
      go_loopw [70] (fun k W => ∃ i : Nat, i ≤ U.length ∧ k = .int .i64 i ∧ Hid (∀ j : Nat, j < i → T.getD j 0 ≤ U.getD j 0) ∧ Below w2.heap.size w2 W) (fun k _ => U.length - (intOf k).toNat)
      case atStart => exact ⟨0, Nat.zero_le _, rfl, hid (fun j hj => by omega), Below.refl _ _⟩
      case round =>
        obtain ⟨i, hi, rfl, hok, hw⟩ := hrel
        have row1 := row.below hw
        by_cases hlt : i < U.length
        · have hU : U.length = 256 := by
            refine Hcl.out (Classical.byContradiction fun h => ?_)
            rw [Hce.out h] at hlt
            exact absurd hlt (Nat.not_lt_zero _)
          obtain ⟨pb, po, hpa, hcell⟩ := (cc1.below hw).int hlt
          subst hpa
          have y0 := hcell i hlt
          obtain ⟨c0, f0⟩ := row1.row i (by rw [Hlen.out]; omega)
          have e1 : T[i]'(by rw [Hlen.out]; omega) = T.getD i 0 := by rw [List.getD_eq_getElem?_getD, List.getElem?_eq_getElem (by rw [Hlen.out]; omega)]; rfl
          have e2 : U[i] = U.getD i 0 := by rw [List.getD_eq_getElem?_getD, List.getElem?_eq_getElem hlt]; rfl
          have Hu := hid hU
          have hi2 : i < 256 := by omega
          rw [e1] at c0
          rw [e2] at y0
          have Hn := hid (fun h : U.getD i 0 < T.getD i 0 => Hno.out (.inr (.inr (.inl ⟨i, by omega, h⟩))))
          have Hy := hid (show T.getD i 0 ≤ U.getD i 0 → ∀ j : Nat, j < i + 1 → T.getD j 0 ≤ U.getD j 0 from fun h j hj => by
            rcases Nat.lt_or_eq_of_le (Nat.le_of_lt_succ hj) with hj | rfl
            · exact hok.out j hj
            · exact h)
          clear e1 e2 hcell hU hok f0 row1
          generalize T.getD i 0 = a0 at c0 Hn Hy
          generalize U.getD i 0 = b0 at y0 Hn Hy
          by_cases hab : b0 < a0
          · have d1 : decide (b0 < a0) = true := by simpa using hab
            have hz := hid (Hn.out hab)
            clear hab
            go_wp2_with fail
            go_quiet (fail)
            go_wp2_with fail
            go_ret
            exact ⟨by rw [hz.out]; rfl, by have := bt hbx hw; first | exact this | exact below_drewN this _⟩
          · have d1 : decide (b0 < a0) = false := by simpa using hab
            have hz := hid (Hy.out (by omega))
            clear hab
            go_wp2_with fail
            go_quiet (fail)
            go_wp2_with fail
            go_roundw
            case rel => exact ⟨i + 1, by omega, by go_num, hz, by first | exact hw | exact below_drewN hw _⟩
            case measure => simp [intOf]; omega
        · obtain rfl : i = U.length := by omega
          clear hlt hi
          by_cases e0 : er = 0
          · subst e0
            have hU := hid (Hcl.out rfl)
            have g1 : ((U.length : Int) == 256) = true := by rw [hU.out]; rfl
            have hle := hid (fun (k : Nat) (hk : k < 256) => hok.out k (by rw [hU.out]; exact hk))
            obtain ⟨k, rfl⟩ := Int.eq_ofNat_of_zero_le Hra.out.1
            obtain ⟨m, rfl⟩ := Int.eq_ofNat_of_zero_le Hrb.out.1
            have hk2 : k < 256 := by have := Hra.out.2; omega
            have hm2 : m < 256 := by have := Hrb.out.2; omega
            clear hok Hcl Hce Hra Hrb
            by_cases e1 : k = m
            · have d1 : ((k : Int) != (m : Int)) = false := by rw [e1, bne_self_eq_false]
              have hz := hid (Hno.out (.inr (.inl (by rw [e1]))))
              clear e1
              go_wp2_with fail
              go_ret
              exact ⟨by rw [hz.out]; rfl, bt hbx hw⟩
            · have d1 : ((k : Int) != (m : Int)) = true := bne_iff_ne.2 (by omega)
              have He1 := hid (show (k : Int) ≠ (m : Int) by omega)
              obtain ⟨c0, f0⟩ := row1.row k (by rw [Hlen.out]; omega)
              obtain ⟨c1', f1⟩ := row1.row m (by rw [Hlen.out]; omega)
              have e3 : T[k]'(by rw [Hlen.out]; omega) = T.getD k 0 := by rw [List.getD_eq_getElem?_getD, List.getElem?_eq_getElem (by rw [Hlen.out]; omega)]; rfl
              have e4 : T[m]'(by rw [Hlen.out]; omega) = T.getD m 0 := by rw [List.getD_eq_getElem?_getD, List.getElem?_eq_getElem (by rw [Hlen.out]; omega)]; rfl
              rw [e3] at c0
              rw [e4] at c1'
              have hy2 := Hyes.out rfl He1.out hle.out
              have hn2 := fun h => Hno.out (.inr (.inr (.inr h)))
              simp only [Int.toNat_natCast] at hy2 hn2
              clear e1 e3 e4 Hyes Hno hle He1 f0 f1 row1
              generalize T.getD k 0 = a0 at c0 hy2 hn2
              generalize T.getD m 0 = b0 at c1' hy2 hn2
              by_cases ha : a0 = 1
              · have d2 : (a0 == 1) = true := by simpa using ha
                by_cases hb : b0 = 1
                · have d3 : (b0 == 1) = true := by simpa using hb
                  have hz := hid (hy2 ha hb)
                  clear ha hb hy2 hn2
                  go_wp2_with fail
                  go_ret
                  exact ⟨by rw [hz.out]; rfl, bt hbx hw⟩
                · have d3 : (b0 == 1) = false := by simpa using hb
                  have hz := hid (hn2 (.inr hb))
                  clear ha hb hy2 hn2
                  go_wp2_with fail
                  go_ret
                  exact ⟨by rw [hz.out]; rfl, bt hbx hw⟩
              · have d2 : (a0 == 1) = false := by simpa using ha
                have hz := hid (hn2 (.inl ha))
                clear ha hy2 hn2
                go_wp2_with fail
                go_ret
                exact ⟨by rw [hz.out]; rfl, bt hbx hw⟩
          · have d0 : (er == 0) = false := by simpa using e0
            have hz := hid (Hno.out (.inl e0))
            clear e0
            go_wp2_with fail
            go_ret
            exact ⟨by rw [hz.out]; rfl, bt hbx hw⟩
end Go.Proofs.YtplgmlcoeehnfaaGreat
