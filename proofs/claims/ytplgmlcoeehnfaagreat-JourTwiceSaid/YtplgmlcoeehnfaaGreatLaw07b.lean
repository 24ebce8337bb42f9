/- Package cofferdamlaw07: the guard, rows of what was found held against each other. -/
import Derived.Test.YtplgmlcoeehnfaaGreatLaw07a
import Derived.Test.YtplgmlcoeehnfaaGreatJour12
import Derived.Test.YtplgmlcoeehnfaaGreatOpens
import Derived.Test.YtplgmlcoeehnfaaGreatLaw01a
import Derived.BigQuiet
set_option linter.unusedVariables false
namespace Go.Proofs.YtplgmlcoeehnfaaGreat
open Go.RowKit Go.Shelf
attribute [local go_sem] bs_mk bs_append bs_extract bs_size bs_toList bs_get
/-- A device that is soon gone through, and has a journal's place. -/
def good7 (D : Dk) : Bool := decide (D.data.length ≤ 65536) && (decide (D.cache.length ≤ 300) && (D.fit && decide (112 ≤ D.sz)))
theorem good7_iff {D : Dk} : good7 D = true ↔ D.data.length ≤ 65536 ∧ D.cache.length ≤ 300 ∧ D.fit = true ∧ 112 ≤ D.sz := by simp [good7]
set_option maxRecDepth 100000 in
theorem good07 (D : Dk) (p q : Pl) (w : World) (hD : IsDk0 w D p q) (hbl : D.bad.length ≤ 17592186044416) :
    Calls Tryz.prog 37 #[dval D p q] w fun e w' => e = .returned (.bool (good7 D)) ∧ Below w.heap.size w w' := by
  have hdl := hD.data
  have hcl := Nat.le_trans hD.pc hD.pm
  have hfull := fun (h1 : D.data.length ≤ 65536) (h2 : D.cache.length ≤ 300) => hD.full (by omega) hbl (by omega)
  unfold maxLen at hdl hcl
  clear hD
  obtain ⟨A1, c1⟩ := p
  obtain ⟨A2, c2⟩ := q
  have hB := Below.refl w.heap.size w
  have x := Blk.new w 25 #[.string (bs D.data), .slice A1 D.cache.length c1, .int .i64 D.fuse, .bool D.off, .slice A2 D.bad.length c2]
  have xk := blk5 x
  have hB_1 := hB.alloc hB.size (.cells #[.string (bs D.data), .slice A1 D.cache.length c1, .int .i64 D.fuse, .bool D.off, .slice A2 D.bad.length c2] 25)
  by_cases h1 : D.data.length ≤ 65536
  · by_cases h2 : D.cache.length ≤ 300
    · have hI := hfull h1 h2
      have hf := fun (W : World) (hb : Below w.heap.size w W) => r1_fit D ⟨A1, c1⟩ ⟨A2, c2⟩ W (hI.below hb) (by omega)
      have hs := fun (W : World) => r1_size D ⟨A1, c1⟩ ⟨A2, c2⟩ (by omega) W
      clear hfull
      cases h3 : D.fit with
      | false =>
        have Hw := hid (show good7 D = false by simp [good7, h3])
        rw [h3] at hf
        go_enter Tryz.func37, Tryz.ntmps37
        go_wp2_with fail
        go_at_call 51
        refine ((hf _ hB_1)).mono ?_
        rintro e w1 ⟨rfl, hb1⟩
        replace hB := bt hB_1 hb1
        replace x := x.below hb1 x.lt
        replace xk := blk5 x
        clear hB_1
        go_wp2_with fail
        go_ret
        exact ⟨by rw [Hw.out]; rfl, hB⟩
      | true =>
        rw [h3] at hf
        have Hw := hid (show good7 D = decide (112 ≤ D.sz) by simp [good7, h1, h2, h3])
        by_cases h4 : 112 ≤ D.sz
        · have g4 : (112 : Int) ≤ (D.sz : Int) := by omega
          rw [decide_eq_true h4] at Hw
          go_enter Tryz.func37, Tryz.ntmps37
          go_wp2_with fail
          go_at_call 51
          refine ((hf _ hB_1)).mono ?_
          rintro e w1 ⟨rfl, hb1⟩
          replace hB := bt hB_1 hb1
          replace x := x.below hb1 x.lt
          replace xk := blk5 x
          clear hB_1
          go_wp2_with fail
          go_at_call 52
          refine ((hs _)).mono ?_
          rintro e w2 ⟨rfl, hb2⟩
          replace hB := bt hB hb2
          replace x := x.below hb2 x.lt
          replace xk := blk5 x
          go_wp2_with fail
          go_ret
          exact ⟨by rw [Hw.out]; rfl, hB⟩
        · have g4 : decide ((112 : Int) ≤ (D.sz : Int)) = false := decide_eq_false (by omega)
          rw [decide_eq_false h4] at Hw
          go_enter Tryz.func37, Tryz.ntmps37
          go_wp2_with fail
          go_at_call 51
          refine ((hf _ hB_1)).mono ?_
          rintro e w1 ⟨rfl, hb1⟩
          replace hB := bt hB_1 hb1
          replace x := x.below hb1 x.lt
          replace xk := blk5 x
          clear hB_1
          go_wp2_with fail
          go_at_call 52
          refine ((hs _)).mono ?_
          rintro e w2 ⟨rfl, hb2⟩
          replace hB := bt hB hb2
          replace x := x.below hb2 x.lt
          replace xk := blk5 x
          go_wp2_with fail
          go_ret
          exact ⟨by rw [Hw.out]; rfl, hB⟩
    · have Hw := hid (show good7 D = false by simp [good7, h2])
      clear hfull
      go_enter Tryz.func37, Tryz.ntmps37
      go_wp2_with fail
      go_ret
      exact ⟨by rw [Hw.out]; rfl, hB_1⟩
  · have Hw := hid (show good7 D = false by simp [good7, h1])
    clear hfull
    go_enter Tryz.func37, Tryz.ntmps37
    go_wp2_with fail
    go_ret
    exact ⟨by rw [Hw.out]; rfl, hB_1⟩
set_option maxRecDepth 100000 in
theorem founds07_nil (A B : Option Addr) (c d : Nat) (w : World) : Calls Tryz.prog 45 #[.slice A 0 c, .slice B 0 d] w fun e w' => e = .returned (.bool true) ∧ Below w.heap.size w w' := by
  go_enter Tryz.func45, Tryz.ntmps45
  go_wp2_with fail
  go_loopw [13] (fun x W => x = .int .i64 0 ∧ Below w.heap.size w W) (fun x _ => 0)
  case atStart => exact ⟨rfl, Below.refl _ _⟩
  case round =>
    obtain ⟨rfl, hb⟩ := hrel
    go_wp2_with fail
    go_ret
    exact ⟨rfl, hb⟩
set_option maxRecDepth 100000 in
set_option maxHeartbeats 1000000 in
theorem founds07_some (l m : List Fd) (ga gb B B' c d : Nat) (w : World) (hl : FdRow w B ga c l) (hm : FdRow w B' gb d m) (h : l.map Fd.it = m.map Fd.it) (hn : l.length ≤ 1000) (h24 : ∀ x ∈ l, x.tx.plan.targets.length ≤ 1000000 ∧ x.tx.plan.data.length ≤ 1000000) :
    Calls Tryz.prog 45 #[.slice (some ⟨ga, 0, none⟩) l.length c, .slice (some ⟨gb, 0, none⟩) m.length d] w fun e w' => e = .returned (.bool true) ∧ Below w.heap.size w w' := by
  have hlm : m.length = l.length := by have := congrArg List.length h; simpa using this.symm
  have Hit := hid (fun (i : Nat) (hi : i < l.length) (hi' : i < m.length) => show l[i].it = m[i].it by
    have := congrArg (fun k => k[i]?) h
    simpa [List.getElem?_map, List.getElem?_eq_getElem hi, List.getElem?_eq_getElem hi'] using this)
  rw [hlm]
  have Hlm := hid hlm
  have H24 := hid h24
  clear h hlm h24
  go_enter Tryz.func45, Tryz.ntmps45
  go_wp2_with fail
  go_loopw [13] (fun x W => ∃ i : Nat, i ≤ l.length ∧ x = .int .i64 i ∧ Below w.heap.size w W) (fun x _ => l.length - (intOf x).toNat)
  case atStart => exact ⟨0, Nat.zero_le _, rfl, Below.refl _ _⟩
  case round =>
    obtain ⟨i, hi, rfl, hb⟩ := hrel
    by_cases hlt : i < l.length
    · have hlt' : i < m.length := by rw [Hlm.out]; exact hlt
      obtain ⟨a1, a2, a3, a4⟩ := (hl.later hb).cells i hlt
      obtain ⟨b1, b2, b3, b4⟩ := (hm.later hb).cells i hlt'
      have hx := (hl.later hb).ok _ (List.getElem_mem hlt)
      have hy := (hm.later hb).ok _ (List.getElem_mem hlt')
      have he := Hit.out i hlt hlt'
      have hx24 := H24.out _ (List.getElem_mem hlt)
      generalize l[i] = x at *
      generalize m[i] = y at *
      obtain ⟨xp, xt, xa, xb⟩ := x
      obtain ⟨yp, yt, ya, yb⟩ := y
      obtain ⟨rfl, rfl⟩ : xp = yp ∧ xt = yt := by have := Prod.mk.inj he; exact this
      clear he
      simp only at a1 a2 a3 a4 b1 b2 b3 b4 hx24
      have hs := fun e : Ext wr => r6_same xt xt xa xb ya yb e.world (hx.pn.below e.below) (hy.pn.below e.below) hx24.1 hx24.2 hx24.1 hx24.2
      rw [Tx.same_self] at hs
      have A1 := fun e : Ext wr => e.cell a1
      have A2 := fun e : Ext wr => e.cell a2
      have A3 := fun e : Ext wr => e.cell a3
      have A4 := fun e : Ext wr => e.cell a4
      have B1 := fun e : Ext wr => e.cell b1
      have B2 := fun e : Ext wr => e.cell b2
      have B3 := fun e : Ext wr => e.cell b3
      have B4 := fun e : Ext wr => e.cell b4
      clear hx hy hx24
      have g0 : ((xp : Int) != (xp : Int)) = false := by simp
      go_wp2_with fail
      refine wp_region_ext mixed (by kernel_rfl) ?_
      repeat (go_big_quiet_step (((go_at_call 97; with_reducible exact ext_of (hs _)))))
      refine wpQuiet_nil ?_
      rintro W ⟨pq_, hpq_⟩
      have hW := pq_.below
      rw [← hpq_] at hW
      clear hpq_ pq_
      go_wp2_with fail
      go_roundw
      case rel => exact ⟨i + 1, by omega, by go_num, bt hb hW⟩
      case measure => simp [intOf]; omega
    · obtain rfl : i = l.length := by omega
      go_wp2_with fail
      go_ret
      exact ⟨rfl, hb⟩
theorem founds07 (l m : List Fd) (v u : Value) (B B' : Nat) (w : World) (hv : w.ownsRow B 94 4 v l.length (fdCells l)) (hu : w.ownsRow B' 94 4 u m.length (fdCells m)) (hl : FdsOk w l) (hm : FdsOk w m) (h : l.map Fd.it = m.map Fd.it) (hn : l.length ≤ 1000) (h24 : ∀ x ∈ l, x.tx.plan.targets.length ≤ 1000000 ∧ x.tx.plan.data.length ≤ 1000000) :
    Calls Tryz.prog 45 #[v, u] w fun e w' => e = .returned (.bool true) ∧ Below w.heap.size w w' := by
  have hlm : m.length = l.length := by have := congrArg List.length h; simpa using this.symm
  by_cases h0 : l.length = 0
  · obtain ⟨A, c, rfl, _⟩ := own_slice hv
    obtain ⟨A', d, rfl, _⟩ := own_slice hu
    rw [hlm, h0]
    exact founds07_nil A A' c d w
  · rcases hv.2 with ⟨_, h'⟩ | ⟨ga, c, cur, rfl, _⟩
    · exact absurd h' h0
    rcases hu.2 with ⟨_, h'⟩ | ⟨gb, d, cur', rfl, _⟩
    · omega
    exact founds07_some l m ga gb B B' c d w ⟨hv, hl⟩ ⟨hu, hm⟩ h hn h24
theorem scanned07 (D : Dk) (p q : Pl) (w : World) (hD : IsDk w D p q) (hf : D.fit = true) :
    Calls Tryz.prog 46 #[dval D p q] w fun e w' => (∃ (l : List Fd) (v : Value), l.map Fd.it = (jrScan D).1 ∧ e = .returned v ∧ w'.ownsRow w.heap.size 94 4 v l.length (fdCells l) ∧ FdsOk w' l) ∧ Below w.heap.size w w' := by
  have hs := fun (W : World) (hb : Below w.heap.size w W) => r7_scan D p q W (hD.below hb) hf
  have hB := Below.refl w.heap.size w
  have x := Blk.new w 25 #[.string (bs D.data), .slice p.a D.cache.length p.c, .int .i64 D.fuse, .bool D.off, .slice q.a D.bad.length q.c]
  have xk := blk5 x
  have hB_1 := hB.alloc hB.size (.cells #[.string (bs D.data), .slice p.a D.cache.length p.c, .int .i64 D.fuse, .bool D.off, .slice q.a D.bad.length q.c] 25)
  go_enter Tryz.func46, Tryz.ntmps46
  go_wp2_with fail
  go_at_call 41
  refine ((hs _ hB_1)).mono ?_
  rintro e w1 ⟨⟨L, v, hLm, rfl, hown, hok⟩, hb1⟩
  replace hB := bt hB_1 hb1
  replace x := x.below hb1 x.lt
  replace xk := blk5 x
  clear hB_1
  have s1 := hb1.size
  simp only [World.size_alloc] at s1
  obtain ⟨A, c, rfl, _⟩ := own_slice hown
  go_wp2_with fail
  go_ret
  exact ⟨⟨L, _, hLm, rfl, own_base hown (by simp), hok⟩, hB⟩
end Go.Proofs.YtplgmlcoeehnfaaGreat
