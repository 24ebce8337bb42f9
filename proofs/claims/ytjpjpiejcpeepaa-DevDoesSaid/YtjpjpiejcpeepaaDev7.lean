/- Package dev, function by function: which devices can be, and which are the same. Package dev, function by function: which devices can be. -/
import Derived.Test.YtjpjpiejcpeepaaDev4
import Derived.Test.YtjpjpiejcpeepaaRef01
set_option linter.unusedVariables false
namespace Go.Proofs.Ytjpjpiejcpeepaa
open Go.RowKit Go.Shelf
attribute [local go_sem] bs_mk bs_append bs_extract bs_size bs_toList bs_get

theorem eq_of_parts {α : Type} {l m : List α} {n : Nat} (h : l.length = m.length) (hn : l.length ≤ n) (hok : ∀ j (hj : j < l.length) (hj' : j < m.length), j < n → l[j] = m[j]) : l = m :=
  List.ext_getElem h fun j hj hj' => hok j hj hj' (by omega)
theorem ne_at {α : Type} {l m : List α} (i : Nat) (h1 : i < l.length) (h2 : i < m.length) (h : l[i] ≠ m[i]) : l ≠ m := fun e => h (by subst e; rfl)
set_option maxRecDepth 100000 in
theorem puts_equal (A B : Option Addr) (c d : Nat) (l m : List (Int × List UInt8)) (w : World) (hA : Cells w A (putCells l)) (hB : Cells w B (putCells m)) (hl : l.length ≤ 1099511627776) :
    Calls Try.prog 71 #[.slice A l.length c, .slice B m.length d] w fun e w' => e = .returned (.bool (decide (l = m))) ∧ Below w.heap.size w w' := by
  by_cases h2 : l.length = m.length
  case neg =>
    have Hf := hid (show decide (l = m) = false by simp; intro e; exact h2 (by rw [e]))
    have n0 : ((l.length : Int) != m.length) = true := by simp; omega
    clear h2
    go_enter Try.func71, Try.ntmps71
    go_wp2_with fail
    go_ret
    exact ⟨by rw [Hf.out]; rfl, Below.refl _ _⟩
  have n2 : ((l.length : Int) != m.length) = false := by simp; omega
  have H2 := hid h2; clear h2
  have hneq := neq_put
  go_enter Try.func71, Try.ntmps71
  go_wp2_with fail
  go_loopw [13] (fun x W => ∃ i : Nat, i ≤ l.length ∧ x = .int .i64 i ∧ Hid (∀ j (hj : j < l.length) (hj' : j < m.length), j < i → l[j] = m[j]) ∧ Below w.heap.size w W) (fun x _ => l.length - (intOf x).toNat)
  case atStart => exact ⟨0, Nat.zero_le _, rfl, hid (fun j hj hj' h0 => by omega), Below.refl _ _⟩
  case round =>
    obtain ⟨i, hi, rfl, hok, hb⟩ := hrel
    by_cases hlt : i < l.length
    · have hlt' : i < m.length := by have := H2.out; omega
      obtain ⟨pb, po, hpa, hcell⟩ := (hA.below hb).put hlt
      obtain ⟨pb', po', hpa', hcell'⟩ := (hB.below hb).put hlt'
      subst hpa
      subst hpa'
      obtain ⟨x0, x1⟩ := hcell i hlt
      obtain ⟨y0, y1⟩ := hcell' i hlt'
      have X0 := fun e : Ext wr => e.cell x0
      have X1 := fun e : Ext wr => e.cell x1
      have Y0 := fun e : Ext wr => e.cell y0
      have Y1 := fun e : Ext wr => e.cell y1
      clear hcell hcell'
      by_cases he : l[i] = m[i]
      · have he1 : decide (l[i].1 = m[i].1) = true := by simp [he]
        have he2 : decide (l[i].2 = m[i].2) = true := by simp [he]
        have He := hid he; clear he
        go_wp2_with fail
        refine wp_region_ext mixed (by kernel_rfl) ?_
        repeat (go_big_quiet_step ((fail)))
        refine wpQuiet_nil ?_
        rintro w2 ⟨pq_, hpq_⟩
        have hb2 := pq_.below
        rw [← hpq_] at hb2
        clear hpq_ pq_
        go_wp2_with fail
        go_roundw
        case rel => exact ⟨i + 1, by omega, by go_num, hid (fun j hj hj' hji => by
          rcases Nat.lt_or_ge j i with h' | h'
          · exact hok.out j hj hj' h'
          · obtain rfl : j = i := by omega
            exact He.out), bt hb hb2⟩
        case measure => simp [intOf]; omega
      · have He := hid (show decide (l = m) = false by simpa using ne_at i hlt hlt' he)
        have he1 : (decide (l[i].1 = m[i].1) && decide (l[i].2 = m[i].2)) = false := by
          rw [Bool.and_eq_false_iff, decide_eq_false_iff_not, decide_eq_false_iff_not]
          by_cases h' : l[i].1 = m[i].1
          · exact .inr fun h'' => he (Prod.ext h' h'')
          · exact .inl h'
        clear he
        go_wp2_with fail
        refine wp_region_ext mixed (by kernel_rfl) ?_
        repeat (go_big_quiet_step ((fail)))
        refine wpQuiet_nil ?_
        rintro w2 ⟨pq_, hpq_⟩
        have hb2 := pq_.below
        rw [← hpq_] at hb2
        clear hpq_ pq_
        go_wp2_with fail
        go_ret
        exact ⟨by rw [He.out]; rfl, bt hb hb2⟩
    · have He := hid (show decide (l = m) = true by simpa using eq_of_parts H2.out (show l.length ≤ i by omega) hok.out)
      clear hok
      go_wp2_with fail
      go_ret
      exact ⟨by rw [He.out]; rfl, hb⟩
set_option maxRecDepth 100000 in
theorem ints_equal (A B : Option Addr) (c d : Nat) (l m : List Int) (w : World) (hA : Cells w A (intCells l)) (hB : Cells w B (intCells m)) (hl : l.length ≤ 17592186044416) :
    Calls Try.prog 66 #[.slice A l.length c, .slice B m.length d] w fun e w' => e = .returned (.bool (decide (l = m))) ∧ Below w.heap.size w w' := by
  by_cases h2 : l.length = m.length
  case neg =>
    have Hf := hid (show decide (l = m) = false by simp; intro e; exact h2 (by rw [e]))
    have n0 : ((l.length : Int) != m.length) = true := by simp; omega
    clear h2
    go_enter Try.func66, Try.ntmps66
    go_wp2_with fail
    go_ret
    exact ⟨by rw [Hf.out]; rfl, Below.refl _ _⟩
  have n2 : ((l.length : Int) != m.length) = false := by simp; omega
  have H2 := hid h2; clear h2
  go_enter Try.func66, Try.ntmps66
  go_wp2_with fail
  go_loopw [13] (fun x W => ∃ i : Nat, i ≤ l.length ∧ x = .int .i64 i ∧ Hid (∀ j (hj : j < l.length) (hj' : j < m.length), j < i → l[j] = m[j]) ∧ Below w.heap.size w W) (fun x _ => l.length - (intOf x).toNat)
  case atStart => exact ⟨0, Nat.zero_le _, rfl, hid (fun j hj hj' h0 => by omega), Below.refl _ _⟩
  case round =>
    obtain ⟨i, hi, rfl, hok, hb⟩ := hrel
    by_cases hlt : i < l.length
    · have hlt' : i < m.length := by have := H2.out; omega
      obtain ⟨pb, po, hpa, hcell⟩ := (hA.below hb).int hlt
      obtain ⟨pb', po', hpa', hcell'⟩ := (hB.below hb).int hlt'
      subst hpa
      subst hpa'
      have x0 := hcell i hlt
      have y0 := hcell' i hlt'
      have X0 := fun e : Ext wr => e.cell x0
      have Y0 := fun e : Ext wr => e.cell y0
      clear hcell hcell'
      by_cases he : l[i] = m[i]
      · have he1 : (l[i] != m[i]) = false := by simp [he]
        have He := hid he; clear he
        go_wp2_with fail
        refine wp_region_ext mixed (by kernel_rfl) ?_
        repeat (go_big_quiet_step ((fail)))
        refine wpQuiet_nil ?_
        rintro w2 ⟨pq_, hpq_⟩
        have hb2 := pq_.below
        rw [← hpq_] at hb2
        clear hpq_ pq_
        go_wp2_with fail
        go_roundw
        case rel => exact ⟨i + 1, by omega, by go_num, hid (fun j hj hj' hji => by
          rcases Nat.lt_or_ge j i with h' | h'
          · exact hok.out j hj hj' h'
          · obtain rfl : j = i := by omega
            exact He.out), bt hb hb2⟩
        case measure => simp [intOf]; omega
      · have He := hid (show decide (l = m) = false by simpa using ne_at i hlt hlt' he)
        have he1 : (l[i] != m[i]) = true := by simpa using he
        clear he
        go_wp2_with fail
        refine wp_region_ext mixed (by kernel_rfl) ?_
        repeat (go_big_quiet_step ((fail)))
        refine wpQuiet_nil ?_
        rintro w2 ⟨pq_, hpq_⟩
        have hb2 := pq_.below
        rw [← hpq_] at hb2
        clear hpq_ pq_
        go_wp2_with fail
        go_ret
        exact ⟨by rw [He.out]; rfl, bt hb hb2⟩
    · have He := hid (show decide (l = m) = true by simpa using eq_of_parts H2.out (show l.length ≤ i by omega) hok.out)
      clear hok
      go_wp2_with fail
      go_ret
      exact ⟨by rw [He.out]; rfl, hb⟩
set_option maxRecDepth 100000 in
theorem d_same (D E : Dk) (p q p' q' : Pl) (w : World) (hD : IsDk w D p q) (hE : IsDk w E p' q') :
    Calls Try.prog 34 #[dval D p q, dval E p' q'] w fun e w' => e = .returned (.bool (D.same E)) ∧ Below w.heap.size w w' := by
  have hp := fun (W : World) (hb : Below w.heap.size w W) => puts_equal p.a p'.a p.c p'.c D.cache E.cache W (hD.cache.below hb) (hE.cache.below hb) hD.cl
  have hi := fun (W : World) (hb : Below w.heap.size w W) => ints_equal q.a q'.a q.c q'.c D.bad E.bad W (hD.bad.below hb) (hE.bad.below hb) hD.bl
  have Hw := hid (show D.same E = (decide (D.data = E.data) && (decide (D.cache = E.cache) && (decide (D.fuse = E.fuse) && (decide (D.off = E.off) && decide (D.bad = E.bad))))) by simp [Dk.same])
  clear hD hE
  obtain ⟨A1, c1⟩ := p
  obtain ⟨A2, c2⟩ := q
  obtain ⟨B1, d1⟩ := p'
  obtain ⟨B2, d2⟩ := q'
  obtain ⟨data, cache, fuse, off, bad⟩ := D
  obtain ⟨data', cache', fuse', off', bad'⟩ := E
  simp only at hp hi Hw
  have hb := below_two w (.cells #[.string (bs data), .slice A1 cache.length c1, .int .i64 fuse, .bool off, .slice A2 bad.length c2] 25) (.cells #[.string (bs data'), .slice B1 cache'.length d1, .int .i64 fuse', .bool off', .slice B2 bad'.length d2] 25)
  have hbx := (Blk.new w 25 #[.string (bs data), .slice A1 cache.length c1, .int .i64 fuse, .bool off, .slice A2 bad.length c2]).alloc (.cells #[.string (bs data'), .slice B1 cache'.length d1, .int .i64 fuse', .bool off', .slice B2 bad'.length d2] 25)
  have hby := Blk.new (w.alloc (.cells #[.string (bs data), .slice A1 cache.length c1, .int .i64 fuse, .bool off, .slice A2 bad.length c2] 25)) 25 #[.string (bs data'), .slice B1 cache'.length d1, .int .i64 fuse', .bool off', .slice B2 bad'.length d2]
  simp only [World.size_alloc] at hby
  by_cases h1 : data = data'
  case neg =>
    have e1 : (data == data') = false := by simpa using h1
    have Hf := hid (Hw.out.trans (by simp [h1] : _ = false))
    clear h1
    go_enter Try.func34, Try.ntmps34
    go_wp2_with fail
    go_ret
    exact ⟨by rw [Hf.out]; rfl, hb⟩
  subst h1
  go_enter Try.func34, Try.ntmps34
  go_wp2_with fail
  go_at_call 71
  refine (hp _ hb).mono ?_
  rintro e w1 ⟨rfl, hb1⟩
  replace hbx := hbx.below hb1 (by simp; omega)
  replace hby := hby.below hb1 (by simp)
  have k0 := blk5 hbx
  have k1 := blk5 hby
  have b1 := bt hb hb1
  cases h2 : decide (cache = cache') with
  | false =>
    have Hf := hid (Hw.out.trans (by rw [h2]; simp : _ = false))
    go_wp2_with fail
    go_ret
    exact ⟨by rw [Hf.out]; rfl, b1⟩
  | true =>
    have H2 := hid h2
    clear h2
    by_cases h3 : fuse = fuse'
    case neg =>
      have e3 : (fuse == fuse') = false := by simpa using h3
      have Hf := hid (Hw.out.trans (by simp [h3] : _ = false))
      clear h3
      go_wp2_with fail
      go_ret
      exact ⟨by rw [Hf.out]; rfl, b1⟩
    subst h3
    by_cases h4 : off = off'
    case neg =>
      have e4 : (off == off') = false := by simpa using h4
      have Hf := hid (Hw.out.trans (by simp [h4] : _ = false))
      clear h4
      go_wp2_with fail
      go_ret
      exact ⟨by rw [Hf.out]; rfl, b1⟩
    subst h4
    have Hf := hid (Hw.out.trans (by rw [H2.out]; simp : _ = decide (bad = bad')))
    go_wp2_with fail
    go_at_call 66
    refine (hi _ b1).mono ?_
    rintro e w2 ⟨rfl, hb2⟩
    go_wp2_with fail
    go_ret
    exact ⟨by rw [Hf.out]; rfl, bt b1 hb2⟩
set_option maxRecDepth 100000 in
theorem d_fit1 (D : Dk) (p q : Pl) (w : World) (h : D.data.length ≤ 140737488355328) (B : Nat) (hB : Blk w B 25 #[.string (bs D.data), .slice p.a D.cache.length p.c, .int .i64 D.fuse, .bool D.off, .slice q.a D.bad.length q.c]) (a : Int) (s : List UInt8) (hs : s.length ≤ 9223372036854775807) :
    Calls Try.prog 70 #[.agg #[.int .i64 a, .string (bs s)], .pointer (some ⟨B, 0, none⟩)] w fun e w' => e = .returned (.bool (!D.putOk (a, s))) ∧ Below w.heap.size w w' := by
  have ho := d_out D p q h a
  have Hw := hid (show (!D.putOk (a, s)) = ((!D.there a) || ((s.length : Int) != 64)) by
    simp only [Dk.putOk, Bool.not_and]; congr 1
    rw [← decide_not]; by_cases e : s.length = 64 <;> simp [e]
    omega)
  obtain ⟨A1, c1⟩ := p
  obtain ⟨A2, c2⟩ := q
  simp only at hB
  have x1 := hB.alloc (.cells #[.int .i64 a, .string (bs s)] 45)
  have k1 := blk5 x1
  have z1 := Blk.new w 45 #[.int .i64 a, .string (bs s)]
  have b1 := (Below.refl w.heap.size w).alloc (Nat.le_refl _) (.cells #[.int .i64 a, .string (bs s)] 45)
  go_enter Try.func70, Try.ntmps70
  go_wp2_with fail
  go_at_call 59
  refine (ho _).mono ?_
  rintro e w2 ⟨rfl, hb2⟩
  have k2 := blk2 (z1.below hb2 z1.lt)
  cases ht : D.there a with
  | false =>
    rw [ht] at Hw
    go_wp2_with fail
    go_ret
    exact ⟨by rw [Hw.out]; rfl, bt b1 hb2⟩
  | true =>
    rw [ht] at Hw
    go_wp2_with fail
    go_ret
    exact ⟨by rw [Hw.out]; rfl, bt b1 hb2⟩
set_option maxRecDepth 100000 in
theorem d_indexFunc (D : Dk) (p q : Pl) (w : World) (hD : IsDk w D p q) (B : Nat) (hB : Blk w B 25 #[.string (bs D.data), .slice p.a D.cache.length p.c, .int .i64 D.fuse, .bool D.off, .slice q.a D.bad.length q.c]) :
    Calls Try.prog 89 #[.slice p.a D.cache.length p.c, .func (.func 70) #[] #[.pointer (some ⟨B, 0, none⟩)]] w fun e w' => (∃ n : Int, e = .returned (.int .i64 n) ∧ (0 ≤ n) = (D.cache.all D.putOk = false)) ∧ Below w.heap.size w w' := by
  have h1 := fun (W : World) (hb : Below w.heap.size w W) => d_fit1 D p q W hD.data B (hB.below hb hB.lt)
  have hc := fun (W : World) (hb : Below w.heap.size w W) => hD.cache.below hb
  have hst := hD.strs
  have hcl := hD.cl
  clear hB hD
  obtain ⟨A1, c1⟩ := p
  obtain ⟨A2, c2⟩ := q
  simp only at hc
  go_enter Try.func89, Try.ntmps89
  go_wp2_with fail
  go_loopw [8] (fun x W => ∃ i : Nat, i ≤ D.cache.length ∧ x = .int .i64 i ∧ Hid (∀ j (hj : j < D.cache.length), j < i → D.putOk D.cache[j] = true) ∧ Below w.heap.size w W) (fun x _ => D.cache.length - (intOf x).toNat)
  case atStart => exact ⟨0, Nat.zero_le _, rfl, hid (fun j hj h0 => by omega), Below.refl _ _⟩
  case round =>
    obtain ⟨i, hi, rfl, hok, hb⟩ := hrel
    by_cases hlt : i < D.cache.length
    · obtain ⟨pb, po, hpa, hcell⟩ := (hc _ hb).put hlt
      subst hpa
      obtain ⟨x0, x1⟩ := hcell i hlt
      clear hcell
      have hs := hst _ (List.getElem_mem hlt)
      have hcl1 := h1 _ hb D.cache[i].1 D.cache[i].2 hs
      have Hi := hid (show D.putOk (D.cache[i].1, D.cache[i].2) = D.putOk D.cache[i] from rfl)
      cases hp : D.putOk D.cache[i] with
      | true =>
        rw [Hi.out, hp] at hcl1
        have Hp := hid hp; clear hp
        go_wp2_with fail
        go_at_call 70
        refine hcl1.mono ?_
        rintro e w2 ⟨rfl, hb2⟩
        go_wp2_with fail
        go_roundw
        case rel => exact ⟨i + 1, by omega, by go_num, hid (fun j hj hji => by
          rcases Nat.lt_or_ge j i with h' | h'
          · exact hok.out j hj h'
          · obtain rfl : j = i := by omega
            exact Hp.out), bt hb hb2⟩
        case measure => simp [intOf]; omega
      | false =>
        rw [Hi.out, hp] at hcl1
        have Hp := hid (show D.cache.all D.putOk = false by rw [List.all_eq_false]; exact ⟨_, List.getElem_mem hlt, by simp [hp]⟩)
        clear hp
        go_wp2_with fail
        go_at_call 70
        refine hcl1.mono ?_
        rintro e w2 ⟨rfl, hb2⟩
        go_wp2_with fail
        go_ret
        exact ⟨⟨(i : Int), rfl, by rw [Hp.out]; simp⟩, bt hb hb2⟩
    · have Hp := hid (show D.cache.all D.putOk = true by
        rw [List.all_eq_true]; intro x hx; obtain ⟨j, hj, rfl⟩ := List.getElem_of_mem hx; exact hok.out j hj (by omega))
      clear hok
      go_wp2_with fail
      go_ret
      exact ⟨⟨-1, rfl, by rw [Hp.out]; simp⟩, hb⟩
set_option maxRecDepth 100000 in
theorem d_containsFunc (D : Dk) (p q : Pl) (w : World) (hD : IsDk w D p q) (B : Nat) (hB : Blk w B 25 #[.string (bs D.data), .slice p.a D.cache.length p.c, .int .i64 D.fuse, .bool D.off, .slice q.a D.bad.length q.c]) :
    Calls Try.prog 69 #[.slice p.a D.cache.length p.c, .func (.func 70) #[] #[.pointer (some ⟨B, 0, none⟩)]] w fun e w' => e = .returned (.bool (!D.cache.all D.putOk)) ∧ Below w.heap.size w w' := by
  have hi := d_indexFunc D p q w hD B hB
  clear hD hB
  obtain ⟨A1, c1⟩ := p
  go_enter Try.func69, Try.ntmps69
  go_wp2_with fail
  go_at_call 89
  refine hi.mono ?_
  rintro e w2 ⟨⟨n, rfl, hn⟩, hb2⟩
  have Hn := hid (show (!D.cache.all D.putOk) = decide (0 ≤ n) by
    cases h : D.cache.all D.putOk <;> rw [h] at hn <;> simp at hn ⊢ <;> omega)
  clear hn
  go_wp2_with fail
  go_ret
  exact ⟨by rw [Hn.out]; rfl, hb2⟩
end Go.Proofs.Ytjpjpiejcpeepaa
set_option linter.unusedVariables false
namespace Go.Proofs.Ytjpjpiejcpeepaa
open Go.RowKit Go.Shelf
attribute [local go_sem] bs_mk bs_append bs_extract bs_size bs_toList bs_get

namespace Dk
theorem fit_no_head {D : Dk} (h : D.sz < 1 ∨ 1024 < D.sz ∨ D.data.length % 64 ≠ 0 ∨ 4096 < D.cache.length) : D.fit = false := by
  rw [← Bool.not_eq_true]
  intro hf
  have := hf
  simp only [fit, Bool.and_eq_true, decide_eq_true_eq] at this
  obtain ⟨h1, h2, h3, h4, _⟩ := this
  omega
/-- The first i refused sectors are there, each greater than the one ahead. -/
def BadOk (D : Dk) (i : Nat) : Prop := D.cache.all D.putOk = true ∧ ∀ j (hj : j < D.bad.length), j < i → D.there D.bad[j] = true ∧ ∀ h0 : 0 < j, D.bad[j - 1] < D.bad[j]
theorem badOk_end {D : Dk} (h1 : 1 ≤ D.sz) (h2 : D.sz ≤ 1024) (h3 : D.data.length % 64 = 0) (h4 : D.cache.length ≤ 4096) {b : Bool} {i : Nat} (hi : D.bad.length ≤ i) (hb : b = false ↔ D.BadOk i) : D.fit = !b := by
  cases b with
  | false =>
    obtain ⟨h5, h6⟩ := hb.1 rfl
    refine fit_yes h1 h2 h3 h4 (fun i hi => List.all_eq_true.1 h5 _ (List.getElem_mem hi)) (fun i h => (h6 i h (by omega)).1) (fun i h h0 => (h6 i h (by omega)).2 h0)
  | true =>
    show D.fit = false
    rw [← Bool.not_eq_true]
    intro hf
    have hp := fit_parts hf
    have : D.BadOk i := by
      refine ⟨?_, fun j hj _ => ⟨?_, fun h0 => ?_⟩⟩
      · have := hf; simp only [fit, Bool.and_eq_true] at this; exact this.2.2.2.2.1
      · have := hp.2.2.2.2.2.1 j hj; simp [there, this]
      · have := (incr_at _).1 hp.2.2.2.2.2.2 (j - 1) (by omega)
        simpa only [show j - 1 + 1 = j by omega] using this
    exact absurd (hb.2 this) (by simp)
theorem badOk_next {D : Dk} {i : Nat} (hi : i < D.bad.length) {b c : Bool} (hb : b = false ↔ D.BadOk i) (hc : c = false ↔ (D.there D.bad[i] = true ∧ ∀ h0 : 0 < i, D.bad[i - 1] < D.bad[i])) : (b || c) = false ↔ D.BadOk (i + 1) := by
  rw [Bool.or_eq_false_iff, hb, hc]
  constructor
  · rintro ⟨⟨h1, h2⟩, h3⟩
    refine ⟨h1, fun j hj hji => ?_⟩
    rcases Nat.lt_or_ge j i with h | h
    · exact h2 j hj h
    · obtain rfl : j = i := by omega
      exact h3
  · rintro ⟨h1, h2⟩
    exact ⟨⟨h1, fun j hj hji => h2 j hj (by omega)⟩, h2 i hi (by omega)⟩
theorem badOk_stays {D : Dk} {i : Nat} (h : true = false ↔ D.BadOk i) : true = false ↔ D.BadOk (i + 1) :=
  ⟨fun e => (by cases e), fun ⟨h1, h2⟩ => h.2 ⟨h1, fun j hj hji => h2 j hj (by omega)⟩⟩
end Dk
set_option maxRecDepth 100000 in
theorem d_fit_head (D : Dk) (p q : Pl) (w : World) (hD : IsDk w D p q) (h : D.sz < 1 ∨ 1024 < D.sz ∨ D.data.length % 64 ≠ 0 ∨ 4096 < D.cache.length) :
    Calls Try.prog 33 #[dval D p q] w fun e w' => e = .returned (.bool D.fit) ∧ Below w.heap.size w w' := by
  have Hf := hid (Dk.fit_no_head h)
  have hs := d_size D p q hD.data
  have hdl := hD.data
  have hcl := hD.cl
  have hsz : D.sz = D.data.length / 64 := rfl
  obtain ⟨A1, c1⟩ := p
  obtain ⟨A2, c2⟩ := q
  have x0 := Blk.new w 25 #[.string (bs D.data), .slice A1 D.cache.length c1, .int .i64 D.fuse, .bool D.off, .slice A2 D.bad.length c2]
  have b0 := (Below.refl w.heap.size w).alloc (Nat.le_refl _) (.cells #[.string (bs D.data), .slice A1 D.cache.length c1, .int .i64 D.fuse, .bool D.off, .slice A2 D.bad.length c2] 25)
  by_cases h1 : D.data = []
  · have e1 : (D.data == []) = true := by simp [h1]
    clear h1 h hsz
    go_enter Try.func33, Try.ntmps33
    go_wp2_with fail
    go_ret
    exact ⟨by rw [Hf.out]; rfl, b0⟩
  · have e1 : (D.data == []) = false := by simpa using h1
    have hl : 0 < D.data.length := List.length_pos_iff.2 h1
    clear h1
    have h' : 1024 < D.sz ∨ (D.sz ≤ 1024 ∧ 0 < D.data.length % 64) ∨ (D.sz ≤ 1024 ∧ D.data.length % 64 = 0 ∧ 4096 < D.cache.length) := by omega
    clear h hsz
    rcases h' with h2 | ⟨h2, h3⟩ | ⟨h2, h3, h4⟩
    · go_enter Try.func33, Try.ntmps33
      go_wp2_with fail
      go_at_call 49
      refine (hs _).mono ?_
      rintro e w1 ⟨rfl, hb1⟩
      have k1 := blk5 (x0.below hb1 x0.lt)
      go_wp2_with fail
      go_ret
      exact ⟨by rw [Hf.out]; rfl, bt b0 hb1⟩
    · go_enter Try.func33, Try.ntmps33
      go_wp2_with fail
      go_at_call 49
      refine (hs _).mono ?_
      rintro e w1 ⟨rfl, hb1⟩
      have k1 := blk5 (x0.below hb1 x0.lt)
      have m1 : (0 : Int) < (D.data.length : Int) % 64 := by omega
      go_wp2_with fail
      go_ret
      exact ⟨by rw [Hf.out]; rfl, bt b0 hb1⟩
    · go_enter Try.func33, Try.ntmps33
      go_wp2_with fail
      go_at_call 49
      refine (hs _).mono ?_
      rintro e w1 ⟨rfl, hb1⟩
      have k1 := blk5 (x0.below hb1 x0.lt)
      have m1 : ¬ (0 : Int) < (D.data.length : Int) % 64 := by omega
      go_wp2_with fail
      go_ret
      exact ⟨by rw [Hf.out]; rfl, bt b0 hb1⟩
set_option maxRecDepth 100000 in
set_option maxHeartbeats 1000000 in
theorem d_fit_rest (D : Dk) (p q : Pl) (w : World) (hD : IsDk w D p q) (h1 : 1 ≤ D.sz) (h2 : D.sz ≤ 1024) (h3 : D.data.length % 64 = 0) (h4 : D.cache.length ≤ 4096) :
    Calls Try.prog 33 #[dval D p q] w fun e w' => e = .returned (.bool D.fit) ∧ Below w.heap.size w w' := by
  have Hend := hid (fun (b : Bool) (i : Nat) (hi : D.bad.length ≤ i) (hb : b = false ↔ D.BadOk i) => Dk.badOk_end h1 h2 h3 h4 hi hb)
  have hs := d_size D p q hD.data
  have ho := d_out D p q hD.data
  have hdl := hD.data
  have hcl := hD.cl
  have hbl := hD.bl
  have hcf := fun (W : World) (hb : Below w.heap.size w W) => d_containsFunc D p q W (hD.below hb)
  have hl : 0 < D.data.length := by unfold Dk.sz at h1; omega
  have e1 : (D.data == []) = false := by simp; intro e; rw [e] at hl; simp at hl
  have m1 : ¬ (0 : Int) < (D.data.length : Int) % 64 := by omega
  have hbad := fun (W : World) (hb : Below w.heap.size w W) => hD.bad.below hb
  obtain ⟨A1, c1⟩ := p
  obtain ⟨A2, c2⟩ := q
  simp only at hbad
  have x0 := Blk.new w 25 #[.string (bs D.data), .slice A1 D.cache.length c1, .int .i64 D.fuse, .bool D.off, .slice A2 D.bad.length c2]
  have b0 := (Below.refl w.heap.size w).alloc (Nat.le_refl _) (.cells #[.string (bs D.data), .slice A1 D.cache.length c1, .int .i64 D.fuse, .bool D.off, .slice A2 D.bad.length c2] 25)
  clear hD h3 hl
  go_enter Try.func33, Try.ntmps33
  go_wp2_with fail
  go_at_call 49
  refine (hs _).mono ?_
  rintro e w1 ⟨rfl, hb1⟩
  have x1 := x0.below hb1 x0.lt
  have k1 := blk5 x1
  have b1 := bt b0 hb1
  clear x0 b0 hb1 hs
  go_wp2_with fail
  go_at_call 69
  refine (hcf _ b1 _ x1).mono ?_
  rintro e w2 ⟨rfl, hb2⟩
  have x2 := x1.below hb2 x1.lt
  have k2 := blk5 x2
  have b2 := bt b1 hb2
  clear k1 x1 b1 hb2 hcf e1 m1
  go_wp2_with fail
  go_loopw [3, 34] (fun y x W => ∃ i : Nat, ∃ b : Bool, i ≤ D.bad.length ∧ y = .bool b ∧ x = .int .i64 i ∧ Hid (b = false ↔ D.BadOk i) ∧ Below w2.heap.size w2 W) (fun _ x _ => D.bad.length - (intOf x).toNat)
  case atStart => exact ⟨0, _, Nat.zero_le _, rfl, rfl, hid (by simp [Dk.BadOk]), Below.refl _ _⟩
  case round =>
    obtain ⟨i, b, hi, rfl, rfl, hok, hb⟩ := hrel
    have x3 := x2.below hb x2.lt
    have k3 := blk5 x3
    have b3 := bt b2 hb
    clear k2
    by_cases hlt : i < D.bad.length
    · obtain ⟨pb, po, hpa, hcell⟩ := (hbad _ b3).int hlt
      subst hpa
      have x0 := hcell i hlt
      have Hn := fun (c : Bool) (hc : c = false ↔ (D.there D.bad[i] = true ∧ ∀ h0 : 0 < i, D.bad[i - 1] < D.bad[i])) => hid (Dk.badOk_next hlt hok.out hc)
      cases b with
      | true =>
        have Hx := hid (Dk.badOk_stays hok.out)
        clear hcell
        go_wp2_with fail
        go_roundw
        case rel => exact ⟨i + 1, true, by omega, rfl, by go_num, hid Hx.out, hb⟩
        case measure => simp [intOf]; omega
      | false =>
        cases ht : D.there D.bad[i] with
        | false =>
          have Hx := Hn true (by simp [ht])
          have hoo := ho D.bad[i]
          rw [ht] at hoo
          clear hcell ht Hn
          go_wp2_with fail
          go_at_call 59
          refine (hoo _).mono ?_
          rintro e w4 ⟨rfl, hb4⟩
          have k4 := blk5 (x3.below hb4 x3.lt)
          go_wp2_with fail
          go_roundw
          case rel => exact ⟨i + 1, true, by omega, rfl, by go_num, hid Hx.out, bt hb hb4⟩
          case measure => simp [intOf]; omega
        | true =>
          have hoo := ho D.bad[i]
          rw [ht] at hoo
          by_cases h0 : 0 < i
          · have y0 := hcell (i - 1) (by omega)
            have t1 : ((i : Int) - 1).toNat = i - 1 := by omega
            by_cases hle : D.bad[i] ≤ D.bad[i - 1]
            · have Hx := Hn true (by simp [ht]; exact ⟨h0, hle⟩)
              clear hcell ht Hn
              go_wp2_with fail
              go_at_call 59
              refine (hoo _).mono ?_
              rintro e w4 ⟨rfl, hb4⟩
              have k4 := blk5 (x3.below hb4 x3.lt)
              have y4 := cell_below hb4 y0
              go_wp2_with fail
              go_roundw
              case rel => exact ⟨i + 1, true, by omega, rfl, by go_num, hid Hx.out, bt hb hb4⟩
              case measure => simp [intOf]; omega
            · have Hx := Hn false (by simp [ht]; intro _; omega)
              clear hcell ht Hn
              go_wp2_with fail
              go_at_call 59
              refine (hoo _).mono ?_
              rintro e w4 ⟨rfl, hb4⟩
              have k4 := blk5 (x3.below hb4 x3.lt)
              have y4 := cell_below hb4 y0
              go_wp2_with fail
              go_roundw
              case rel => exact ⟨i + 1, false, by omega, by simp; omega, by go_num, hid Hx.out, bt hb hb4⟩
              case measure => simp [intOf]; omega
          · have Hx := Hn false (by simp [ht]; intro h; omega)
            clear hcell ht Hn
            go_wp2_with fail
            go_at_call 59
            refine (hoo _).mono ?_
            rintro e w4 ⟨rfl, hb4⟩
            have k4 := blk5 (x3.below hb4 x3.lt)
            go_wp2_with fail
            go_roundw
            case rel => exact ⟨i + 1, false, by omega, rfl, by go_num, hid Hx.out, bt hb hb4⟩
            case measure => simp [intOf]; omega
    · have He := hid (Hend.out b i (by omega) hok.out)
      go_wp2_with fail
      go_ret
      exact ⟨by rw [He.out]; rfl, b3⟩
theorem d_fit (D : Dk) (p q : Pl) (w : World) (hD : IsDk w D p q) :
    Calls Try.prog 33 #[dval D p q] w fun e w' => e = .returned (.bool D.fit) ∧ Below w.heap.size w w' := by
  by_cases h : D.sz < 1 ∨ 1024 < D.sz ∨ D.data.length % 64 ≠ 0 ∨ 4096 < D.cache.length
  · exact d_fit_head D p q w hD h
  · exact d_fit_rest D p q w hD (by omega) (by omega) (by omega) (by omega)
end Go.Proofs.Ytjpjpiejcpeepaa
