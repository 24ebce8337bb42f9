/- Package dev, function by function: which devices can be, and which are the same. -/
import Derived.Test.YtjpjpiejcpeepaaDev6
import Derived.Test.YtjpjpiejcpeepaaRef01
set_option linter.unusedVariables false
namespace Go.Proofs.Ytjpjpiejcpeepaa
open Go.RowKit Go.Shelf
attribute [local go_sem] bs_mk bs_append bs_extract bs_size bs_toList bs_get

theorem eq_of_parts {α : Type} {l m : List α} {n : Nat} (h : l.length = m.length) (hn : l.length ≤ n) (hok : ∀ j (hj : j < l.length) (hj' : j < m.length), j < n → l[j] = m[j]) : l = m :=
  List.ext_getElem h fun j hj hj' => hok j hj hj' (by omega)
theorem ne_at {α : Type} {l m : List α} (i : Nat) (h1 : i < l.length) (h2 : i < m.length) (h : l[i] ≠ m[i]) : l ≠ m := fun e => h (by subst e; rfl)
set_option maxRecDepth 100000 in
theorem puts_equal (A B : Option Addr) (c d : Nat) (l m : List (Int × List UInt8)) (w : World) (hA : Cells w A (putCells l)) (hB : Cells w B (putCells m)) (hl : l.length ≤ 1099511627776) :
    Calls Try.prog 71 #[.slice A l.length c, .slice B m.length d] w fun e w' => e = .returned (.bool (decide (l = m))) ∧ Below w.heap.size w w' := by
  by_cases h2 : l.length = m.length
  case neg =>
    have Hf := hid (show decide (l = m) = false by simp; intro e; exact h2 (by rw [e]))
    have n0 : ((l.length : Int) != m.length) = true := by simp; omega
    clear h2
    go_enter Try.func71, Try.ntmps71
    go_wp2_with fail
    go_ret
    exact ⟨by rw [Hf.out]; rfl, Below.refl _ _⟩
  have n2 : ((l.length : Int) != m.length) = false := by simp; omega
  have H2 := hid h2; clear h2
  have hneq := neq_put
  go_enter Try.func71, Try.ntmps71
  go_wp2_with fail
  go_loopw [13] (fun x W => ∃ i : Nat, i ≤ l.length ∧ x = .int .i64 i ∧ Hid (∀ j (hj : j < l.length) (hj' : j < m.length), j < i → l[j] = m[j]) ∧ Below w.heap.size w W) (fun x _ => l.length - (intOf x).toNat)
  case atStart => exact ⟨0, Nat.zero_le _, rfl, hid (fun j hj hj' h0 => by omega), Below.refl _ _⟩
  case round =>
    obtain ⟨i, hi, rfl, hok, hb⟩ := hrel
    by_cases hlt : i < l.length
    · have hlt' : i < m.length := by have := H2.out; omega
      obtain ⟨pb, po, hpa, hcell⟩ := (hA.below hb).put hlt
      obtain ⟨pb', po', hpa', hcell'⟩ := (hB.below hb).put hlt'
      subst hpa
      subst hpa'
      obtain ⟨x0, x1⟩ := hcell i hlt
      obtain ⟨y0, y1⟩ := hcell' i hlt'
      have X0 := fun e : Ext wr => e.cell x0
      have X1 := fun e : Ext wr => e.cell x1
      have Y0 := fun e : Ext wr => e.cell y0
      have Y1 := fun e : Ext wr => e.cell y1
      clear hcell hcell'
      by_cases he : l[i] = m[i]
      · have he1 : decide (l[i].1 = m[i].1) = true := by simp [he]
        have he2 : decide (l[i].2 = m[i].2) = true := by simp [he]
        have He := hid he; clear he
        go_wp2_with fail
        refine wp_region_ext mixed (by kernel_rfl) ?_
        repeat (go_big_quiet_step ((fail)))
        refine wpQuiet_nil ?_
        rintro _ ⟨⟨w2, hb2⟩, rfl⟩
        go_wp2_with fail
        go_roundw
        case rel => exact ⟨i + 1, by omega, by go_num, hid (fun j hj hj' hji => by
          rcases Nat.lt_or_ge j i with h' | h'
          · exact hok.out j hj hj' h'
          · obtain rfl : j = i := by omega
            exact He.out), bt hb hb2⟩
        case measure => simp [intOf]; omega
      · have He := hid (show decide (l = m) = false by simpa using ne_at i hlt hlt' he)
        have he1 : (decide (l[i].1 = m[i].1) && decide (l[i].2 = m[i].2)) = false := by
          rw [Bool.and_eq_false_iff, decide_eq_false_iff_not, decide_eq_false_iff_not]
          by_cases h' : l[i].1 = m[i].1
          · exact .inr fun h'' => he (Prod.ext h' h'')
          · exact .inl h'
        clear he
        go_wp2_with fail
        refine wp_region_ext mixed (by kernel_rfl) ?_
        repeat (go_big_quiet_step ((fail)))
        refine wpQuiet_nil ?_
        rintro _ ⟨⟨w2, hb2⟩, rfl⟩
        go_wp2_with fail
        go_ret
        exact ⟨by rw [He.out]; rfl, bt hb hb2⟩
    · have He := hid (show decide (l = m) = true by simpa using eq_of_parts H2.out (show l.length ≤ i by omega) hok.out)
      clear hok
      go_wp2_with fail
      go_ret
      exact ⟨by rw [He.out]; rfl, hb⟩
set_option maxRecDepth 100000 in
theorem ints_equal (A B : Option Addr) (c d : Nat) (l m : List Int) (w : World) (hA : Cells w A (intCells l)) (hB : Cells w B (intCells m)) (hl : l.length ≤ 17592186044416) :
    Calls Try.prog 66 #[.slice A l.length c, .slice B m.length d] w fun e w' => e = .returned (.bool (decide (l = m))) ∧ Below w.heap.size w w' := by
  by_cases h2 : l.length = m.length
  case neg =>
    have Hf := hid (show decide (l = m) = false by simp; intro e; exact h2 (by rw [e]))
    have n0 : ((l.length : Int) != m.length) = true := by simp; omega
    clear h2
    go_enter Try.func66, Try.ntmps66
    go_wp2_with fail
    go_ret
    exact ⟨by rw [Hf.out]; rfl, Below.refl _ _⟩
  have n2 : ((l.length : Int) != m.length) = false := by simp; omega
  have H2 := hid h2; clear h2
  go_enter Try.func66, Try.ntmps66
  go_wp2_with fail
  go_loopw [13] (fun x W => ∃ i : Nat, i ≤ l.length ∧ x = .int .i64 i ∧ Hid (∀ j (hj : j < l.length) (hj' : j < m.length), j < i → l[j] = m[j]) ∧ Below w.heap.size w W) (fun x _ => l.length - (intOf x).toNat)
  case atStart => exact ⟨0, Nat.zero_le _, rfl, hid (fun j hj hj' h0 => by omega), Below.refl _ _⟩
  case round =>
    obtain ⟨i, hi, rfl, hok, hb⟩ := hrel
    by_cases hlt : i < l.length
    · have hlt' : i < m.length := by have := H2.out; omega
      obtain ⟨pb, po, hpa, hcell⟩ := (hA.below hb).int hlt
      obtain ⟨pb', po', hpa', hcell'⟩ := (hB.below hb).int hlt'
      subst hpa
      subst hpa'
      have x0 := hcell i hlt
      have y0 := hcell' i hlt'
      have X0 := fun e : Ext wr => e.cell x0
      have Y0 := fun e : Ext wr => e.cell y0
      clear hcell hcell'
      by_cases he : l[i] = m[i]
      · have he1 : (l[i] != m[i]) = false := by simp [he]
        have He := hid he; clear he
        go_wp2_with fail
        refine wp_region_ext mixed (by kernel_rfl) ?_
        repeat (go_big_quiet_step ((fail)))
        refine wpQuiet_nil ?_
        rintro _ ⟨⟨w2, hb2⟩, rfl⟩
        go_wp2_with fail
        go_roundw
        case rel => exact ⟨i + 1, by omega, by go_num, hid (fun j hj hj' hji => by
          rcases Nat.lt_or_ge j i with h' | h'
          · exact hok.out j hj hj' h'
          · obtain rfl : j = i := by omega
            exact He.out), bt hb hb2⟩
        case measure => simp [intOf]; omega
      · have He := hid (show decide (l = m) = false by simpa using ne_at i hlt hlt' he)
        have he1 : (l[i] != m[i]) = true := by simpa using he
        clear he
        go_wp2_with fail
        refine wp_region_ext mixed (by kernel_rfl) ?_
        repeat (go_big_quiet_step ((fail)))
        refine wpQuiet_nil ?_
        rintro _ ⟨⟨w2, hb2⟩, rfl⟩
        go_wp2_with fail
        go_ret
        exact ⟨by rw [He.out]; rfl, bt hb hb2⟩
    · have He := hid (show decide (l = m) = true by simpa using eq_of_parts H2.out (show l.length ≤ i by omega) hok.out)
      clear hok
      go_wp2_with fail
      go_ret
      exact ⟨by rw [He.out]; rfl, hb⟩
set_option maxRecDepth 100000 in
theorem d_same (D E : Dk) (p q p' q' : Pl) (w : World) (hD : IsDk w D p q) (hE : IsDk w E p' q') :
    Calls Try.prog 34 #[dval D p q, dval E p' q'] w fun e w' => e = .returned (.bool (D.same E)) ∧ Below w.heap.size w w' := by
  have hp := fun (W : World) (hb : Below w.heap.size w W) => puts_equal p.a p'.a p.c p'.c D.cache E.cache W (hD.cache.below hb) (hE.cache.below hb) hD.cl
  have hi := fun (W : World) (hb : Below w.heap.size w W) => ints_equal q.a q'.a q.c q'.c D.bad E.bad W (hD.bad.below hb) (hE.bad.below hb) hD.bl
  have Hw := hid (show D.same E = (decide (D.data = E.data) && (decide (D.cache = E.cache) && (decide (D.fuse = E.fuse) && (decide (D.off = E.off) && decide (D.bad = E.bad))))) by simp [Dk.same])
  clear hD hE
  obtain ⟨A1, c1⟩ := p
  obtain ⟨A2, c2⟩ := q
  obtain ⟨B1, d1⟩ := p'
  obtain ⟨B2, d2⟩ := q'
  obtain ⟨data, cache, fuse, off, bad⟩ := D
  obtain ⟨data', cache', fuse', off', bad'⟩ := E
  simp only at hp hi Hw
  have hb := below_two w (.cells #[.string (bs data), .slice A1 cache.length c1, .int .i64 fuse, .bool off, .slice A2 bad.length c2] 25) (.cells #[.string (bs data'), .slice B1 cache'.length d1, .int .i64 fuse', .bool off', .slice B2 bad'.length d2] 25)
  have hbx := (Blk.new w 25 #[.string (bs data), .slice A1 cache.length c1, .int .i64 fuse, .bool off, .slice A2 bad.length c2]).alloc (.cells #[.string (bs data'), .slice B1 cache'.length d1, .int .i64 fuse', .bool off', .slice B2 bad'.length d2] 25)
  have hby := Blk.new (w.alloc (.cells #[.string (bs data), .slice A1 cache.length c1, .int .i64 fuse, .bool off, .slice A2 bad.length c2] 25)) 25 #[.string (bs data'), .slice B1 cache'.length d1, .int .i64 fuse', .bool off', .slice B2 bad'.length d2]
  simp only [World.size_alloc] at hby
  by_cases h1 : data = data'
  case neg =>
    have e1 : (data == data') = false := by simpa using h1
    have Hf := hid (Hw.out.trans (by simp [h1] : _ = false))
    clear h1
    go_enter Try.func34, Try.ntmps34
    go_wp2_with fail
    go_ret
    exact ⟨by rw [Hf.out]; rfl, hb⟩
  subst h1
  go_enter Try.func34, Try.ntmps34
  go_wp2_with fail
  go_at_call 71
  refine (hp _ hb).mono ?_
  rintro e w1 ⟨rfl, hb1⟩
  replace hbx := hbx.below hb1 (by simp; omega)
  replace hby := hby.below hb1 (by simp)
  have k0 := blk5 hbx
  have k1 := blk5 hby
  have b1 := bt hb hb1
  cases h2 : decide (cache = cache') with
  | false =>
    have Hf := hid (Hw.out.trans (by rw [h2]; simp : _ = false))
    go_wp2_with fail
    go_ret
    exact ⟨by rw [Hf.out]; rfl, b1⟩
  | true =>
    have H2 := hid h2
    clear h2
    by_cases h3 : fuse = fuse'
    case neg =>
      have e3 : (fuse == fuse') = false := by simpa using h3
      have Hf := hid (Hw.out.trans (by simp [h3] : _ = false))
      clear h3
      go_wp2_with fail
      go_ret
      exact ⟨by rw [Hf.out]; rfl, b1⟩
    subst h3
    by_cases h4 : off = off'
    case neg =>
      have e4 : (off == off') = false := by simpa using h4
      have Hf := hid (Hw.out.trans (by simp [h4] : _ = false))
      clear h4
      go_wp2_with fail
      go_ret
      exact ⟨by rw [Hf.out]; rfl, b1⟩
    subst h4
    have Hf := hid (Hw.out.trans (by rw [H2.out]; simp : _ = decide (bad = bad')))
    go_wp2_with fail
    go_at_call 66
    refine (hi _ b1).mono ?_
    rintro e w2 ⟨rfl, hb2⟩
    go_wp2_with fail
    go_ret
    exact ⟨by rw [Hf.out]; rfl, bt b1 hb2⟩
set_option maxRecDepth 100000 in
theorem d_fit1 (D : Dk) (p q : Pl) (w : World) (h : D.data.length ≤ 140737488355328) (B : Nat) (hB : Blk w B 25 #[.string (bs D.data), .slice p.a D.cache.length p.c, .int .i64 D.fuse, .bool D.off, .slice q.a D.bad.length q.c]) (a : Int) (s : List UInt8) (hs : s.length ≤ 9223372036854775807) :
    Calls Try.prog 70 #[.agg #[.int .i64 a, .string (bs s)], .pointer (some ⟨B, 0, none⟩)] w fun e w' => e = .returned (.bool (!D.putOk (a, s))) ∧ Below w.heap.size w w' := by
  have ho := d_out D p q h a
  have Hw := hid (show (!D.putOk (a, s)) = ((!D.there a) || ((s.length : Int) != 64)) by
    simp only [Dk.putOk, Bool.not_and]; congr 1
    rw [← decide_not]; by_cases e : s.length = 64 <;> simp [e]
    omega)
  obtain ⟨A1, c1⟩ := p
  obtain ⟨A2, c2⟩ := q
  simp only at hB
  have x1 := hB.alloc (.cells #[.int .i64 a, .string (bs s)] 45)
  have k1 := blk5 x1
  have z1 := Blk.new w 45 #[.int .i64 a, .string (bs s)]
  have b1 := (Below.refl w.heap.size w).alloc (Nat.le_refl _) (.cells #[.int .i64 a, .string (bs s)] 45)
  go_enter Try.func70, Try.ntmps70
  go_wp2_with fail
  go_at_call 59
  refine (ho _).mono ?_
  rintro e w2 ⟨rfl, hb2⟩
  have k2 := blk2 (z1.below hb2 z1.lt)
  cases ht : D.there a with
  | false =>
    rw [ht] at Hw
    go_wp2_with fail
    go_ret
    exact ⟨by rw [Hw.out]; rfl, bt b1 hb2⟩
  | true =>
    rw [ht] at Hw
    go_wp2_with fail
    go_ret
    exact ⟨by rw [Hw.out]; rfl, bt b1 hb2⟩
set_option maxRecDepth 100000 in
theorem d_indexFunc (D : Dk) (p q : Pl) (w : World) (hD : IsDk w D p q) (B : Nat) (hB : Blk w B 25 #[.string (bs D.data), .slice p.a D.cache.length p.c, .int .i64 D.fuse, .bool D.off, .slice q.a D.bad.length q.c]) :
    Calls Try.prog 89 #[.slice p.a D.cache.length p.c, .func (.func 70) #[] #[.pointer (some ⟨B, 0, none⟩)]] w fun e w' => (∃ n : Int, e = .returned (.int .i64 n) ∧ (0 ≤ n) = (D.cache.all D.putOk = false)) ∧ Below w.heap.size w w' := by
  have h1 := fun (W : World) (hb : Below w.heap.size w W) => d_fit1 D p q W hD.data B (hB.below hb hB.lt)
  have hc := fun (W : World) (hb : Below w.heap.size w W) => hD.cache.below hb
  have hst := hD.strs
  have hcl := hD.cl
  clear hB hD
  obtain ⟨A1, c1⟩ := p
  obtain ⟨A2, c2⟩ := q
  simp only at hc
  go_enter Try.func89, Try.ntmps89
  go_wp2_with fail
  go_loopw [8] (fun x W => ∃ i : Nat, i ≤ D.cache.length ∧ x = .int .i64 i ∧ Hid (∀ j (hj : j < D.cache.length), j < i → D.putOk D.cache[j] = true) ∧ Below w.heap.size w W) (fun x _ => D.cache.length - (intOf x).toNat)
  case atStart => exact ⟨0, Nat.zero_le _, rfl, hid (fun j hj h0 => by omega), Below.refl _ _⟩
  case round =>
    obtain ⟨i, hi, rfl, hok, hb⟩ := hrel
    by_cases hlt : i < D.cache.length
    · obtain ⟨pb, po, hpa, hcell⟩ := (hc _ hb).put hlt
      subst hpa
      obtain ⟨x0, x1⟩ := hcell i hlt
      clear hcell
      have hs := hst _ (List.getElem_mem hlt)
      have hcl1 := h1 _ hb D.cache[i].1 D.cache[i].2 hs
      have Hi := hid (show D.putOk (D.cache[i].1, D.cache[i].2) = D.putOk D.cache[i] from rfl)
      cases hp : D.putOk D.cache[i] with
      | true =>
        rw [Hi.out, hp] at hcl1
        have Hp := hid hp; clear hp
        go_wp2_with fail
        go_at_call 70
        refine hcl1.mono ?_
        rintro e w2 ⟨rfl, hb2⟩
        go_wp2_with fail
        go_roundw
        case rel => exact ⟨i + 1, by omega, by go_num, hid (fun j hj hji => by
          rcases Nat.lt_or_ge j i with h' | h'
          · exact hok.out j hj h'
          · obtain rfl : j = i := by omega
            exact Hp.out), bt hb hb2⟩
        case measure => simp [intOf]; omega
      | false =>
        rw [Hi.out, hp] at hcl1
        have Hp := hid (show D.cache.all D.putOk = false by rw [List.all_eq_false]; exact ⟨_, List.getElem_mem hlt, by simp [hp]⟩)
        clear hp
        go_wp2_with fail
        go_at_call 70
        refine hcl1.mono ?_
        rintro e w2 ⟨rfl, hb2⟩
        go_wp2_with fail
        go_ret
        exact ⟨⟨(i : Int), rfl, by rw [Hp.out]; simp⟩, bt hb hb2⟩
    · have Hp := hid (show D.cache.all D.putOk = true by
        rw [List.all_eq_true]; intro x hx; obtain ⟨j, hj, rfl⟩ := List.getElem_of_mem hx; exact hok.out j hj (by omega))
      clear hok
      go_wp2_with fail
      go_ret
      exact ⟨⟨-1, rfl, by rw [Hp.out]; simp⟩, hb⟩
set_option maxRecDepth 100000 in
theorem d_containsFunc (D : Dk) (p q : Pl) (w : World) (hD : IsDk w D p q) (B : Nat) (hB : Blk w B 25 #[.string (bs D.data), .slice p.a D.cache.length p.c, .int .i64 D.fuse, .bool D.off, .slice q.a D.bad.length q.c]) :
    Calls Try.prog 69 #[.slice p.a D.cache.length p.c, .func (.func 70) #[] #[.pointer (some ⟨B, 0, none⟩)]] w fun e w' => e = .returned (.bool (!D.cache.all D.putOk)) ∧ Below w.heap.size w w' := by
  have hi := d_indexFunc D p q w hD B hB
  clear hD hB
  obtain ⟨A1, c1⟩ := p
  go_enter Try.func69, Try.ntmps69
  go_wp2_with fail
  go_at_call 89
  refine hi.mono ?_
  rintro e w2 ⟨⟨n, rfl, hn⟩, hb2⟩
  have Hn := hid (show (!D.cache.all D.putOk) = decide (0 ≤ n) by
    cases h : D.cache.all D.putOk <;> rw [h] at hn <;> simp at hn ⊢ <;> omega)
  clear hn
  go_wp2_with fail
  go_ret
  exact ⟨by rw [Hn.out]; rfl, hb2⟩
end Go.Proofs.Ytjpjpiejcpeepaa
