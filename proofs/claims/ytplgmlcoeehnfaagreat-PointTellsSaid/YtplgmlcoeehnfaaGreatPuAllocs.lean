/- Package alloc and the document's ref09: clusters that are free. Package alloc and the document's ref09: how many clusters are in use. Package alloc: the free clusters, one by one. Package alloc: the first free cluster. Package alloc: a cluster is taken. -/
import Derived.Test.YtplgmlcoeehnfaaGreatPuRefcs
import Derived.Test.YtplgmlcoeehnfaaGreatPuPlain1
import Derived.Test.YtplgmlcoeehnfaaGreatPuRanges
import Derived.WalkMore
import Derived.BigQuiet
set_option linter.unusedVariables false
namespace Go.Proofs.YtplgmlcoeehnfaaGreat
open Go.RowKit Go.Shelf
attribute [local go_sem] bs_mk bs_append bs_extract bs_size bs_toList bs_get
theorem Pn.both_err1 {D : Dk} {L : Pn} {k : Nat} {a e : Int} (h1 : Pn.cntGet D L k = (a, e)) (he : e ≠ 0) : Pn.both D L k = (0, e) ∧ Pn.stopsAt D L k = true := by
  have h : Pn.both D L k = (0, e) := by rw [Pn.both, h1, if_pos he]
  exact ⟨h, by simp [Pn.stopsAt, h, he]⟩
theorem Pn.both_err2 {D : Dk} {L : Pn} {k : Nat} {a b e : Int} (h1 : Pn.cntGet D L k = (a, 0)) (h2 : Pn.cntGet D Pn.none k = (b, e)) (he : e ≠ 0) : Pn.both D L k = (0, e) ∧ Pn.stopsAt D L k = true := by
  have h : Pn.both D L k = (0, e) := by rw [Pn.both, h1, h2, if_neg (by simp), if_pos he]
  exact ⟨h, by simp [Pn.stopsAt, h, he]⟩
theorem Pn.both_sum {D : Dk} {L : Pn} {k : Nat} {a b : Int} (h1 : Pn.cntGet D L k = (a, 0)) (h2 : Pn.cntGet D Pn.none k = (b, 0)) : Pn.both D L k = (a + b, 0) ∧ (Pn.stopsAt D L k = decide (a + b = 0)) := by
  have h : Pn.both D L k = (a + b, 0) := by rw [Pn.both, h1, h2, if_neg (by simp), if_neg (by simp)]
  exact ⟨h, by simp [Pn.stopsAt, h]⟩
theorem Pn.find_stop {D : Dk} {L : Pn} {h : Nat} {k : Nat} {a e : Int} (hk : k < h) (hn : ∀ j, j < k → Pn.stopsAt D L j = false) (hb : Pn.both D L k = (a, e)) (hs : Pn.stopsAt D L k = true) : Pn.alFind D L h = if e ≠ 0 then (0, e) else ((k : Int), 0) := by
  rw [Pn.alFind_hit (h := (h : Int)) (k := k) (by omega) hs hn, hb]
theorem Pn.next_stop {D : Dk} {L : Pn} {k : Nat} (hn : ∀ j, j < k → Pn.stopsAt D L j = false) (h : Pn.stopsAt D L k = false) : ∀ j, j < k + 1 → Pn.stopsAt D L j = false := fun j hj => by
  rcases Nat.lt_or_eq_of_le (Nat.le_of_lt_succ hj) with h' | h'
  · exact hn j h'
  · rw [h']; exact h

end Go.Proofs.YtplgmlcoeehnfaaGreat
set_option linter.unusedVariables false
namespace Go.Proofs.YtplgmlcoeehnfaaGreat
open Go.RowKit Go.Shelf
attribute [local go_sem] bs_mk bs_append bs_extract bs_size bs_toList bs_get
end Go.Proofs.YtplgmlcoeehnfaaGreat
set_option linter.unusedVariables false
namespace Go.Proofs.YtplgmlcoeehnfaaGreat
open Go.RowKit Go.Shelf
attribute [local go_sem] bs_mk bs_append bs_extract bs_size bs_toList bs_get Oper.semAt_some
/-- The first that is handed out is what is looked for. -/
def FreeP (D : Dk) (L : Pn) (h : Nat) (ys : List (Int × Int)) : Prop := ∀ y r, ys = y :: r → y = Pn.alFind D L h
def FreeS (D : Dk) (L : Pn) (h : Nat) (ys : List (Int × Int)) : Prop := (ys = [] → Pn.alFind D L h = (0, 17)) ∧ FreeP D L h ys
theorem FreeP.next {D : Dk} {L : Pn} {h : Nat} {ys : List (Int × Int)} (hp : FreeP D L h ys) {y : Int × Int} (hy : ys = [] → y = Pn.alFind D L h) : FreeP D L h (ys ++ [y]) := by
  intro z r e
  cases ys with
  | nil => simp only [List.nil_append, List.cons.injEq] at e; rw [← e.1]; exact hy rfl
  | cons a l => simp only [List.cons_append, List.cons.injEq] at e; rw [← e.1]; exact hp a l rfl
theorem FreeP.done {D : Dk} {L : Pn} {h : Nat} {ys : List (Int × Int)} {y : Int × Int} (hp : FreeP D L h (ys ++ [y])) : FreeS D L h (ys ++ [y]) := ⟨fun e => absurd e (by simp), hp⟩
def frEnc (x : Int × Int) : Array Value := #[.int .i64 x.1, .int .i64 x.2]
theorem blk4 {w : World} {g : Nat} {t : TypeId} {a b c d : Value} (h : Blk w g t #[a, b, c, d]) :
    w.cell? ⟨g, 0, none⟩ = some a ∧ w.cell? ⟨g, 1, none⟩ = some b ∧ w.cell? ⟨g, 2, none⟩ = some c ∧ w.cell? ⟨g, 3, none⟩ = some d := ⟨h.cell 0, h.cell 1, h.cell 2, h.cell 3⟩
/-- What was summed when j plans were asked. -/
def SumTo (D : Dk) (L : Pn) (m j : Nat) (s : Int) : Prop := (j = 0 ∧ s = 0) ∨ (j = 1 ∧ ∃ a, Pn.cntGet D L m = (a, 0) ∧ s = a) ∨ (j = 2 ∧ ∃ a b, Pn.cntGet D L m = (a, 0) ∧ Pn.cntGet D Pn.none m = (b, 0) ∧ s = a + b)
set_option maxRecDepth 100000 in
set_option maxHeartbeats 2000000 in
theorem free_stops (n : Nat) (hn : 2 ≤ n) (D : Dk) (L : Pn) (p q p' q' : Pl) (hf : D.fit = true) (hfl : L.Fit) (g : Int) (h : Nat) (hh : h ≤ 256) (B0 Bg Bp Bd : Nat) (w : World) (h0 : B0 ≤ w.heap.size)
    (hDW : ∀ W, Below B0 w W → IsDk W D p q ∧ IsPn W L p' q') (bg : Blk w Bg 30 #[.int .i64 g, .int .i64 h])
    (bp : Blk w Bp 28 #[.slice p'.a L.targets.length p'.c, .slice q'.a L.data.length q'.c])
    (bd : Blk w Bd 25 #[.string (bs D.data), .slice p.a D.cache.length p.c, .int .i64 D.fuse, .bool D.off, .slice q.a D.bad.length q.c]) :
    SeqO Fence.wide n Tryz.prog 226 #[.pointer (some ⟨Bg, 0, none⟩), .pointer (some ⟨Bp, 0, none⟩), .pointer (some ⟨Bd, 0, none⟩)] frEnc (KeepB B0 [Bg, Bp, Bd])
      (FreeS D L h) (FreeP D L h) h w := by
  intro l J Jx W hW hJ hJx hY h0J
  have hfn : Fence.wide.fn 169 := trivial
  have h1 : 1 ≤ n := by omega
  have h2 : 1 ≤ n - 1 := by omega
  have HY := hid hY
  have kW : KeepB B0 [Bg, Bp, Bd] w W := KeepB.later hW h0 (fun g hg => by
    simp only [List.mem_cons, List.not_mem_nil, or_false] at hg
    rcases hg with rfl | rfl | rfl
    · exact bg.lt
    · exact bp.lt
    · exact bd.lt)
  have Hg1 := hid (fun (V : World) (hb : KeepB B0 [Bg, Bp, Bd] w V) (m : Nat) => rc_get D L p q p' q' V (hDW V hb.below).1 (hDW V hb.below).2 hf hfl m)
  have Hg2 := hid (fun (V : World) (hb : KeepB B0 [Bg, Bp, Bd] w V) (m : Nat) => rc_get D Pn.none p q ⟨none, 0⟩ ⟨none, 0⟩ V (hDW V hb.below).1 (isPn_zero _) hf Pn.none_fit m)
  have Hle1 := hid (fun k => Pn.cntGet_le D L k)
  have Hle2 := hid (fun k => Pn.cntGet_le D Pn.none k)
  obtain ⟨A1, a1⟩ := p
  obtain ⟨A2, a2⟩ := q
  obtain ⟨B1, b1⟩ := p'
  obtain ⟨B2, b2⟩ := q'
  have in1 : Bg ∈ [Bg, Bp, Bd] := by simp
  have in2 : Bp ∈ [Bg, Bp, Bd] := by simp
  have in3 : Bd ∈ [Bg, Bp, Bd] := by simp
  have Hin := hid (fun (V : World) (hb : KeepB B0 [Bg, Bp, Bd] w V) (g : Nat) (hg : g ∈ [Bg, Bp, Bd]) => show g < V.heap.size by
    simp only [List.mem_cons, List.not_mem_nil, or_false] at hg
    rcases hg with rfl | rfl | rfl
    · exact (bg.at_ (hb.at_ _ in1)).lt
    · exact (bp.at_ (hb.at_ _ in2)).lt
    · exact (bd.at_ (hb.at_ _ in3)).lt)
  have bg0 := blk2 (bg.at_ (kW.at_ _ in1))
  refine callsIn_of_wp Tryz.func226 rfl trivial ?_ rfl
  simp only [Tryz.ntmps226, List.size_toArray, List.length_cons, List.length_nil, Nat.reduceAdd, Nat.reduceSub, Array.replicate_succ, Array.replicate_zero, List.push_toArray, List.append_toArray, List.nil_append, List.cons_append]
  clear hY
  gi_wp2
  gi_loopw [13] (fun x V => ∃ m : Nat, m ≤ h ∧ x = .int .i64 m ∧ ∃ ys : List (Int × Int), Hid (ys.length ≤ m ∧ (ys = [] → ∀ j, j < m → Pn.stopsAt D L j = false) ∧ FreeP D L h ys) ∧ J ys V ∧ KeepB B0 [Bg, Bp, Bd] w V) (fun x _ => h - (intOf x).toNat)
  case atStart => exact ⟨0, Nat.zero_le _, rfl, [], hid ⟨Nat.le_refl _, fun _ j hj => by omega, fun y r e => by cases e⟩, h0J, kW⟩
  case round =>
    obtain ⟨m, hm, rfl, ys, hys, hJm, hk⟩ := hrel
    clear bg0 h0J kW
    by_cases hlt : m < h
    · have bp0 := blk2 (bp.at_ (hk.at_ _ in2))
      have Hw0 := hid (Nat.le_trans h0 hk.below.size)
      -- gen/alloc3.py
      gi_wp2
      have w1b := (Below.refl wr.heap.size wr).alloc (Nat.le_refl _) (.cells #[.slice B1 L.targets.length b1, .slice B2 L.data.length b2, .slice none 0 0, .slice none 0 0] 28)
      have k1 : KeepB B0 [Bg, Bp, Bd] wr (wr.alloc (.cells #[.slice B1 L.targets.length b1, .slice B2 L.data.length b2, .slice none 0 0, .slice none 0 0] 28)) := KeepB.later w1b Hw0.out (fun g hg => Hin.out wr hk g hg)
      have s1 := Blk.new wr 28 #[.slice B1 L.targets.length b1, .slice B2 L.data.length b2, .slice none 0 0, .slice none 0 0]
      have J1 : J ys (wr.alloc (.cells #[.slice B1 L.targets.length b1, .slice B2 L.data.length b2, .slice none 0 0, .slice none 0 0] 28)) := OwnFrom.later hJ hJm w1b
      have hk1 := hk.trans k1
      generalize wr.alloc (.cells #[.slice B1 L.targets.length b1, .slice B2 L.data.length b2, .slice none 0 0, .slice none 0 0] 28) = V1 at *
      generalize wr.heap.size = gs at s1 ⊢
      clear bp0 w1b k1 hk hJm Hw0
      gi_loopw [6, 20] (fun s x V => ∃ j : Nat, j ≤ 2 ∧ x = .int .i64 j ∧ ∃ c : Int, s = .int .i64 c ∧ Hid (SumTo D L m j c) ∧ (0 ≤ c ∧ c ≤ 65535 * j) ∧ J ys V ∧ KeepB B0 [Bg, Bp, Bd] w V ∧ Blk V gs 28 #[.slice B1 L.targets.length b1, .slice B2 L.data.length b2, .slice none 0 0, .slice none 0 0]) (fun _ x _ => 2 - (intOf x).toNat)
      case atStart => exact ⟨0, by omega, rfl, 0, rfl, hid (.inl ⟨rfl, rfl⟩), by omega, J1, hk1, s1⟩
      case round =>
        obtain ⟨j, hj, rfl, c, rfl, hsum, ⟨c0, c1⟩, hJ2, hk2, s2⟩ := hrel
        clear J1 hk1 s1
        by_cases hj2 : j = 0
        · subst hj2
          have sk := blk4 s2
          have hc : Hid (c = 0) := hid (by rcases hsum.out with ⟨_, h⟩ | ⟨h, _⟩ | ⟨h, _⟩; exact h; omega; omega)
          have ab := (Below.refl wr.heap.size wr).alloc (Nat.le_refl _) (.cells #[.slice B1 L.targets.length b1, .slice B2 L.data.length b2] 28)
          have hk3 := hk2.trans (KeepB.later ab (Nat.le_trans h0 hk2.below.size) (fun g hg => Hin.out wr hk2 g hg))
          have bd0 := blk5 (bd.at_ (hk3.at_ _ in3))
          have q1 := Hg1.out _ hk3 m
          have l1 := Hle1.out m
          obtain ⟨⟨a, e⟩, hx⟩ : ∃ x, Pn.cntGet D L m = x := ⟨_, rfl⟩
          rw [hx] at q1 l1
          simp only at q1 l1
          obtain ⟨l1a, l1b⟩ := l1
          have Hx := hid hx
          have Hk2 := hid hk2
          have Hk3 := hid hk3
          have Hab := hid ab
          clear hx hk2 hk3 ab
          by_cases he : e = 0
          · subst he
            gi_wp2_with (gi_at_call 169; refine (callsIn_wide.2 q1).mono ?_; rintro e' W2 ⟨rfl, hb2⟩)
            have bb := bt Hab.out hb2
            go_roundw
            case rel => exact ⟨1, by omega, by first | rfl | go_num, c + a, rfl, hid (Or.inr (.inl ⟨rfl, a, Hx.out, by rw [hc.out]; omega⟩)), by omega, OwnFrom.later hJ hJ2 bb, Hk2.out.trans (KeepB.later bb (Nat.le_trans h0 Hk2.out.below.size) (fun g hg => Hin.out wr Hk2.out g hg)), s2.below bb s2.lt⟩
            case measure => simp [intOf]
          · have n1 : (e != 0) = true := by simpa using he
            have Hz := hid (Pn.both_err1 Hx.out he)
            clear he
            gi_wp2_with (gi_at_call 169; refine (callsIn_wide.2 q1).mono ?_; rintro e' W2 ⟨rfl, hb2⟩)
            have bb := bt Hab.out hb2
            obtain ⟨fn, tmps, assign, body, hy, hR⟩ := HY.out ys (0, e) W2 (OwnFrom.later hJ hJ2 bb) (by have := hys.out.1; omega)
            simp only [frEnc] at hy
            rw [hy]
            refine ⟨fun _ => h1, ?_⟩
            refine hR.mono ?_
            have hp := FreeP.next (y := (0, e)) hys.out.2.2 (fun e' => by rw [Pn.find_stop hlt (hys.out.2.1 e') Hz.out.1 Hz.out.2, if_pos (by simpa using n1)])
            rintro e3 W3 (⟨rfl, hJ3, _, hk3⟩ | ⟨rfl, hJx3, _⟩)
            · gi_wp2
              refine bodyPost_ret (results_none rfl _ _ _) rfl ?_
              exact ⟨⟨_, rfl⟩, .inl ⟨_, hp.done, hJ3⟩⟩
            · gi_wp2
              refine bodyPost_ret (results_none rfl _ _ _) rfl ?_
              exact ⟨⟨_, rfl⟩, .inr ⟨_, hp, hJx3⟩⟩
        by_cases hj3 : j = 1
        · subst hj3
          have sk := blk4 s2
          obtain ⟨a0, ha0, hca⟩ : ∃ a0, Hid (Pn.cntGet D L m = (a0, 0)) ∧ Hid (c = a0) := by
            rcases hsum.out with ⟨h, _⟩ | ⟨_, a0, h, h'⟩ | ⟨h, _⟩
            · omega
            · exact ⟨a0, hid h, hid h'⟩
            · omega
          clear hj2
          have ab := (Below.refl wr.heap.size wr).alloc (Nat.le_refl _) (.cells #[.slice none 0 0, .slice none 0 0] 28)
          have hk3 := hk2.trans (KeepB.later ab (Nat.le_trans h0 hk2.below.size) (fun g hg => Hin.out wr hk2 g hg))
          have bd0 := blk5 (bd.at_ (hk3.at_ _ in3))
          have q1 := Hg2.out _ hk3 m
          have l1 := Hle2.out m
          obtain ⟨⟨a, e⟩, hx⟩ : ∃ x, Pn.cntGet D Pn.none m = x := ⟨_, rfl⟩
          rw [hx] at q1 l1
          simp only at q1 l1
          obtain ⟨l1a, l1b⟩ := l1
          have Hx := hid hx
          have Hk2 := hid hk2
          have Hk3 := hid hk3
          have Hab := hid ab
          clear hx hk2 hk3 ab
          by_cases he : e = 0
          · subst he
            gi_wp2_with (gi_at_call 169; refine (callsIn_wide.2 q1).mono ?_; rintro e' W2 ⟨rfl, hb2⟩)
            have bb := bt Hab.out hb2
            go_roundw
            case rel => exact ⟨2, by omega, by first | rfl | go_num, c + a, rfl, hid (Or.inr (.inr ⟨rfl, a0, a, ha0.out, Hx.out, by rw [hca.out]⟩)), by omega, OwnFrom.later hJ hJ2 bb, Hk2.out.trans (KeepB.later bb (Nat.le_trans h0 Hk2.out.below.size) (fun g hg => Hin.out wr Hk2.out g hg)), s2.below bb s2.lt⟩
            case measure => simp [intOf]
          · have n1 : (e != 0) = true := by simpa using he
            have Hz := hid (Pn.both_err2 ha0.out Hx.out he)
            clear he
            gi_wp2_with (gi_at_call 169; refine (callsIn_wide.2 q1).mono ?_; rintro e' W2 ⟨rfl, hb2⟩)
            have bb := bt Hab.out hb2
            obtain ⟨fn, tmps, assign, body, hy, hR⟩ := HY.out ys (0, e) W2 (OwnFrom.later hJ hJ2 bb) (by have := hys.out.1; omega)
            simp only [frEnc] at hy
            rw [hy]
            refine ⟨fun _ => h1, ?_⟩
            refine hR.mono ?_
            have hp := FreeP.next (y := (0, e)) hys.out.2.2 (fun e' => by rw [Pn.find_stop hlt (hys.out.2.1 e') Hz.out.1 Hz.out.2, if_pos (by simpa using n1)])
            rintro e3 W3 (⟨rfl, hJ3, _, hk3⟩ | ⟨rfl, hJx3, _⟩)
            · gi_wp2
              refine bodyPost_ret (results_none rfl _ _ _) rfl ?_
              exact ⟨⟨_, rfl⟩, .inl ⟨_, hp.done, hJ3⟩⟩
            · gi_wp2
              refine bodyPost_ret (results_none rfl _ _ _) rfl ?_
              exact ⟨⟨_, rfl⟩, .inr ⟨_, hp, hJx3⟩⟩
        obtain rfl : j = 2 := by omega
        obtain ⟨a0, b0, ha0, hb0, hcs⟩ : ∃ a0 b0, Hid (Pn.cntGet D L m = (a0, 0)) ∧ Hid (Pn.cntGet D Pn.none m = (b0, 0)) ∧ Hid (c = a0 + b0) := by
          rcases hsum.out with ⟨h, _⟩ | ⟨h, _⟩ | ⟨_, a0, b0, h, h', h''⟩
          · omega
          · omega
          · exact ⟨a0, b0, hid h, hid h', hid h''⟩
        have Hb := hid (Pn.both_sum ha0.out hb0.out)
        clear hj2 hj3 hsum
        by_cases hc : c = 0
        · subst hc
          have Hz := hid (show Pn.both D L m = (0, 0) ∧ Pn.stopsAt D L m = true from ⟨by rw [Hb.out.1, ← hcs.out], by rw [Hb.out.2, ← hcs.out]; rfl⟩)
          have bb := Below.refl wr.heap.size wr
          gi_wp2
          obtain ⟨fn, tmps, assign, body, hy, hR⟩ := HY.out ys ((m : Int), 0) wr hJ2 (by have := hys.out.1; omega)
          simp only [frEnc] at hy
          rw [hy]
          refine ⟨fun _ => h1, ?_⟩
          refine hR.mono ?_
          have hp := FreeP.next (y := ((m : Int), 0)) hys.out.2.2 (fun e' => by rw [Pn.find_stop hlt (hys.out.2.1 e') Hz.out.1 Hz.out.2, if_neg (by simp)])
          rintro e3 W3 (⟨rfl, hJ3, _, hk3⟩ | ⟨rfl, hJx3, _⟩)
          · gi_wp2
            go_roundw
            case rel => exact ⟨m + 1, by omega, by go_num, ys ++ [((m : Int), 0)], hid ⟨by have := hys.out.1; simp; omega, fun e => absurd e (by simp), hp⟩, hJ3, hk2.trans hk3⟩
            case measure => simp [intOf]; omega
          · gi_wp2
            refine bodyPost_ret (results_none rfl _ _ _) rfl ?_
            exact ⟨⟨_, rfl⟩, .inr ⟨_, hp, hJx3⟩⟩
        · have n2 : (c == 0) = false := by simpa using hc
          have Hn := hid (show Pn.stopsAt D L m = false by rw [Hb.out.2, ← hcs.out]; simpa using hc)
          clear hc
          gi_wp2
          refine ⟨fun _ h => (nomatch h), ?_⟩
          gi_wp2
          go_roundw
          case rel => exact ⟨m + 1, by omega, by go_num, ys, hid ⟨by have := hys.out.1; omega, fun e => Pn.next_stop (hys.out.2.1 e) Hn.out, hys.out.2.2⟩, hJ2, hk2⟩
          case measure => simp [intOf]; omega
    · obtain rfl : m = h := by omega
      gi_wp2
      go_end0
      exact ⟨⟨_, rfl⟩, .inl ⟨_, ⟨fun e => Pn.alFind_miss (fun j hj => hys.out.2.1 e j (by omega)), hys.out.2.2⟩, hJm⟩⟩
end Go.Proofs.YtplgmlcoeehnfaaGreat
set_option linter.unusedVariables false
namespace Go.Proofs.YtplgmlcoeehnfaaGreat
open Go.RowKit Go.Shelf
attribute [local go_sem] bs_mk bs_append bs_extract bs_size bs_toList bs_get Oper.semAt_some
theorem free_in (n : Nat) (D : Dk) (L : Pn) (p q p' q' : Pl) (g h : Int) (w : World) :
    CallsIn Fence.wide n Tryz.prog 219 #[dval D p q, pval L p' q', gval g h] w fun e w' => e = .returned (.func (.func 226) #[] #[.pointer (some ⟨w.heap.size + 1 + 1, 0, none⟩), .pointer (some ⟨w.heap.size + 1, 0, none⟩), .pointer (some ⟨w.heap.size, 0, none⟩)]) ∧
      w' = ((w.alloc (.cells #[.string (bs D.data), .slice p.a D.cache.length p.c, .int .i64 D.fuse, .bool D.off, .slice q.a D.bad.length q.c] 25)).alloc (.cells #[.slice p'.a L.targets.length p'.c, .slice q'.a L.data.length q'.c] 28)).alloc (.cells #[.int .i64 g, .int .i64 h] 30) := by
  refine callsIn_of_wp Tryz.func219 rfl trivial ?_ rfl
  simp only [Tryz.ntmps219, List.size_toArray, List.length_cons, List.length_nil, Nat.reduceAdd, Nat.reduceSub, Array.replicate_succ, Array.replicate_zero, List.push_toArray, List.append_toArray, List.nil_append, List.cons_append]
  gi_wp2
  go_ret
  exact ⟨rfl, rfl⟩
theorem stays_set {B : Nat} {X : World} (a : Addr) (v : Value) (h : a.block < B) : Stays B X (X.setCell a v) :=
  ⟨by simp, fun k hB _ => Below.heap_setCell _ _ _ _ (by omega)⟩
set_option maxRecDepth 100000 in
set_option maxHeartbeats 1000000 in
theorem al_find (D : Dk) (L : Pn) (p q p' q' : Pl) (w : World) (hD : IsDk w D p q) (hL : IsPn w L p' q') (hf : D.fit = true) (hfl : L.Fit) (g : Int) (h : Nat) (hh : h ≤ 256) :
    Calls Tryz.prog 205 #[dval D p q, pval L p' q', gval g h] w fun e w' => e = .returned (.tuple #[.int .i64 (Pn.alFind D L h).1, .int .i64 (Pn.alFind D L h).2]) ∧ Below w.heap.size w w' := by
  have n1 : 1 ≤ 6 := by omega
  have hDW := fun (W : World) (hb : Below w.heap.size w W) => (⟨hD.below hb, hL.below hb⟩ : IsDk W D p q ∧ IsPn W L p' q')
  clear hD hL
  obtain ⟨A1, a1⟩ := p
  obtain ⟨A2, a2⟩ := q
  obtain ⟨B1, b1⟩ := p'
  obtain ⟨B2, b2⟩ := q'
  refine (callsIn_wide (n := 6)).1 (callsIn_of_wp_marks Tryz.func205 rfl trivial (wpIn_wide.2 ?_) rfl)
  simp only [Tryz.ntmps205, List.size_toArray, List.length_cons, List.length_nil, Nat.reduceAdd, Nat.reduceSub, Array.replicate_succ, Array.replicate_zero, List.push_toArray, List.append_toArray, List.nil_append, List.cons_append]
  go_wp2_with fail
  go_step3
  go_wp2_with fail
  go_step3
  go_wp2_with (go_at_call 219; refine (callsIn_wide.1 (free_in 5 D L ⟨A1, a1⟩ ⟨A2, a2⟩ ⟨B1, b1⟩ ⟨B2, b2⟩ g h _)).mono ?_; rintro e w3 ⟨rfl, rfl⟩)
  have hB := Below.refl w.heap.size w
  have hB_1 := hB.alloc hB.size (.cells #[.string (bs D.data), .slice A1 D.cache.length a1, .int .i64 D.fuse, .bool D.off, .slice A2 D.bad.length a2] 25)
  have hB_2 := hB_1.alloc hB_1.size (.cells #[.slice B1 L.targets.length b1, .slice B2 L.data.length b2] 28)
  have hB_3 := hB_2.alloc hB_2.size (.cells #[.int .i64 g, .int .i64 h] 30)
  have r0 := Blk.new (((w.alloc (.cells #[.string (bs D.data), .slice A1 D.cache.length a1, .int .i64 D.fuse, .bool D.off, .slice A2 D.bad.length a2] 25)).alloc (.cells #[.slice B1 L.targets.length b1, .slice B2 L.data.length b2] 28)).alloc (.cells #[.int .i64 g, .int .i64 h] 30)) 3 #[.int .i64 0]
  simp only [World.size_alloc] at r0
  have r0k := blk1 r0
  have hB_4 := hB_3.alloc hB_3.size (.cells #[.int .i64 0] 3)
  have r1 := Blk.new ((((w.alloc (.cells #[.string (bs D.data), .slice A1 D.cache.length a1, .int .i64 D.fuse, .bool D.off, .slice A2 D.bad.length a2] 25)).alloc (.cells #[.slice B1 L.targets.length b1, .slice B2 L.data.length b2] 28)).alloc (.cells #[.int .i64 g, .int .i64 h] 30)).alloc (.cells #[.int .i64 0] 3)) 43 #[.int .i64 17]
  simp only [World.size_alloc] at r1
  have r1k := blk1 r1
  have hB_5 := hB_4.alloc hB_4.size (.cells #[.int .i64 17] 43)
  have r0_6 := r0.alloc (.cells #[.int .i64 17] 43)
  have r0k_6 := blk1 r0_6
  have bd := Blk.new (((((w.alloc (.cells #[.string (bs D.data), .slice A1 D.cache.length a1, .int .i64 D.fuse, .bool D.off, .slice A2 D.bad.length a2] 25)).alloc (.cells #[.slice B1 L.targets.length b1, .slice B2 L.data.length b2] 28)).alloc (.cells #[.int .i64 g, .int .i64 h] 30)).alloc (.cells #[.int .i64 0] 3)).alloc (.cells #[.int .i64 17] 43)) 25 #[.string (bs D.data), .slice A1 D.cache.length a1, .int .i64 D.fuse, .bool D.off, .slice A2 D.bad.length a2]
  simp only [World.size_alloc] at bd
  have bdk := blk5 bd
  have hB_7 := hB_5.alloc hB_5.size (.cells #[.string (bs D.data), .slice A1 D.cache.length a1, .int .i64 D.fuse, .bool D.off, .slice A2 D.bad.length a2] 25)
  have r0_8 := r0_6.alloc (.cells #[.string (bs D.data), .slice A1 D.cache.length a1, .int .i64 D.fuse, .bool D.off, .slice A2 D.bad.length a2] 25)
  have r0k_8 := blk1 r0_8
  have r1_9 := r1.alloc (.cells #[.string (bs D.data), .slice A1 D.cache.length a1, .int .i64 D.fuse, .bool D.off, .slice A2 D.bad.length a2] 25)
  have r1k_9 := blk1 r1_9
  have bp := Blk.new ((((((w.alloc (.cells #[.string (bs D.data), .slice A1 D.cache.length a1, .int .i64 D.fuse, .bool D.off, .slice A2 D.bad.length a2] 25)).alloc (.cells #[.slice B1 L.targets.length b1, .slice B2 L.data.length b2] 28)).alloc (.cells #[.int .i64 g, .int .i64 h] 30)).alloc (.cells #[.int .i64 0] 3)).alloc (.cells #[.int .i64 17] 43)).alloc (.cells #[.string (bs D.data), .slice A1 D.cache.length a1, .int .i64 D.fuse, .bool D.off, .slice A2 D.bad.length a2] 25)) 28 #[.slice B1 L.targets.length b1, .slice B2 L.data.length b2]
  simp only [World.size_alloc] at bp
  have bpk := blk2 bp
  have hB_10 := hB_7.alloc hB_7.size (.cells #[.slice B1 L.targets.length b1, .slice B2 L.data.length b2] 28)
  have r0_11 := r0_8.alloc (.cells #[.slice B1 L.targets.length b1, .slice B2 L.data.length b2] 28)
  have r0k_11 := blk1 r0_11
  have r1_12 := r1_9.alloc (.cells #[.slice B1 L.targets.length b1, .slice B2 L.data.length b2] 28)
  have r1k_12 := blk1 r1_12
  have bd_13 := bd.alloc (.cells #[.slice B1 L.targets.length b1, .slice B2 L.data.length b2] 28)
  have bdk_13 := blk5 bd_13
  have bg := Blk.new (((((((w.alloc (.cells #[.string (bs D.data), .slice A1 D.cache.length a1, .int .i64 D.fuse, .bool D.off, .slice A2 D.bad.length a2] 25)).alloc (.cells #[.slice B1 L.targets.length b1, .slice B2 L.data.length b2] 28)).alloc (.cells #[.int .i64 g, .int .i64 h] 30)).alloc (.cells #[.int .i64 0] 3)).alloc (.cells #[.int .i64 17] 43)).alloc (.cells #[.string (bs D.data), .slice A1 D.cache.length a1, .int .i64 D.fuse, .bool D.off, .slice A2 D.bad.length a2] 25)).alloc (.cells #[.slice B1 L.targets.length b1, .slice B2 L.data.length b2] 28)) 30 #[.int .i64 g, .int .i64 h]
  simp only [World.size_alloc] at bg
  have bgk := blk2 bg
  have hB_14 := hB_10.alloc hB_10.size (.cells #[.int .i64 g, .int .i64 h] 30)
  have r0_15 := r0_11.alloc (.cells #[.int .i64 g, .int .i64 h] 30)
  have r0k_15 := blk1 r0_15
  have r1_16 := r1_12.alloc (.cells #[.int .i64 g, .int .i64 h] 30)
  have r1k_16 := blk1 r1_16
  have bd_17 := bd_13.alloc (.cells #[.int .i64 g, .int .i64 h] 30)
  have bdk_17 := blk5 bd_17
  have bp_18 := bp.alloc (.cells #[.int .i64 g, .int .i64 h] 30)
  have bpk_18 := blk2 bp_18
  generalize ((((((((w.alloc (.cells #[.string (bs D.data), .slice A1 D.cache.length a1, .int .i64 D.fuse, .bool D.off, .slice A2 D.bad.length a2] 25)).alloc (.cells #[.slice B1 L.targets.length b1, .slice B2 L.data.length b2] 28)).alloc (.cells #[.int .i64 g, .int .i64 h] 30)).alloc (.cells #[.int .i64 0] 3)).alloc (.cells #[.int .i64 17] 43)).alloc (.cells #[.string (bs D.data), .slice A1 D.cache.length a1, .int .i64 D.fuse, .bool D.off, .slice A2 D.bad.length a2] 25)).alloc (.cells #[.slice B1 L.targets.length b1, .slice B2 L.data.length b2] 28)).alloc (.cells #[.int .i64 g, .int .i64 h] 30)) = V at hB_14 r0_15 r0k_15 r1_16 r1k_16 bd_17 bdk_17 bp_18 bpk_18 bg bgk ⊢
  clear hB_1 hB_2 hB_3 hB_4 hB_5 r0k_6 r0_6 hB_7 r0k_8 r0_8 r1k_9 r1_9 hB_10 r0k_11 r0_11 r1k_12 r1_12 bdk_13 bd_13 hB r0 r1 bd bp r0k r1k bdk bpk
  have hB := hB_14
  have r0 := r0_15
  have r0k := r0k_15
  have r1 := r1_16
  have r1k := r1k_16
  have bd := bd_17
  have bdk := bdk_17
  have bp := bp_18
  have bpk := bpk_18
  clear hB_14 r0_15 r0k_15 r1_16 r1k_16 bd_17 bdk_17 bp_18 bpk_18
  have vl : w.heap.size + 1 + 1 + 1 + 1 + 1 + 1 + 1 < V.heap.size := bg.lt
  have hbs : ∀ g ∈ [w.heap.size + 1 + 1 + 1 + 1 + 1 + 1 + 1, w.heap.size + 1 + 1 + 1 + 1 + 1 + 1, w.heap.size + 1 + 1 + 1 + 1 + 1], g < V.heap.size ∧ w.heap.size + 1 + 1 + 1 + 1 < g := fun g hg => by
    simp only [List.mem_cons, List.not_mem_nil, or_false] at hg
    omega
  refine (wpIn_wide (n := 6)).1 ?_
  refine range_ax rfl n1 (gf := 226) (lb := #[.pointer (some ⟨w.heap.size + 1 + 1 + 1 + 1 + 1 + 1 + 1, 0, none⟩), .pointer (some ⟨w.heap.size + 1 + 1 + 1 + 1 + 1 + 1, 0, none⟩), .pointer (some ⟨w.heap.size + 1 + 1 + 1 + 1 + 1, 0, none⟩)]) rfl trivial (enters_of Tryz.func226 (by kernel_rfl) rfl)
    (free_stops 5 (by omega) D L ⟨A1, a1⟩ ⟨A2, a2⟩ ⟨B1, b1⟩ ⟨B2, b2⟩ hf hfl g h hh w.heap.size _ _ _ V hB.size (fun W hb => hDW W (hB.trans hb)) bg bp bd)
    KeepB.trans (fun W l o o' q1 q2 q3 q4 => KeepB.putObj o' (by omega) (fun g hg => by have := hbs g hg; omega)) (Below.refl _ _) (fun _ => rfl)
    (fun pre W => pre = [] ∧ (Blk W (w.heap.size + 1 + 1 + 1) 3 #[.int .i64 0] ∧ Blk W (w.heap.size + 1 + 1 + 1 + 1) 43 #[.int .i64 17]) ∧ Below w.heap.size w W)
    (fun c pre W => c = .exit 0 ∧ (∃ y : Int × Int, pre = [y] ∧ Blk W (w.heap.size + 1 + 1 + 1) 3 #[.int .i64 y.1] ∧ Blk W (w.heap.size + 1 + 1 + 1 + 1) 43 #[.int .i64 y.2]) ∧ Below w.heap.size w W)
    ?hI ?hIx ?h0
    (fun pre y a' W => pre = [] ∧ (Blk W (w.heap.size + 1 + 1 + 1) 3 #[.int .i64 y.1] ∧ Blk W (w.heap.size + 1 + 1 + 1 + 1) 43 #[.int .i64 y.2]) ∧ Below w.heap.size w W)
    ?hAx ?assign ?body ?done ?stop
  case hI =>
    rintro pre X Y row ⟨hp, ⟨h1, h2⟩, hb⟩ hy hr
    exact ⟨hp, ⟨(Own.from (blk_own _ _ (fun _ : Unit => _)) _) () X Y row h1 hy hr, (Own.from (blk_own _ _ (fun _ : Unit => _)) _) () X Y row h2 hy hr⟩, ownFrom_below (β := Unit) (Nat.le_refl _) hB.size () X Y row hb hy hr⟩
  case hIx =>
    rintro c s X Y row ⟨hc, ⟨y, e, h1, h2⟩, hb⟩ hy hr
    exact ⟨hc, ⟨y, e, (Own.from (blk_own _ _ (fun _ : Unit => _)) _) () X Y row h1 hy hr, (Own.from (blk_own _ _ (fun _ : Unit => _)) _) () X Y row h2 hy hr⟩, ownFrom_below (β := Unit) (Nat.le_refl _) hB.size () X Y row hb hy hr⟩
  case h0 => exact ⟨rfl, ⟨r0, r1⟩, hB⟩
  case hAx =>
    rintro pre y a' s X Y row ⟨hp, ⟨h1, h2⟩, hb⟩ hy hr
    exact ⟨hp, ⟨(Own.from (blk_own _ _ (fun _ : Unit => _)) _) () X Y row h1 hy hr, (Own.from (blk_own _ _ (fun _ : Unit => _)) _) () X Y row h2 hy hr⟩, ownFrom_below (β := Unit) (Nat.le_refl _) hB.size () X Y row hb hy hr⟩
  case assign =>
    rintro l pre y W K ⟨rfl, ⟨hr0, hr1⟩, hb⟩ hK
    dsimp only [frEnc]
    have k0 := blk1 hr0
    have k1 := blk1 hr1
    have f0 := hr0.frozen 0
    have f1 := hr1.frozen 0
    obtain ⟨yc, ye⟩ := y
    dsimp only at hK ⊢
    gi_wp2
    have a0 := hr0.set 0 (.int .i64 yc)
    have a1 := (hr1.other (a := ⟨w.heap.size + 1 + 1 + 1, 0, none⟩) (by simp) (.int .i64 yc)).set 0 (.int .i64 ye)
    refine hK _ _ (((KeepsOthers.setCell _ _ _).trans (KeepsOthers.setCell _ _ _)).from _) ((stays_set _ _ (by simp; omega)).trans (stays_set _ _ (by simp; omega))) ⟨((Below.refl _ _).setCell (p := ⟨w.heap.size + 1 + 1 + 1, 0, none⟩) (by simp; omega) _).setCell (p := ⟨w.heap.size + 1 + 1 + 1 + 1, 0, none⟩) (by simp; omega) _, fun g hg => (Below.heap_setCell _ _ _ _ (by have := hbs g hg; simp; omega)).trans (Below.heap_setCell _ _ _ _ (by have := hbs g hg; simp; omega))⟩ ⟨by trivial, ⟨?_, ?_⟩, (hb.setCell (p := ⟨w.heap.size + 1 + 1 + 1, 0, none⟩) (by simp; omega) _).setCell (p := ⟨w.heap.size + 1 + 1 + 1 + 1, 0, none⟩) (by simp; omega) _⟩
    · exact Blk.other (by simpa using a0) (by simp) _
    · simpa using a1
  case body =>
    rintro l pre y a' W ⟨rfl, ⟨hr0, hr1⟩, hb⟩ hpl
    gi_wp2
    exact ⟨KeepsFrom.refl _ _, rfl, ⟨y, rfl, hr0, hr1⟩, hb⟩
  case done =>
    rintro Dd ys U hDd hS ⟨rfl, ⟨hr0, hr1⟩, hb⟩ hK
    have k0 := blk1 hr0
    have k1 := blk1 hr1
    have Hf := hid (hS.1 rfl)
    clear hS
    go_wp2_with fail
    go_quiet (fail)
    go_wp2_with fail
    have hK2 : (U.drewN nq).heap[Dd]? = some (.deferred (some [])) := hK
    refine ⟨by simp, .inl ⟨_, _, rfl, run_takeDeferred hK2, ?_⟩⟩
    refine ⟨.tuple #[.int .i64 0, .int .i64 17], by simp [results, Tryz.results205, go_sem], ?_, ?_⟩
    · rw [Hf.out]
    · exact (below_drewN hb nq).trans (belowK_b (w := w) (Nat.le_refl _) (U.drewN nq) Dd _ _ (by have := hB.size; omega) hK2 rfl rfl)
  case stop =>
    rintro Dd c pre U hDd hpre ⟨rfl, ⟨y, rfl, hr0, hr1⟩, hb⟩ hK
    have k0 := blk1 hr0
    have k1 := blk1 hr1
    have Hf := hid (hpre y [] rfl)
    refine wpIn_wide.2 ?_
    go_wp2_with fail
    go_quiet (fail)
    go_wp2_with fail
    have hK2 : (U.drewN nq).heap[Dd]? = some (.deferred (some [])) := hK
    refine ⟨by simp, .inl ⟨_, _, rfl, run_takeDeferred hK2, ?_⟩⟩
    refine ⟨.tuple #[.int .i64 y.1, .int .i64 y.2], by simp [results, Tryz.results205, go_sem], ?_, ?_⟩
    · rw [← Hf.out]
    · exact (below_drewN hb nq).trans (belowK_b (w := w) (Nat.le_refl _) (U.drewN nq) Dd _ _ (by have := hB.size; omega) hK2 rfl rfl)
end Go.Proofs.YtplgmlcoeehnfaaGreat
set_option linter.unusedVariables false
namespace Go.Proofs.YtplgmlcoeehnfaaGreat
open Go.RowKit Go.Shelf
attribute [local go_sem] bs_mk bs_append bs_extract bs_size bs_toList bs_get
set_option maxRecDepth 100000 in
theorem al_take (D : Dk) (L : Pn) (p q p' q' : Pl) (w : World) (hD : IsDk w D p q) (hL : IsPn w L p' q') (hf : D.fit = true) (hfl : L.Fit) (g : Int) (h : Nat) (hh : h ≤ 256) :
    Calls Tryz.prog 163 #[dval D p q, pval L p' q', gval g h] w fun e w' => ∃ p1 q1, e = .returned (.tuple #[pval (Pn.alTake D L h).1 p1 q1, .int .i64 (Pn.alTake D L h).2.1, .int .i64 (Pn.alTake D L h).2.2]) ∧ IsPn w' (Pn.alTake D L h).1 p1 q1 ∧ (∀ x, x < w.heap.size → PnOff x L p' q' → PnOff x (Pn.alTake D L h).1 p1 q1) ∧ Below w.heap.size w w' := by
  have h1 := fun (W : World) (hb : Below w.heap.size w W) => al_find D L p q p' q' W (hD.below hb) (hL.below hb) hf hfl g h hh
  have h2 := fun (W : World) (hb : Below w.heap.size w W) (k : Int) (hk : -9223372036854775808 ≤ k ∧ k ≤ 9223372036854775807) => rc_add D L p q p' q' W (hD.below hb) (hL.below hb) hf hfl k 1 (by omega)
  have Hap := hid (fun g (hg : w.heap.size ≤ g) => hL.apart hg)
  have Hz := hid (fun (W : World) (hb : Below w.heap.size w W) => hL.below hb)
  have hcs := Pn.alFind_cases D L h
  have Ht := Pn.alTake.eq_1 D L h
  generalize Pn.alFind D L h = S at h1 Ht hcs
  obtain ⟨k, e1⟩ := S
  simp only at h1 Ht hcs
  have hk : 0 ≤ k ∧ k ≤ 256 := by
    rcases hcs with ⟨j, hj, e, _⟩ | ⟨_, e⟩
    · injection e with e _; omega
    · omega
  have Ht := hid Ht
  clear hcs hD hL hf hfl
  have h3 := fun (W : World) (hb : Below w.heap.size w W) => h2 W hb k (by omega)
  clear h2
  generalize Pn.cntAdd D L k 1 = N at h3 Ht
  obtain ⟨X, e2⟩ := N
  obtain ⟨A1, a1⟩ := p
  obtain ⟨A2, a2⟩ := q
  obtain ⟨B1, b1⟩ := p'
  obtain ⟨B2, b2⟩ := q'
  have hB := Below.refl w.heap.size w
  have x := Blk.new w 25 #[.string (bs D.data), .slice A1 D.cache.length a1, .int .i64 D.fuse, .bool D.off, .slice A2 D.bad.length a2]
  have xk := blk5 x
  have hB_1 := hB.alloc hB.size (.cells #[.string (bs D.data), .slice A1 D.cache.length a1, .int .i64 D.fuse, .bool D.off, .slice A2 D.bad.length a2] 25)
  have z := Blk.new (w.alloc (.cells #[.string (bs D.data), .slice A1 D.cache.length a1, .int .i64 D.fuse, .bool D.off, .slice A2 D.bad.length a2] 25)) 28 #[.slice B1 L.targets.length b1, .slice B2 L.data.length b2]
  simp only [World.size_alloc] at z
  have zk := blk2 z
  have hB_2 := hB_1.alloc hB_1.size (.cells #[.slice B1 L.targets.length b1, .slice B2 L.data.length b2] 28)
  have x_3 := x.alloc (.cells #[.slice B1 L.targets.length b1, .slice B2 L.data.length b2] 28)
  have xk_3 := blk5 x_3
  have y := Blk.new ((w.alloc (.cells #[.string (bs D.data), .slice A1 D.cache.length a1, .int .i64 D.fuse, .bool D.off, .slice A2 D.bad.length a2] 25)).alloc (.cells #[.slice B1 L.targets.length b1, .slice B2 L.data.length b2] 28)) 30 #[.int .i64 g, .int .i64 h]
  simp only [World.size_alloc] at y
  have yk := blk2 y
  have hB_4 := hB_2.alloc hB_2.size (.cells #[.int .i64 g, .int .i64 h] 30)
  have x_5 := x_3.alloc (.cells #[.int .i64 g, .int .i64 h] 30)
  have xk_5 := blk5 x_5
  have z_6 := z.alloc (.cells #[.int .i64 g, .int .i64 h] 30)
  have zk_6 := blk2 z_6
  have r := Blk.new (((w.alloc (.cells #[.string (bs D.data), .slice A1 D.cache.length a1, .int .i64 D.fuse, .bool D.off, .slice A2 D.bad.length a2] 25)).alloc (.cells #[.slice B1 L.targets.length b1, .slice B2 L.data.length b2] 28)).alloc (.cells #[.int .i64 g, .int .i64 h] 30)) 28 #[.slice Option.none 0 0, .slice Option.none 0 0]
  simp only [World.size_alloc] at r
  have rk := blk2 r
  have rkf := r.frozen
  have hB_7 := hB_4.alloc hB_4.size (.cells #[.slice Option.none 0 0, .slice Option.none 0 0] 28)
  have x_8 := x_5.alloc (.cells #[.slice Option.none 0 0, .slice Option.none 0 0] 28)
  have xk_8 := blk5 x_8
  have z_9 := z_6.alloc (.cells #[.slice Option.none 0 0, .slice Option.none 0 0] 28)
  have zk_9 := blk2 z_9
  have y_10 := y.alloc (.cells #[.slice Option.none 0 0, .slice Option.none 0 0] 28)
  have yk_10 := blk2 y_10
  go_enter Tryz.func163, Tryz.ntmps163
  go_wp2_with fail
  go_at_call 205
  refine ((h1 _ hB_7)).mono ?_
  rintro e w1 ⟨rfl, hb1⟩
  replace hB := bt hB_7 hb1
  replace x := x_8.below hb1 x_8.lt
  replace xk := blk5 x
  replace z := z_9.below hb1 z_9.lt
  replace zk := blk2 z
  replace y := y_10.below hb1 y_10.lt
  replace yk := blk2 y
  replace r := r.below hb1 r.lt
  replace rk := blk2 r
  replace rkf := r.frozen
  clear hB_1 hB_2 xk_3 x_3 hB_4 xk_5 x_5 zk_6 z_6 hB_7 xk_8 x_8 zk_9 z_9 yk_10 y_10
  have rl : w.heap.size + 1 + 1 + 1 < w1.heap.size := r.lt
  by_cases he : e1 = 0
  case neg =>
    have n1 : (e1 != 0) = true := by simpa using he
    have Hr := hid (show Pn.alTake D L h = (L, 0, e1) by rw [Ht.out, if_pos he])
    clear he
    go_wp2_with fail
    rw [Hr.out]
    have yy := blk2 (blk_set2 r (.slice B1 L.targets.length b1) (.slice B2 L.data.length b2))
    have b9 := below_set2 hB (g := w.heap.size + 1 + 1 + 1) (by omega) (.slice B1 L.targets.length b1) (.slice B2 L.data.length b2)
    refine bodyPost_ret (v := .tuple #[pval L ⟨B1, b1⟩ ⟨B2, b2⟩, .int .i64 0, .int .i64 e1]) (by simp [results, Tryz.results163, go_sem, yy]) rfl ?_
    exact ⟨_, _, rfl, Hz.out _ b9, fun _ _ h => h, b9⟩
  subst he
  go_wp2_with fail
  go_at_call 118
  refine ((h3 _ hB)).mono ?_
  rintro e w2 ⟨⟨p3, q3, rfl, i3, o3⟩, hb2⟩
  replace hB := bt hB hb2
  replace x := x.below hb2 x.lt
  replace xk := blk5 x
  replace z := z.below hb2 z.lt
  replace zk := blk2 z
  replace y := y.below hb2 y.lt
  replace yk := blk2 y
  replace r := r.below hb2 r.lt
  replace rk := blk2 r
  replace rkf := r.frozen
  have oy := o3 (w.heap.size + 1 + 1 + 1) rl (Hap.out _ (by omega))
  have rl2 : w.heap.size + 1 + 1 + 1 < w2.heap.size := r.lt
  have r0 := r
  have hB0 := hB
  have j3 := i3
  have u := Blk.new w2 28 #[.slice p3.a X.targets.length p3.c, .slice q3.a X.data.length q3.c]
  have uk := blk2 u
  have hB_11 := hB.alloc hB.size (.cells #[.slice p3.a X.targets.length p3.c, .slice q3.a X.data.length q3.c] 28)
  have x_12 := x.alloc (.cells #[.slice p3.a X.targets.length p3.c, .slice q3.a X.data.length q3.c] 28)
  have xk_12 := blk5 x_12
  have z_13 := z.alloc (.cells #[.slice p3.a X.targets.length p3.c, .slice q3.a X.data.length q3.c] 28)
  have zk_13 := blk2 z_13
  have y_14 := y.alloc (.cells #[.slice p3.a X.targets.length p3.c, .slice q3.a X.data.length q3.c] 28)
  have yk_14 := blk2 y_14
  have r_15 := r.alloc (.cells #[.slice p3.a X.targets.length p3.c, .slice q3.a X.data.length q3.c] 28)
  have rk_15 := blk2 r_15
  have rkf_15 := r_15.frozen
  have i3_16 := i3.below ((Below.refl _ _).alloc (Nat.le_refl _) (.cells #[.slice p3.a X.targets.length p3.c, .slice q3.a X.data.length q3.c] 28))
  by_cases he : e2 = 0
  case neg =>
    have n1 : (e2 != 0) = true := by simpa using he
    have Hr := hid (show Pn.alTake D L h = (L, 0, e2) by rw [Ht.out, if_neg (by simp), if_pos he])
    clear he
    go_wp2_with fail
    rw [Hr.out]
    have yy := blk2 ((blk_set2 r0 (.slice B1 L.targets.length b1) (.slice B2 L.data.length b2)).alloc (.cells #[.slice p3.a X.targets.length p3.c, .slice q3.a X.data.length q3.c] 28))
    have b8 := below_set2 hB0 (g := w.heap.size + 1 + 1 + 1) (by omega) (.slice B1 L.targets.length b1) (.slice B2 L.data.length b2)
    have b9 := b8.alloc b8.size (.cells #[.slice p3.a X.targets.length p3.c, .slice q3.a X.data.length q3.c] 28)
    refine bodyPost_ret (v := .tuple #[pval L ⟨B1, b1⟩ ⟨B2, b2⟩, .int .i64 0, .int .i64 e2]) (by simp [results, Tryz.results163, go_sem, yy]) rfl ?_
    exact ⟨_, _, rfl, Hz.out _ b9, fun _ _ h => h, b9⟩
  subst he
  have Hr := hid (show Pn.alTake D L h = (X, k, 0) by rw [Ht.out, if_neg (by simp), if_neg (by simp)])
  go_wp2_with fail
  rw [Hr.out]
  have yy := blk2 ((blk_set2 r0 (.slice p3.a X.targets.length p3.c) (.slice q3.a X.data.length q3.c)).alloc (.cells #[.slice p3.a X.targets.length p3.c, .slice q3.a X.data.length q3.c] 28))
  have b8 := below_set2 hB0 (g := w.heap.size + 1 + 1 + 1) (by omega) (.slice p3.a X.targets.length p3.c) (.slice q3.a X.data.length q3.c)
  have b9 := b8.alloc b8.size (.cells #[.slice p3.a X.targets.length p3.c, .slice q3.a X.data.length q3.c] 28)
  refine bodyPost_ret (v := .tuple #[pval X p3 q3, .int .i64 k, .int .i64 0]) (by simp [results, Tryz.results163, go_sem, yy]) rfl ?_
  exact ⟨_, _, rfl, (j3.off2 oy _ _).below ((Below.refl _ _).alloc (Nat.le_refl _) _), fun g hg h => o3 g (by omega) h, b9⟩
end Go.Proofs.YtplgmlcoeehnfaaGreat
