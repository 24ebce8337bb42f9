/- Package alloc: the free clusters, one by one. -/
import Derived.Test.YtlajbmmhgflabaaAlloc2
import Derived.Test.YtlajbmmhgflabaaRange2
import Derived.Test.YtlajbmmhgflabaaIter
import Derived.WalkMore
set_option linter.unusedVariables false
namespace Go.Proofs.Ytlajbmmhgflabaa
open Go.RowKit Go.Shelf
attribute [local go_sem] bs_mk bs_append bs_extract bs_size bs_toList bs_get Oper.semAt_some
/-- The first that is handed out is what is looked for. -/
def FreeP (D : Dk) (L : Pn) (h : Nat) (ys : List (Int × Int)) : Prop := ∀ y r, ys = y :: r → y = Pn.alFind D L h
def FreeS (D : Dk) (L : Pn) (h : Nat) (ys : List (Int × Int)) : Prop := (ys = [] → Pn.alFind D L h = (0, 17)) ∧ FreeP D L h ys
theorem FreeP.next {D : Dk} {L : Pn} {h : Nat} {ys : List (Int × Int)} (hp : FreeP D L h ys) {y : Int × Int} (hy : ys = [] → y = Pn.alFind D L h) : FreeP D L h (ys ++ [y]) := by
  intro z r e
  cases ys with
  | nil => simp only [List.nil_append, List.cons.injEq] at e; rw [← e.1]; exact hy rfl
  | cons a l => simp only [List.cons_append, List.cons.injEq] at e; rw [← e.1]; exact hp a l rfl
theorem FreeP.done {D : Dk} {L : Pn} {h : Nat} {ys : List (Int × Int)} {y : Int × Int} (hp : FreeP D L h (ys ++ [y])) : FreeS D L h (ys ++ [y]) := ⟨fun e => absurd e (by simp), hp⟩
def frEnc (x : Int × Int) : Array Value := #[.int .i64 x.1, .int .i64 x.2]
theorem blk4 {w : World} {g : Nat} {t : TypeId} {a b c d : Value} (h : Blk w g t #[a, b, c, d]) :
    w.cell? ⟨g, 0, none⟩ = some a ∧ w.cell? ⟨g, 1, none⟩ = some b ∧ w.cell? ⟨g, 2, none⟩ = some c ∧ w.cell? ⟨g, 3, none⟩ = some d := ⟨h.cell 0, h.cell 1, h.cell 2, h.cell 3⟩
/-- What was summed when j plans were asked. -/
def SumTo (D : Dk) (L : Pn) (m j : Nat) (s : Int) : Prop := (j = 0 ∧ s = 0) ∨ (j = 1 ∧ ∃ a, Pn.cntGet D L m = (a, 0) ∧ s = a) ∨ (j = 2 ∧ ∃ a b, Pn.cntGet D L m = (a, 0) ∧ Pn.cntGet D Pn.none m = (b, 0) ∧ s = a + b)
set_option maxRecDepth 100000 in
set_option maxHeartbeats 2000000 in
theorem free_stops (n : Nat) (hn : 2 ≤ n) (D : Dk) (L : Pn) (p q p' q' : Pl) (hf : D.fit = true) (hfl : L.Fit) (g : Int) (h : Nat) (hh : h ≤ 256) (B0 Bg Bp Bd : Nat) (w : World) (h0 : B0 ≤ w.heap.size)
    (hDW : ∀ W, Below B0 w W → IsDk W D p q ∧ IsPn W L p' q') (bg : Blk w Bg 67 #[.int .i64 g, .int .i64 h])
    (bp : Blk w Bp 28 #[.slice p'.a L.targets.length p'.c, .slice q'.a L.data.length q'.c])
    (bd : Blk w Bd 25 #[.string (bs D.data), .slice p.a D.cache.length p.c, .int .i64 D.fuse, .bool D.off, .slice q.a D.bad.length q.c]) :
    SeqO Fence.wide n Try.prog 98 #[.pointer (some ⟨Bg, 0, none⟩), .pointer (some ⟨Bp, 0, none⟩), .pointer (some ⟨Bd, 0, none⟩)] frEnc (KeepB B0 [Bg, Bp, Bd])
      (FreeS D L h) (FreeP D L h) h w := by
  intro l J Jx W hW hJ hJx hY h0J
  have hfn : Fence.wide.fn 17 := trivial
  have h1 : 1 ≤ n := by omega
  have h2 : 1 ≤ n - 1 := by omega
  have HY := hid hY
  have kW : KeepB B0 [Bg, Bp, Bd] w W := KeepB.later hW h0 (fun g hg => by
    simp only [List.mem_cons, List.not_mem_nil, or_false] at hg
    rcases hg with rfl | rfl | rfl
    · exact bg.lt
    · exact bp.lt
    · exact bd.lt)
  have Hg1 := hid (fun (V : World) (hb : KeepB B0 [Bg, Bp, Bd] w V) (m : Nat) => rc_get D L p q p' q' V (hDW V hb.below).1 (hDW V hb.below).2 hf hfl m)
  have Hg2 := hid (fun (V : World) (hb : KeepB B0 [Bg, Bp, Bd] w V) (m : Nat) => rc_get D Pn.none p q ⟨none, 0⟩ ⟨none, 0⟩ V (hDW V hb.below).1 (isPn_zero _) hf Pn.none_fit m)
  have Hle1 := hid (fun k => Pn.cntGet_le D L k)
  have Hle2 := hid (fun k => Pn.cntGet_le D Pn.none k)
  obtain ⟨A1, a1⟩ := p
  obtain ⟨A2, a2⟩ := q
  obtain ⟨B1, b1⟩ := p'
  obtain ⟨B2, b2⟩ := q'
  have in1 : Bg ∈ [Bg, Bp, Bd] := by simp
  have in2 : Bp ∈ [Bg, Bp, Bd] := by simp
  have in3 : Bd ∈ [Bg, Bp, Bd] := by simp
  have Hin := hid (fun (V : World) (hb : KeepB B0 [Bg, Bp, Bd] w V) (g : Nat) (hg : g ∈ [Bg, Bp, Bd]) => show g < V.heap.size by
    simp only [List.mem_cons, List.not_mem_nil, or_false] at hg
    rcases hg with rfl | rfl | rfl
    · exact (bg.at_ (hb.at_ _ in1)).lt
    · exact (bp.at_ (hb.at_ _ in2)).lt
    · exact (bd.at_ (hb.at_ _ in3)).lt)
  have bg0 := blk2 (bg.at_ (kW.at_ _ in1))
  refine callsIn_of_wp Try.func98 rfl trivial ?_ rfl
  simp only [Try.ntmps98, List.size_toArray, List.length_cons, List.length_nil, Nat.reduceAdd, Nat.reduceSub, Array.replicate_succ, Array.replicate_zero, List.push_toArray, List.append_toArray, List.nil_append, List.cons_append]
  clear hY
  gi_wp2
  gi_loopw [13] (fun x V => ∃ m : Nat, m ≤ h ∧ x = .int .i64 m ∧ ∃ ys : List (Int × Int), Hid (ys.length ≤ m ∧ (ys = [] → ∀ j, j < m → Pn.stopsAt D L j = false) ∧ FreeP D L h ys) ∧ J ys V ∧ KeepB B0 [Bg, Bp, Bd] w V) (fun x _ => h - (intOf x).toNat)
  case atStart => exact ⟨0, Nat.zero_le _, rfl, [], hid ⟨Nat.le_refl _, fun _ j hj => by omega, fun y r e => by cases e⟩, h0J, kW⟩
  case round =>
    obtain ⟨m, hm, rfl, ys, hys, hJm, hk⟩ := hrel
    clear bg0 h0J kW
    by_cases hlt : m < h
    · have bp0 := blk2 (bp.at_ (hk.at_ _ in2))
      have Hw0 := hid (Nat.le_trans h0 hk.below.size)
      -- gen/alloc3.py
      gi_wp2
      have w1b := (Below.refl wr.heap.size wr).alloc (Nat.le_refl _) (.cells #[.slice B1 L.targets.length b1, .slice B2 L.data.length b2, .slice none 0 0, .slice none 0 0] 28)
      have k1 : KeepB B0 [Bg, Bp, Bd] wr (wr.alloc (.cells #[.slice B1 L.targets.length b1, .slice B2 L.data.length b2, .slice none 0 0, .slice none 0 0] 28)) := KeepB.later w1b Hw0.out (fun g hg => Hin.out wr hk g hg)
      have s1 := Blk.new wr 28 #[.slice B1 L.targets.length b1, .slice B2 L.data.length b2, .slice none 0 0, .slice none 0 0]
      have J1 : J ys (wr.alloc (.cells #[.slice B1 L.targets.length b1, .slice B2 L.data.length b2, .slice none 0 0, .slice none 0 0] 28)) := OwnFrom.later hJ hJm w1b
      have hk1 := hk.trans k1
      generalize wr.alloc (.cells #[.slice B1 L.targets.length b1, .slice B2 L.data.length b2, .slice none 0 0, .slice none 0 0] 28) = V1 at *
      generalize wr.heap.size = gs at s1 ⊢
      clear bp0 w1b k1 hk hJm Hw0
      gi_loopw [6, 20] (fun s x V => ∃ j : Nat, j ≤ 2 ∧ x = .int .i64 j ∧ ∃ c : Int, s = .int .i64 c ∧ Hid (SumTo D L m j c) ∧ (0 ≤ c ∧ c ≤ 65535 * j) ∧ J ys V ∧ KeepB B0 [Bg, Bp, Bd] w V ∧ Blk V gs 28 #[.slice B1 L.targets.length b1, .slice B2 L.data.length b2, .slice none 0 0, .slice none 0 0]) (fun _ x _ => 2 - (intOf x).toNat)
      case atStart => exact ⟨0, by omega, rfl, 0, rfl, hid (.inl ⟨rfl, rfl⟩), by omega, J1, hk1, s1⟩
      case round =>
        obtain ⟨j, hj, rfl, c, rfl, hsum, ⟨c0, c1⟩, hJ2, hk2, s2⟩ := hrel
        clear J1 hk1 s1
        by_cases hj2 : j = 0
        · subst hj2
          have sk := blk4 s2
          have hc : Hid (c = 0) := hid (by rcases hsum.out with ⟨_, h⟩ | ⟨h, _⟩ | ⟨h, _⟩; exact h; omega; omega)
          have ab := (Below.refl wr.heap.size wr).alloc (Nat.le_refl _) (.cells #[.slice B1 L.targets.length b1, .slice B2 L.data.length b2] 28)
          have hk3 := hk2.trans (KeepB.later ab (Nat.le_trans h0 hk2.below.size) (fun g hg => Hin.out wr hk2 g hg))
          have bd0 := blk5 (bd.at_ (hk3.at_ _ in3))
          have q1 := Hg1.out _ hk3 m
          have l1 := Hle1.out m
          obtain ⟨⟨a, e⟩, hx⟩ : ∃ x, Pn.cntGet D L m = x := ⟨_, rfl⟩
          rw [hx] at q1 l1
          simp only at q1 l1
          obtain ⟨l1a, l1b⟩ := l1
          have Hx := hid hx
          have Hk2 := hid hk2
          have Hk3 := hid hk3
          have Hab := hid ab
          clear hx hk2 hk3 ab
          by_cases he : e = 0
          · subst he
            gi_wp2_with (gi_at_call 17; refine (callsIn_wide.2 q1).mono ?_; rintro e' W2 ⟨rfl, hb2⟩)
            have bb := bt Hab.out hb2
            go_roundw
            case rel => exact ⟨1, by omega, by first | rfl | go_num, c + a, rfl, hid (Or.inr (.inl ⟨rfl, a, Hx.out, by rw [hc.out]; omega⟩)), by omega, OwnFrom.later hJ hJ2 bb, Hk2.out.trans (KeepB.later bb (Nat.le_trans h0 Hk2.out.below.size) (fun g hg => Hin.out wr Hk2.out g hg)), s2.below bb s2.lt⟩
            case measure => simp [intOf]
          · have n1 : (e != 0) = true := by simpa using he
            have Hz := hid (Pn.both_err1 Hx.out he)
            clear he
            gi_wp2_with (gi_at_call 17; refine (callsIn_wide.2 q1).mono ?_; rintro e' W2 ⟨rfl, hb2⟩)
            have bb := bt Hab.out hb2
            obtain ⟨fn, tmps, assign, body, hy, hR⟩ := HY.out ys (0, e) W2 (OwnFrom.later hJ hJ2 bb) (by have := hys.out.1; omega)
            simp only [frEnc] at hy
            rw [hy]
            refine ⟨fun _ => h1, ?_⟩
            refine hR.mono ?_
            have hp := FreeP.next (y := (0, e)) hys.out.2.2 (fun e' => by rw [Pn.find_stop hlt (hys.out.2.1 e') Hz.out.1 Hz.out.2, if_pos (by simpa using n1)])
            rintro e3 W3 (⟨rfl, hJ3, _, hk3⟩ | ⟨rfl, hJx3, _⟩)
            · gi_wp2
              refine bodyPost_ret (results_none rfl _ _ _) rfl ?_
              exact ⟨⟨_, rfl⟩, .inl ⟨_, hp.done, hJ3⟩⟩
            · gi_wp2
              refine bodyPost_ret (results_none rfl _ _ _) rfl ?_
              exact ⟨⟨_, rfl⟩, .inr ⟨_, hp, hJx3⟩⟩
        by_cases hj3 : j = 1
        · subst hj3
          have sk := blk4 s2
          obtain ⟨a0, ha0, hca⟩ : ∃ a0, Hid (Pn.cntGet D L m = (a0, 0)) ∧ Hid (c = a0) := by
            rcases hsum.out with ⟨h, _⟩ | ⟨_, a0, h, h'⟩ | ⟨h, _⟩
            · omega
            · exact ⟨a0, hid h, hid h'⟩
            · omega
          clear hj2
          have ab := (Below.refl wr.heap.size wr).alloc (Nat.le_refl _) (.cells #[.slice none 0 0, .slice none 0 0] 28)
          have hk3 := hk2.trans (KeepB.later ab (Nat.le_trans h0 hk2.below.size) (fun g hg => Hin.out wr hk2 g hg))
          have bd0 := blk5 (bd.at_ (hk3.at_ _ in3))
          have q1 := Hg2.out _ hk3 m
          have l1 := Hle2.out m
          obtain ⟨⟨a, e⟩, hx⟩ : ∃ x, Pn.cntGet D Pn.none m = x := ⟨_, rfl⟩
          rw [hx] at q1 l1
          simp only at q1 l1
          obtain ⟨l1a, l1b⟩ := l1
          have Hx := hid hx
          have Hk2 := hid hk2
          have Hk3 := hid hk3
          have Hab := hid ab
          clear hx hk2 hk3 ab
          by_cases he : e = 0
          · subst he
            gi_wp2_with (gi_at_call 17; refine (callsIn_wide.2 q1).mono ?_; rintro e' W2 ⟨rfl, hb2⟩)
            have bb := bt Hab.out hb2
            go_roundw
            case rel => exact ⟨2, by omega, by first | rfl | go_num, c + a, rfl, hid (Or.inr (.inr ⟨rfl, a0, a, ha0.out, Hx.out, by rw [hca.out]⟩)), by omega, OwnFrom.later hJ hJ2 bb, Hk2.out.trans (KeepB.later bb (Nat.le_trans h0 Hk2.out.below.size) (fun g hg => Hin.out wr Hk2.out g hg)), s2.below bb s2.lt⟩
            case measure => simp [intOf]
          · have n1 : (e != 0) = true := by simpa using he
            have Hz := hid (Pn.both_err2 ha0.out Hx.out he)
            clear he
            gi_wp2_with (gi_at_call 17; refine (callsIn_wide.2 q1).mono ?_; rintro e' W2 ⟨rfl, hb2⟩)
            have bb := bt Hab.out hb2
            obtain ⟨fn, tmps, assign, body, hy, hR⟩ := HY.out ys (0, e) W2 (OwnFrom.later hJ hJ2 bb) (by have := hys.out.1; omega)
            simp only [frEnc] at hy
            rw [hy]
            refine ⟨fun _ => h1, ?_⟩
            refine hR.mono ?_
            have hp := FreeP.next (y := (0, e)) hys.out.2.2 (fun e' => by rw [Pn.find_stop hlt (hys.out.2.1 e') Hz.out.1 Hz.out.2, if_pos (by simpa using n1)])
            rintro e3 W3 (⟨rfl, hJ3, _, hk3⟩ | ⟨rfl, hJx3, _⟩)
            · gi_wp2
              refine bodyPost_ret (results_none rfl _ _ _) rfl ?_
              exact ⟨⟨_, rfl⟩, .inl ⟨_, hp.done, hJ3⟩⟩
            · gi_wp2
              refine bodyPost_ret (results_none rfl _ _ _) rfl ?_
              exact ⟨⟨_, rfl⟩, .inr ⟨_, hp, hJx3⟩⟩
        obtain rfl : j = 2 := by omega
        obtain ⟨a0, b0, ha0, hb0, hcs⟩ : ∃ a0 b0, Hid (Pn.cntGet D L m = (a0, 0)) ∧ Hid (Pn.cntGet D Pn.none m = (b0, 0)) ∧ Hid (c = a0 + b0) := by
          rcases hsum.out with ⟨h, _⟩ | ⟨h, _⟩ | ⟨_, a0, b0, h, h', h''⟩
          · omega
          · omega
          · exact ⟨a0, b0, hid h, hid h', hid h''⟩
        have Hb := hid (Pn.both_sum ha0.out hb0.out)
        clear hj2 hj3 hsum
        by_cases hc : c = 0
        · subst hc
          have Hz := hid (show Pn.both D L m = (0, 0) ∧ Pn.stopsAt D L m = true from ⟨by rw [Hb.out.1, ← hcs.out], by rw [Hb.out.2, ← hcs.out]; rfl⟩)
          have bb := Below.refl wr.heap.size wr
          gi_wp2
          obtain ⟨fn, tmps, assign, body, hy, hR⟩ := HY.out ys ((m : Int), 0) wr hJ2 (by have := hys.out.1; omega)
          simp only [frEnc] at hy
          rw [hy]
          refine ⟨fun _ => h1, ?_⟩
          refine hR.mono ?_
          have hp := FreeP.next (y := ((m : Int), 0)) hys.out.2.2 (fun e' => by rw [Pn.find_stop hlt (hys.out.2.1 e') Hz.out.1 Hz.out.2, if_neg (by simp)])
          rintro e3 W3 (⟨rfl, hJ3, _, hk3⟩ | ⟨rfl, hJx3, _⟩)
          · gi_wp2
            go_roundw
            case rel => exact ⟨m + 1, by omega, by go_num, ys ++ [((m : Int), 0)], hid ⟨by have := hys.out.1; simp; omega, fun e => absurd e (by simp), hp⟩, hJ3, hk2.trans hk3⟩
            case measure => simp [intOf]; omega
          · gi_wp2
            refine bodyPost_ret (results_none rfl _ _ _) rfl ?_
            exact ⟨⟨_, rfl⟩, .inr ⟨_, hp, hJx3⟩⟩
        · have n2 : (c == 0) = false := by simpa using hc
          have Hn := hid (show Pn.stopsAt D L m = false by rw [Hb.out.2, ← hcs.out]; simpa using hc)
          clear hc
          gi_wp2
          refine ⟨fun _ h => (nomatch h), ?_⟩
          gi_wp2
          go_roundw
          case rel => exact ⟨m + 1, by omega, by go_num, ys, hid ⟨by have := hys.out.1; omega, fun e => Pn.next_stop (hys.out.2.1 e) Hn.out, hys.out.2.2⟩, hJ2, hk2⟩
          case measure => simp [intOf]; omega
    · obtain rfl : m = h := by omega
      gi_wp2
      go_end0
      exact ⟨⟨_, rfl⟩, .inl ⟨_, ⟨fun e => Pn.alFind_miss (fun j hj => hys.out.2.1 e j (by omega)), hys.out.2.2⟩, hJm⟩⟩
end Go.Proofs.Ytlajbmmhgflabaa
