/- Package cofferdamref07: the newest ones, by their places. -/
import Derived.Test.YtplgmlcoeehnfaaGreatJour10
import Derived.BigQuiet
set_option linter.unusedVariables false
namespace Go.Proofs.YtplgmlcoeehnfaaGreat
open Go.RowKit Go.Shelf
attribute [local go_sem] bs_mk bs_append bs_extract bs_size bs_toList bs_get
theorem jrBefore_none {l : List Fd} {n : Nat} (h : ∀ j (hj : j < l.length), l[j].tx.seq + 1 ≠ n) : jrBefore (l.map Fd.it) n = .none := by
  unfold jrBefore
  rw [List.find?_eq_none]
  intro x hx
  obtain ⟨z, hz, rfl⟩ := List.mem_map.1 hx
  obtain ⟨j, hj, rfl⟩ := List.getElem_of_mem hz
  exact fun hd => h j hj (of_decide_eq_true hd)
theorem jrBefore_some {l : List Fd} {n i : Nat} (hi : i < l.length) (he : l[i].tx.seq + 1 = n) (h : ∀ j (hj : j < l.length), j < i → l[j].tx.seq + 1 ≠ n) : jrBefore (l.map Fd.it) n = some l[i].it := by
  have e : l.map Fd.it = (l.take i).map Fd.it ++ l[i].it :: (l.drop (i + 1)).map Fd.it := by
    rw [← List.map_cons (f := Fd.it), ← List.drop_eq_getElem_cons hi, ← List.map_append, List.take_append_drop]
  have e1 := jrBefore_none (l := l.take i) (n := n) (fun j hj => by
    rw [List.getElem_take]
    exact h j (by rw [List.length_take] at hj; omega) (by rw [List.length_take] at hj; omega))
  unfold jrBefore at e1 ⊢
  rw [e, List.find?_append, e1]
  have : decide (l[i].it.2.seq + 1 = n) = true := decide_eq_true he
  rw [List.find?_cons, this]
  rfl
set_option maxRecDepth 100000 in
set_option maxHeartbeats 2000000 in
theorem r7_last (l : List Fd) (A : Option Addr) (c : Nat) (w : World) (hA : Cells w A (fdCells l)) (h0 : l ≠ []) (hl : l.length ≤ 1000) (hok : ∀ x ∈ l, 0 < x.tx.plan.targets.length ∧ x.tx.seq < 18446744073709551616) :
    Calls Tryz.prog 96 #[.slice A l.length c] w fun e w' => (∃ (k : Nat) (hk : k < l.length) (i : Int), e = .returned (.tuple #[.int .i64 k, .int .i64 i]) ∧ jrLast (l.map Fd.it) = some l[k].it ∧
      ((i = -1 ∧ jrBefore (l.map Fd.it) l[k].tx.seq = .none) ∨ ∃ (j : Nat) (hj : j < l.length), i = j ∧ jrBefore (l.map Fd.it) l[k].tx.seq = some l[j].it)) ∧ Below w.heap.size w w' := by
  have hlen := List.length_pos_iff.2 h0
  obtain ⟨fb, fo, e1, hcell⟩ := hA.fd hlen
  have e1' : A = some ⟨fb, fo, none⟩ := e1
  subst e1'
  have Hcell := hid (fun (W : World) (hW : Below w.heap.size w W) (j : Nat) (hj : j < l.length) => cell_below hW (hcell j hj).2.1)
  have Hok := hid (fun j (hj : j < l.length) => (hok _ (List.getElem_mem hj)).2)
  clear hA hcell e1 hok h0
  go_enter Tryz.func96, Tryz.ntmps96
  go_wp2_with fail
  go_loopw [4, 5] (fun u x W => ∃ i : Nat, i ≤ l.length ∧ x = .int .i64 i ∧ ∃ k : Nat, u = .int .i64 k ∧ k < l.length ∧ Hid ((i = 0 ∧ k = 0) ∨ (0 < i ∧ ∃ hk : k < l.length, jrLast ((l.take i).map Fd.it) = some l[k].it)) ∧ Below w.heap.size w W) (fun _ x _ => l.length - (intOf x).toNat)
  case atStart => exact ⟨0, Nat.zero_le _, rfl, 0, rfl, hlen, hid (.inl ⟨rfl, rfl⟩), Below.refl _ _⟩
  case round =>
    obtain ⟨i, hi, rfl, k, rfl, hk, hst, hb⟩ := hrel
    by_cases hlt : i < l.length
    · have k1 := Hcell.out wr hb i hlt
      have k2 := Hcell.out wr hb k hk
      have hx1 := Hok.out i hlt
      have hx2 := Hok.out k hk
      have Hnext := hid (show jrLast ((l.take (i + 1)).map Fd.it) = match jrLast ((l.take i).map Fd.it) with
          | .none => some l[i].it
          | some y => if y.2.seq < l[i].it.2.seq then some l[i].it else some y by
        rw [List.take_succ_eq_append_getElem hlt, List.map_append]; exact jrLast_snoc _ _)
      have Hyes := hid (fun (h : l[k].tx.seq < l[i].tx.seq) => show (i + 1 = 0 ∧ i = 0) ∨ (0 < i + 1 ∧ ∃ hk : i < l.length, jrLast ((l.take (i + 1)).map Fd.it) = some l[i].it) from by
        refine .inr ⟨Nat.succ_pos _, hlt, ?_⟩
        rcases hst.out with ⟨h1, h2⟩ | ⟨h1, _, h2⟩
        · subst h1; subst h2; omega
        · rw [Hnext.out, h2]; exact if_pos h)
      have Hno := hid (fun (h : ¬ l[k].tx.seq < l[i].tx.seq) => show (i + 1 = 0 ∧ k = 0) ∨ (0 < i + 1 ∧ ∃ hk : k < l.length, jrLast ((l.take (i + 1)).map Fd.it) = some l[k].it) from by
        refine .inr ⟨Nat.succ_pos _, hk, ?_⟩
        rcases hst.out with ⟨h1, h2⟩ | ⟨h1, _, h2⟩
        · subst h1; subst h2; rw [Hnext.out]; rfl
        · rw [Hnext.out, h2]; exact if_neg h)
      clear Hnext hst
      have K1 := fun e : Ext wr => e.cell k1
      have K2 := fun e : Ext wr => e.cell k2
      generalize l[i].tx.seq = si at *
      generalize l[k].tx.seq = sk at *
      by_cases hs : sk < si
      · have g1 : decide ((sk : Int) < (si : Int)) = true := decide_eq_true (by omega)
        have Hn := hid (Hyes.out hs)
        clear Hyes Hno
        go_wp2_with fail
        refine wp_region_ext mixed (by kernel_rfl) ?_
        repeat (go_big_quiet_step ((fail)))
        refine wpQuiet_nil ?_
        rintro W ⟨pq_, hpq_⟩
        have hW := pq_.below
        rw [← hpq_] at hW
        clear hpq_ pq_
        go_wp2_with fail
        go_roundw
        case rel => exact ⟨i + 1, by omega, by go_num, i, rfl, hlt, Hn, bt hb hW⟩
        case measure => simp [intOf]; omega
      · have g1 : decide ((sk : Int) < (si : Int)) = false := decide_eq_false (by omega)
        have Hn := hid (Hno.out hs)
        clear Hyes Hno
        go_wp2_with fail
        refine wp_region_ext mixed (by kernel_rfl) ?_
        repeat (go_big_quiet_step ((fail)))
        refine wpQuiet_nil ?_
        rintro W ⟨pq_, hpq_⟩
        have hW := pq_.below
        rw [← hpq_] at hW
        clear hpq_ pq_
        go_wp2_with fail
        go_roundw
        case rel => exact ⟨i + 1, by omega, by go_num, k, rfl, hk, Hn, bt hb hW⟩
        case measure => simp [intOf]; omega
    · obtain rfl : i = l.length := by omega
      have Hlast := hid (show jrLast (l.map Fd.it) = some l[k].it by
        rcases hst.out with ⟨h1, h2⟩ | ⟨h1, _, h2⟩
        · omega
        · rwa [List.take_length] at h2)
      clear hst
      have hx2 := Hok.out k hk
      obtain ⟨sk, hsk⟩ : ∃ sk, l[k].tx.seq = sk := ⟨_, rfl⟩
      have Hsk := hid hsk
      obtain ⟨s', hs'⟩ : ∃ s' : Int, IntKind.u64.wrap ((sk : Int) - 1) = s' := ⟨_, rfl⟩
      have hs9 : (1 ≤ sk ∧ s' = sk - 1) ∨ (sk = 0 ∧ s' = 18446744073709551615) := by
        rw [hsk] at hx2
        rcases Nat.lt_or_ge 0 sk with h | h
        · left; refine ⟨h, ?_⟩; rw [← hs', u64w ⟨by omega, by omega⟩]
        · right
          have e : sk = 0 := by omega
          refine ⟨e, ?_⟩
          rw [← hs', e]
          decide
      rw [hsk] at hx2
      clear hsk
      go_wp2_with fail
      generalize wr = w1 at *
      go_loopw [6] (fun x W => ∃ i : Nat, i ≤ l.length ∧ x = .int .i64 i ∧ Hid (∀ j (hj : j < l.length), j < i → l[j].tx.seq + 1 ≠ sk) ∧ Below w.heap.size w W) (fun x _ => l.length - (intOf x).toNat)
      case atStart => exact ⟨0, Nat.zero_le _, rfl, hid (fun j hj h => by omega), hb⟩
      case round =>
        obtain ⟨i, hi, rfl, hno, hb2⟩ := hrel
        by_cases hlt : i < l.length
        · have k1 := Hcell.out wr hb2 i hlt
          have k2 := Hcell.out wr hb2 k hk
          rw [Hsk.out] at k2
          have hx1 := Hok.out i hlt
          have K1 := fun e : Ext wr => e.cell k1
          have K2 := fun e : Ext wr => e.cell k2
          have Hnx := hid (fun (h : l[i].tx.seq + 1 ≠ sk) => show ∀ j (hj : j < l.length), j < i + 1 → l[j].tx.seq + 1 ≠ sk from fun j hj hji => by
            rcases Nat.lt_or_ge j i with h' | h'
            · exact hno.out j hj h'
            · obtain rfl : j = i := by omega
              exact h)
          have Hhit := hid (fun (h : l[i].tx.seq + 1 = sk) => show jrBefore (l.map Fd.it) l[k].tx.seq = some l[i].it from by
            rw [Hsk.out]; exact jrBefore_some hlt h hno.out)
          clear hno
          generalize l[i].tx.seq = si at *
          by_cases hq : si + 1 = sk
          · have f1 : ((si : Int) == s') = true := by rw [beq_iff_eq]; omega
            have f2 : decide (0 < sk) = true := decide_eq_true (by omega)
            have f4 : 0 < sk := by omega
            have Hh := hid (Hhit.out hq)
            clear Hhit Hnx hq hs9
            go_wp2_with fail
            refine wp_region_ext mixed (by kernel_rfl) ?_
            repeat (go_big_quiet_step ((fail)))
            refine wpQuiet_nil ?_
            rintro W ⟨pq_, hpq_⟩
            have hW := pq_.below
            rw [← hpq_] at hW
            clear hpq_ pq_
            go_wp2_with fail
            go_ret2
            exact ⟨⟨k, hk, i, rfl, Hlast.out, .inr ⟨i, hlt, rfl, Hh.out⟩⟩, bt hb2 hW⟩
          · have Hn := hid (Hnx.out hq)
            clear Hhit Hnx
            by_cases hz : (si : Int) = s'
            · have f1 : ((si : Int) == s') = true := by rw [beq_iff_eq]; exact hz
              have f2 : decide (0 < sk) = false := decide_eq_false (by omega)
              have f4 : ¬ 0 < sk := by omega
              clear hq hz hs9
              go_wp2_with fail
              refine wp_region_ext mixed (by kernel_rfl) ?_
              repeat (go_big_quiet_step ((fail)))
              refine wpQuiet_nil ?_
              rintro W ⟨pq_, hpq_⟩
              have hW := pq_.below
              rw [← hpq_] at hW
              clear hpq_ pq_
              go_wp2_with fail
              go_roundw
              case rel => exact ⟨i + 1, by omega, by go_num, Hn, bt hb2 hW⟩
              case measure => simp [intOf]; omega
            · have f1 : ((si : Int) == s') = false := by rw [beq_eq_false_iff_ne]; exact hz
              clear hq hz hs9
              go_wp2_with fail
              refine wp_region_ext mixed (by kernel_rfl) ?_
              repeat (go_big_quiet_step ((fail)))
              refine wpQuiet_nil ?_
              rintro W ⟨pq_, hpq_⟩
              have hW := pq_.below
              rw [← hpq_] at hW
              clear hpq_ pq_
              go_wp2_with fail
              go_roundw
              case rel => exact ⟨i + 1, by omega, by go_num, Hn, bt hb2 hW⟩
              case measure => simp [intOf]; omega
        · obtain rfl : i = l.length := by omega
          have Hn := hid (show jrBefore (l.map Fd.it) l[k].tx.seq = .none by
            rw [Hsk.out]; exact jrBefore_none fun j hj => hno.out j hj hj)
          clear hno
          go_wp2_with fail
          go_ret2
          exact ⟨⟨k, hk, -1, rfl, Hlast.out, .inl ⟨rfl, Hn.out⟩⟩, hb2⟩
end Go.Proofs.YtplgmlcoeehnfaaGreat
