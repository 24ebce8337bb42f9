/- Package ref14: ranges, cut at clusters. Package ref15: extents that are joined; flags of entries. -/
import Derived.Test.YtlapjkbefkmohaaGreatStSpan3
import Derived.Test.YtlapjkbefkmohaaGreatStImg9
import Derived.Test.YtlapjkbefkmohaaGreatStRegs
import Derived.Test.YtlapjkbefkmohaaGreatStSpan2
import Derived.Test.YtlapjkbefkmohaaGreatStLaw15a
import Derived.BigQuiet
import Derived.Deep.RegionLaw
import Derived.Deep.AppendLies
set_option linter.unusedVariables false
namespace Go.Proofs.YtlapjkbefkmohaaGreat
open Go.RowKit Go.Shelf
attribute [local go_sem] bs_mk bs_append bs_extract bs_size bs_toList bs_get
set_option maxRecDepth 100000 in
theorem r14_within (g : Int) (h : Int) (hg : 0 < g ∧ g ≤ 64) (a n : Int) (ha : -9223372036854775808 ≤ a ∧ a ≤ 9223372036854775807) (hn : -9223372036854775808 ≤ n ∧ n ≤ 9223372036854775807) (w : World) :
 Calls Tryz.prog 25 #[.agg #[.int .i64 g, .int .i64 h], .int .i64 a, .int .i64 n] w fun e w' => e = .returned (.bool (Im.within g a n)) ∧ Below w.heap.size w w' := by
 have w1 := i64w (x := g * 128) (by omega)
 have Hd := hid (show Im.within g a n = decide (0 ≤ a ∧ 0 ≤ n ∧ n ≤ g * 128 ∧ a ≤ g * 128 - n) by
  cases hw : Im.within g a n with
  | true => have := within_iff.1 hw; exact (decide_eq_true (by omega)).symm
  | false =>
   refine (decide_eq_false fun hc => ?_).symm
   rw [within_iff.2 (by omega)] at hw
   cases hw)
 have hb := (Below.refl w.heap.size w).alloc (Nat.le_refl _) (.cells #[.int .i64 g, .int .i64 h] 27)
 have x0 := blk2 (Blk.new w 27 #[.int .i64 g, .int .i64 h])
 obtain ⟨b, hbe⟩ : ∃ b, Im.within g a n = b := ⟨_, rfl⟩
 rw [hbe]
 replace hbe := hid hbe
 go_enter Tryz.func25, Tryz.ntmps25
 by_cases c1 : 0 ≤ a
 rotate_left
 · have Hr := hid (show decide (0 ≤ a ∧ 0 ≤ n ∧ n ≤ g * 128 ∧ a ≤ g * 128 - n) = false by simp only [decide_eq_false_iff_not]; omega)
   go_wp2_with fail
   go_ret
   rw [show b = false from hbe.out.symm.trans (Hd.out.trans Hr.out)]
   exact ⟨rfl, hb⟩
 by_cases c2 : 0 ≤ n
 rotate_left
 · have Hr := hid (show decide (0 ≤ a ∧ 0 ≤ n ∧ n ≤ g * 128 ∧ a ≤ g * 128 - n) = false by simp only [decide_eq_false_iff_not]; omega)
   go_wp2_with fail
   go_ret
   rw [show b = false from hbe.out.symm.trans (Hd.out.trans Hr.out)]
   exact ⟨rfl, hb⟩
 by_cases c3 : n ≤ g * 128
 rotate_left
 · have Hr := hid (show decide (0 ≤ a ∧ 0 ≤ n ∧ n ≤ g * 128 ∧ a ≤ g * 128 - n) = false by simp only [decide_eq_false_iff_not]; omega)
   go_wp2_with fail
   go_ret
   rw [show b = false from hbe.out.symm.trans (Hd.out.trans Hr.out)]
   exact ⟨rfl, hb⟩
 have w2 := i64w (x := g * 128 - n) (by omega)
 by_cases c4 : a ≤ g * 128 - n
 rotate_left
 · have Hr := hid (show decide (0 ≤ a ∧ 0 ≤ n ∧ n ≤ g * 128 ∧ a ≤ g * 128 - n) = false by simp only [decide_eq_false_iff_not]; omega)
   go_wp2_with fail
   go_ret
   rw [show b = false from hbe.out.symm.trans (Hd.out.trans Hr.out)]
   exact ⟨rfl, hb⟩
 · have Hr := hid (show decide (0 ≤ a ∧ 0 ≤ n ∧ n ≤ g * 128 ∧ a ≤ g * 128 - n) = true by simp only [decide_eq_true_eq]; omega)
   go_wp2_with fail
   go_ret
   rw [show b = true from hbe.out.symm.trans (Hd.out.trans Hr.out)]
   exact ⟨rfl, hb⟩
set_option maxRecDepth 100000 in
set_option maxHeartbeats 1000000 in
theorem r14_cut (a k : Int) (w : World) :
 Calls Tryz.prog 26 #[.int .i64 a, .int .i64 k] w fun e w' => (∃ v, e = .returned v ∧ w'.ownsRow w.heap.size 80 3 v (Im.cuts a k).length (cutCells (Im.cuts a k))) ∧ Below w.heap.size w w' := by
 obtain ⟨i0, hi, hz0, hz1, hz2⟩ := info_parts Tryz.infoCut
 by_cases hak : a < 0 ∨ k < 0 ∨ 1073741824 < a ∨ 65536 < k
 · have Hc := hid (show Im.cuts a k = [] by simp [Im.cuts, hak])
   go_enter Tryz.func26, Tryz.ntmps26
   by_cases c1 : a < 0
   · go_wp2_with fail
     go_ret
     rw [Hc.out]
     exact ⟨⟨_, rfl, World.ownsRow_nil _ _ _ _⟩, Below.refl _ _⟩
   by_cases c2 : k < 0
   · go_wp2_with fail
     go_ret
     rw [Hc.out]
     exact ⟨⟨_, rfl, World.ownsRow_nil _ _ _ _⟩, Below.refl _ _⟩
   by_cases c3 : 1073741824 < a
   · go_wp2_with fail
     go_ret
     rw [Hc.out]
     exact ⟨⟨_, rfl, World.ownsRow_nil _ _ _ _⟩, Below.refl _ _⟩
   have c4 : 65536 < k := by omega
   go_wp2_with fail
   go_ret
   rw [Hc.out]
   exact ⟨⟨_, rfl, World.ownsRow_nil _ _ _ _⟩, Below.refl _ _⟩
 · have c1 : ¬ a < 0 := by omega
   have c2 : ¬ k < 0 := by omega
   have c3 : ¬ 1073741824 < a := by omega
   have c4 : ¬ 65536 < k := by omega
   have Hc := hid (show Im.cuts a k = [] ++ Im.cuts a k ∧ Tiles a k (Im.cuts a k) from ⟨rfl, cuts_tiles hak⟩)
   have Hl := hid (cuts_length a k)
   generalize Im.cuts a k = C at *
   clear hak
   go_enter Tryz.func26, Tryz.ntmps26
   go_wp2_with fail
   go_loopw [0, 1, 5] (fun f nn l W => ∃ (u q : Nat) (pre rest : List Cut), f = .int .i64 u ∧ nn = .int .i64 q ∧ Hid (C = pre ++ rest ∧ Tiles u q rest) ∧ u + q ≤ 1073807360 ∧ W.ownsRow w.heap.size 80 3 l pre.length (cutCells pre) ∧ Below w.heap.size w W) (fun _ nn _ _ => (intOf nn).toNat)
   case atStart => exact ⟨a.toNat, k.toNat, [], _, by rw [show ((a.toNat : Nat) : Int) = a by omega], by rw [show ((k.toNat : Nat) : Int) = k by omega], hid (by rw [show ((a.toNat : Nat) : Int) = a by omega, show ((k.toNat : Nat) : Int) = k by omega]; exact Hc.out), by omega, World.ownsRow_nil _ _ _ _, Below.refl _ _⟩
   case round =>
    obtain ⟨u, q, pre, rest, rfl, rfl, ht, huq, hrow, hb⟩ := hrel
    clear c1 c2 c3 c4
    by_cases hq : 0 < q
    · obtain ⟨hc1, hc2⟩ := ht.out
      obtain ⟨rest', hr, hT⟩ := hc2.next (by omega)
      obtain ⟨Aq, hA⟩ : ∃ m, u / 128 = m := ⟨_, rfl⟩
      obtain ⟨R, hR⟩ : ∃ m, u % 128 = m := ⟨_, rfl⟩
      obtain ⟨s, hs⟩ : ∃ s : Nat, min q (128 - R) = s := ⟨_, rfl⟩
      have hR2 : R < 128 := by omega
      have hsz : 0 < s ∧ s ≤ q ∧ s ≤ 128 := by omega
      have tA : (u : Int).tdiv 128 = (Aq : Int) := by rw [Int.tdiv_eq_ediv_of_nonneg (by omega), ← hA]; rfl
      have tR : (u : Int).tmod 128 = (R : Int) := by rw [Int.tmod_eq_emod_of_nonneg (by omega), ← hR]; rfl
      have tS : min (q : Int) (128 - (R : Int)) = (s : Int) := by omega
      have Hcut := hid (show C = (pre ++ [((Aq : Int), (R : Int), (s : Int))]) ++ rest' ∧ Tiles ((u + s : Nat) : Int) ((q - s : Nat) : Int) rest' by
       have e1 : (u : Int) / 128 = (Aq : Int) := by rw [← hA]; rfl
       have e2 : (u : Int) % 128 = (R : Int) := by rw [← hR]; rfl
       rw [e1, e2, tS] at hr
       rw [e2, tS] at hT
       rw [hc1, hr]
       exact ⟨by simp, by rw [show ((u + s : Nat) : Int) = (u : Int) + s by omega, show ((q - s : Nat) : Int) = (q : Int) - s by omega]; exact hT⟩)
      have hlen : pre.length ≤ 514 := by
       have := Hl.out
       rw [hc1, List.length_append] at this
       omega
      have wA := i64w (x := (Aq : Int)) (by omega)
      have wR := i64w (x := (R : Int)) (by omega)
      have wS := i64w (x := 128 - (R : Int)) (by omega)
      have wU := i64w (x := (u : Int) + s) (by omega)
      have wQ := i64w (x := (q : Int) - s) (by omega)
      have Hmap := hid (cutCells_snoc pre ((Aq : Int), (R : Int), (s : Int)))
      have eu : (u : Int) + (s : Int) = ((u + s : Nat) : Int) := by omega
      have eq9 : (q : Int) - (s : Int) = ((q - s : Nat) : Int) := by omega
      have Heu := hid eu
      have Heq := hid eq9
      have hbs := hb.size
      clear hc1 hc2 hr hT hA hR hs ht eu eq9
      go_wp2_with (at_builtin; refine wpList_append_own _ rfl _ _ 78 rfl w.heap.size 80 i0 (.agg #[.int .i64 0, .int .i64 0, .int .i64 0]) 3 24 Tryz.underlying78 hi hz0 hz1 hz2 rfl (by decide) _ _ _ rfl (hrow.alloc _) ⟨wr.heap.size, 0, none⟩ 1 1 [.int .i64 Aq, .int .i64 R, .int .i64 s] rfl rfl (World.news_of_block (Blk.new wr 80 #[.int .i64 Aq, .int .i64 R, .int .i64 s])) (by simp [Value.oneCell']) (by unfold maxLen; omega) (by omega) (by simp; omega) ?_; intro v5 w5 h5 gr5 _)
      have b5 := (hb.alloc hb.size (.cells #[.int .i64 Aq, .int .i64 R, .int .i64 s] 80)).trans (grown_below (hrow.alloc (.cells #[.int .i64 Aq, .int .i64 R, .int .i64 s] 80)) gr5 (by simp; omega))
      go_roundw
      case rel => exact ⟨u + s, q - s, _, _, by rw [Heu.out], by rw [Heq.out], Hcut, by omega, by rw [← Hmap.out, List.length_append]; exact h5, b5⟩
      case measure => simp [intOf]; omega
    · obtain rfl : q = 0 := by omega
      obtain ⟨hc1, hc2⟩ := ht.out
      have e9 := hid (show pre = C by rw [hc1, hc2.done (by omega), List.append_nil])
      clear hc1 hc2 ht
      go_wp2_with fail
      go_ret
      rw [← e9.out]
      exact ⟨⟨_, rfl, hrow⟩, hb⟩
end Go.Proofs.YtlapjkbefkmohaaGreat

set_option linter.unusedVariables false
namespace Go.Proofs.YtlapjkbefkmohaaGreat
open Go.RowKit Go.Shelf
attribute [local go_sem] bs_mk bs_append bs_extract bs_size bs_toList bs_get
theorem ent_set (o : List (Int × Int)) (x y z : Int) : (entCells (o ++ [(x, y)])).set (o.length * 2) (.int .i64 z) = entCells (o ++ [(z, y)]) := by
 rw [← entCells_snoc, ← entCells_snoc, List.set_append, if_neg (by rw [entCells_length]; omega), entCells_length, Nat.sub_self]
 rfl
theorem ent_last (o : List (Int × Int)) (x y : Int) : (entCells (o ++ [(x, y)]))[o.length * 2]? = some (.int .i64 x) ∧ (entCells (o ++ [(x, y)]))[o.length * 2 + 1]? = some (.int .i64 y) := by
 have := entCells_get (o ++ [(x, y)]) o.length (by simp)
 simpa using this
theorem own_cell? {w : World} {base : Nat} {e : TypeId} {size n : Nat} {g cap : Nat} {xs : List Value} (h : w.ownsRow base e size (.slice (some ⟨g, 0, none⟩) n cap) n xs) {j : Nat} {v : Value} (hj : xs[j]? = some v) : w.cell? ⟨g, j, none⟩ = some v := by
 obtain ⟨h1, h2⟩ := List.getElem?_eq_some_iff.1 hj
 rw [own_cell h j h1, h2]
theorem r15_flags (K At : Int) (w : World) : Calls Tryz.prog 27 #[eval2 K At] w fun e w' => e = .returned (.int .i64 (Im.flagsOf K)) ∧ Below w.heap.size w w' := by
 have hb := (Below.refl w.heap.size w).alloc (Nat.le_refl _) (.cells #[.int .i64 K, .int .i64 At] 73)
 have x0 := blk2 (Blk.new w 73 #[.int .i64 K, .int .i64 At])
 by_cases h1 : K = 1
 · have Hr := hid (show Im.flagsOf K = 0 by rw [Im.flagsOf, if_pos h1])
   have q1 : (K == 1) = true := by simpa using h1
   clear h1
   go_enter Tryz.func27, Tryz.ntmps27
   go_wp2_with fail
   go_ret
   rw [Hr.out]
   exact ⟨rfl, hb⟩
 · have q1 : (K == 1) = false := by simpa using h1
   by_cases h2 : K = 2
   · have Hr := hid (show Im.flagsOf K = 2 by rw [Im.flagsOf, if_neg h1, if_pos h2])
     have q2 : (K == 2) = true := by simpa using h2
     clear h1 h2
     go_enter Tryz.func27, Tryz.ntmps27
     go_wp2_with fail
     go_ret
     rw [Hr.out]
     exact ⟨rfl, hb⟩
   · have Hr := hid (show Im.flagsOf K = 3 by rw [Im.flagsOf, if_neg h1, if_neg h2])
     have q2 : (K == 2) = false := by simpa using h2
     clear h1 h2
     go_enter Tryz.func27, Tryz.ntmps27
     go_wp2_with fail
     go_ret
     rw [Hr.out]
     exact ⟨rfl, hb⟩
set_option maxRecDepth 100000 in
set_option maxHeartbeats 1000000 in
theorem r15_join (l : List Xt) (A : Option Addr) (c : Nat) (hl : l.length ≤ 1000000) (h64 : ∀ x ∈ l, -9223372036854775808 ≤ x.1 ∧ x.1 ≤ 9223372036854775807) (w : World) (hA : Cells w A (entCells l)) :
 Calls Tryz.prog 15 #[.slice A l.length c] w fun e w' => (∃ v, e = .returned v ∧ w'.ownsRow w.heap.size 41 2 v (join l).length (entCells (join l))) ∧ Below w.heap.size w w' := by
 obtain ⟨i0, hi, hz0, hz1, hz2⟩ := info_parts Tryz.infoXt
 have HA := hid (fun (W : World) (hb : Below w.heap.size w W) => hA.below hb)
 have H64 := hid h64
 clear hA h64
 have Hj := hid (show join l = joinAll (joinSt l) from rfl)
 generalize join l = QQ at *
 go_enter Tryz.func15, Tryz.ntmps15
 go_wp2_with fail
 go_loopw [3, 4] (fun out x W => ∃ m : Nat, m ≤ l.length ∧ x = .int .i64 m ∧ Hid ((joinSt (l.take m)).1.length ≤ m) ∧ W.ownsRow w.heap.size 41 2 out (joinAll (joinSt (l.take m))).length (entCells (joinAll (joinSt (l.take m)))) ∧ Below w.heap.size w W) (fun _ x _ => l.length - (intOf x).toNat)
 case atStart => exact ⟨0, Nat.zero_le _, rfl, hid (Nat.zero_le _), World.ownsRow_nil _ _ _ _, Below.refl _ _⟩
 case round =>
  obtain ⟨m, hm, rfl, hol, hrow, hb⟩ := hrel
  have hbs := hb.size
  by_cases hlt : m < l.length
  · obtain ⟨gA, oA, e1, hc⟩ := (HA.out _ hb).ent hlt
    replace hc := hc m hlt
    obtain ⟨⟨xl, xf⟩, hx⟩ : ∃ x, l[m] = x := ⟨_, rfl⟩
    have hxr := H64.out _ (List.getElem_mem hlt)
    obtain ⟨⟨o, rl, rf⟩, hs⟩ : ∃ s, joinSt (l.take m) = s := ⟨_, rfl⟩
    have hok := joinOk (l.take m)
    have Hn := hid (show joinSt (l.take (m + 1)) = joinStep (o, (rl, rf)) (xl, xf) by rw [List.take_succ_eq_append_getElem hlt, joinSt_snoc, hs, hx])
    have Hol2 := hid (show (joinSt (l.take (m + 1))).1.length ≤ m + 1 by
     rw [Hn.out]
     have h1 := joinStep_length (o, (rl, rf)) (xl, xf)
     have h2 := hol.out
     rw [hs] at h2
     simp only at h1 h2
     omega)
    have hol3 := hol.out
    have hrr := hok.run
    have hfst := hok.first
    rw [hx] at hc hxr
    rw [hs] at hrow hrr hfst hol3
    simp only [most40] at hc hxr hrr hfst hol3
    clear hx hs hok hol
    subst e1
    by_cases c1 : xl < 1
    · have Hn1 := hid (show joinAll (joinSt (l.take (m + 1))) = joinAll (o, (rl, rf)) by rw [Hn.out, joinStep, if_pos (by show min xl most40 < 1; unfold most40; omega)])
      generalize joinAll (o, (rl, rf)) = V at *
      go_wp2_with fail
      go_roundw
      case rel => exact ⟨m + 1, by omega, by go_num, Hol2, by rw [Hn1.out]; exact hrow, hb⟩
      case measure => simp [intOf]; omega
    have c1' : ¬ min xl most40 < 1 := by unfold most40; omega
    obtain ⟨nn, hnn⟩ : ∃ nn, min xl 1099511627776 = nn := ⟨_, rfl⟩
    by_cases c2 : 0 < rl
    · have hja : joinAll (o, (rl, rf)) = o ++ [(rl, rf)] := by rw [joinAll, if_pos c2]
      rw [hja, List.length_append, List.length_singleton] at hrow
      obtain ⟨g, cap, rfl⟩ := ownsRow_succ hrow
      obtain ⟨t0, t1⟩ := ent_last o rl rf
      have k0 := own_cell? hrow t0
      have k1 := own_cell? hrow t1
      obtain ⟨M, hM⟩ : ∃ M, o.length = M := ⟨_, rfl⟩
      obtain ⟨N, hN⟩ : ∃ N, M + 1 = N := ⟨_, rfl⟩
      have ek : (N : Int) - 1 = (M : Int) := by omega
      have lN : M < N := by omega
      have wk := i64w (x := (N : Int) - 1) (by omega)
      have lM : M ≤ 1000000 := by omega
      have lN9 : N ≤ 1000001 := by omega
      have wM := i64w (x := (M : Int)) (by omega)
      have d1 : decide ((0 : Int) < (N : Int)) = true := by simp; omega
      have d2 : (0 : Int) < (N : Int) := by omega
      have d3 : 0 < N := by omega
      have d4 : decide (0 < N) = true := by simp; omega
      rw [hM] at hrow k0 k1 ⊢
      rw [hN] at hrow ⊢
      have HN := hid hN
      have HM := hid hM
      clear hN hM t0 t1 hja hfst
      by_cases c3 : rf = xf
      · have Hn1 := hid (show joinAll (joinSt (l.take (m + 1))) = o ++ [(min (rl + nn) 1099511627776, rf)] by
         rw [Hn.out, joinStep, if_neg c1', if_pos ⟨c2, c3⟩, joinAll, if_pos (by show 0 < min (rl + min xl most40) most40; unfold most40; omega)]
         show o ++ [(min (rl + min xl most40) most40, rf)] = _; unfold most40; rw [hnn])
        have c3' : (rf == xf) = true := by rw [c3]; simp
        have wz := i64w (x := rl + nn) (by omega)
        have hmr : min rl 1099511627776 = rl := by omega
        replace c3 := hid c3
        go_wp2_with fail
        go_quiet (fail)
        go_wp2_with fail
        have hV := below_drewN (Below.refl wr.heap.size wr) nq
        generalize wr.drewN nq = V at *
        have hbV := bt hb hV
        have rV := own_below hrow hV
        have K0 := fun e : Ext V => e.cell (cell_below hV k0)
        have K2 := fun e : Ext V => e.cell (cell_below hV hc.1)
        refine wp_region_ext_tail 19 mixed (by kernel_rfl) (fun _ _ _ d _ h => by cases d <;> exact h) ?_
        simp only [List.take_succ_cons, List.take_zero, List.drop_succ_cons, List.drop_zero]
        repeat (go_big_quiet_step ((fail)))
        refine wpQuiet_nil ?_
        rintro W1 ⟨pq_, hpq_⟩
        have hW1 := pq_.below
        rw [← hpq_] at hW1
        clear hpq_ pq_
        have r1 := own_below rV hW1
        have gb : w.heap.size ≤ g := (hrow.lt g rfl).1
        have s1 := own_set r1 (M * 2) (by rw [entCells_length, List.length_append, HM.out, List.length_singleton]; omega) (.int .i64 (rl + nn))
        have es1 := ent_set o rl rf (rl + nn)
        rw [HM.out] at es1
        rw [es1] at s1
        have p1 := own_cell? r1 (by have := (ent_last o rl rf).1; rwa [HM.out] at this)
        have f1 := own_frozen r1 (M * 2)
        have p2 := own_cell? s1 (by have := (ent_last o (rl + nn) rf).1; rwa [HM.out] at this)
        have f2 := own_frozen s1 (M * 2)
        obtain ⟨mm, hmm⟩ : ∃ mm, min (rl + nn) 1099511627776 = mm := ⟨_, rfl⟩
        have s2 := own_set s1 (M * 2) (by rw [entCells_length, List.length_append, HM.out, List.length_singleton]; omega) (.int .i64 mm)
        have es2 := ent_set o (rl + nn) rf mm
        rw [HM.out] at es2
        rw [es2] at s2
        rw [hmm] at Hn1
        have b2 := ((bt hbV hW1).setCell (p := ⟨g, M * 2, none⟩) gb (.int .i64 (rl + nn))).setCell (p := ⟨g, M * 2, none⟩) gb (.int .i64 mm)
        clear es1 es2
        go_wp2_with fail
        go_roundw
        case rel => exact ⟨m + 1, by omega, by go_num, Hol2, by rw [Hn1.out, List.length_append, List.length_singleton, HM.out, HN.out]; exact s2, b2⟩
        case measure => simp [intOf]; omega
      · have Hn1 := hid (show joinAll (joinSt (l.take (m + 1))) = (o ++ [(rl, rf)]) ++ [(nn, xf)] by
         rw [Hn.out, joinStep, if_neg c1', if_neg (fun h => c3 h.2), if_pos c2, joinAll, if_pos (by show 0 < min xl most40; unfold most40; omega)]
         show (o ++ [(rl, rf)]) ++ [(min xl most40, xf)] = _; unfold most40; rw [hnn])
        have c3' : (rf == xf) = false := by simpa using c3
        have Hmap := hid (entCells_snoc (o ++ [(rl, rf)]) nn xf)
        replace c3 := hid c3
        go_wp2_with fail
        go_quiet (fail)
        go_wp2_with fail
        have hV := below_drewN (Below.refl wr.heap.size wr) nq
        generalize wr.drewN nq = V at *
        have hbV := bt hb hV
        have rV := own_below hrow hV
        have kV1 := cell_below hV hc.1
        have kV2 := cell_below hV hc.2
        have hbVs := hbV.size
        have rD := (rV.alloc (.cells #[.int .i64 nn, .int .i64 xf] 41)).drew
        have nwD := World.news_of_block (Blk.new V 41 #[.int .i64 nn, .int .i64 xf]).drew
        have bD := (hbV.alloc hbV.size (.cells #[.int .i64 nn, .int .i64 xf] 41)).drew
        go_region_law ((refine step_append_lies _ rfl (.tmp 67) (.tmp 80) 36 rfl w.heap.size 41 i0 (.agg #[.int .i64 0, .int .i64 0]) 2 16 Tryz.underlying36 hi hz0 hz1 hz2 rfl (by decide) (.slice (some ⟨g, 0, none⟩) N cap) N (entCells (o ++ [(rl, rf)])) (by rfl) rD ⟨V.heap.size, 0, none⟩ 1 1 [.int .i64 nn, .int .i64 xf] (by rfl) rfl nwD (by simp [Value.oneCell']) (by decide) (by unfold maxLen; omega) (by omega) (by simp; omega) (V.heap.size + 1) (by simp) ?_; intro g5 cap5 w5 h5 gr5 hat5 hlt5))
        all_goals
         have b5 := bD.trans (grown_below rD gr5 (by simp; omega))
         go_wp2_with fail
         go_roundw
         case rel => exact ⟨m + 1, by omega, by go_num, Hol2, by rw [Hn1.out, ← Hmap.out, List.length_append, List.length_append, List.length_singleton, List.length_singleton, HM.out, HN.out]; exact h5, b5⟩
         case measure => simp [intOf]; omega
    · have ho : o = [] := hfst (by omega)
      have hja : joinAll (o, (rl, rf)) = [] := by rw [joinAll, if_neg c2, ho]
      rw [hja] at hrow
      obtain ⟨A2, cap, rfl, _, _, _⟩ := own_slice hrow
      have Hn1 := hid (show joinAll (joinSt (l.take (m + 1))) = [(nn, xf)] by
       rw [Hn.out, joinStep, if_neg c1', if_neg (fun h => c2 h.1), if_neg c2, joinAll, if_pos (by show 0 < min xl most40; unfold most40; omega)]
       show o ++ [(min xl most40, xf)] = _; unfold most40; rw [hnn, ho]; rfl)
      clear hja ho hfst
      simp only [List.length_nil] at hrow ⊢
      go_wp2_with fail
      go_quiet (fail)
      go_wp2_with fail
      have hV := below_drewN (Below.refl wr.heap.size wr) nq
      generalize wr.drewN nq = V at *
      have hbV := bt hb hV
      have rV := own_below hrow hV
      have kV1 := cell_below hV hc.1
      have kV2 := cell_below hV hc.2
      have hbVs := hbV.size
      have rD := (rV.alloc (.cells #[.int .i64 nn, .int .i64 xf] 41)).drew
      have nwD := World.news_of_block (Blk.new V 41 #[.int .i64 nn, .int .i64 xf]).drew
      have bD := (hbV.alloc hbV.size (.cells #[.int .i64 nn, .int .i64 xf] 41)).drew
      go_region_law ((refine step_append_lies _ rfl (.tmp 67) (.tmp 80) 36 rfl w.heap.size 41 i0 (.agg #[.int .i64 0, .int .i64 0]) 2 16 Tryz.underlying36 hi hz0 hz1 hz2 rfl (by decide) (.slice A2 0 cap) 0 (entCells []) (by rfl) rD ⟨V.heap.size, 0, none⟩ 1 1 [.int .i64 nn, .int .i64 xf] (by rfl) rfl nwD (by simp [Value.oneCell']) (by decide) (by unfold maxLen; omega) (by omega) (by simp; omega) (V.heap.size + 1) (by simp) ?_; intro g5 cap5 w5 h5 gr5 hat5 hlt5))
      all_goals
       have b5 := bD.trans (grown_below rD gr5 (by simp; omega))
       go_wp2_with fail
       go_roundw
       case rel => exact ⟨m + 1, by omega, by go_num, Hol2, by rw [Hn1.out]; exact h5, b5⟩
       case measure => simp [intOf]; omega
  · obtain rfl : m = l.length := by omega
    rw [List.take_length] at hrow
    go_wp2_with fail
    go_ret
    rw [Hj.out]
    exact ⟨⟨_, rfl, hrow⟩, hb⟩
end Go.Proofs.YtlapjkbefkmohaaGreat
