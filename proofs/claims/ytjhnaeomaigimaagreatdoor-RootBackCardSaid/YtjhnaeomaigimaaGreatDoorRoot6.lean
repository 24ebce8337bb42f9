/- Package root: a snapshot's place is read. -/
import Derived.Test.YtjhnaeomaigimaaGreatDoorRoot5
set_option linter.unusedVariables false
namespace Go.Proofs.YtjhnaeomaigimaaGreatDoor
open Go.RowKit Go.Shelf
attribute [local go_sem] bs_mk bs_append bs_extract bs_size bs_toList bs_get
theorem trimB_zeros (n : Nat) : Lib.trimB (List.replicate n 0) 0 = [] := by
  have h : Lib.trimRightB (List.replicate n (0 : UInt8)) 0 = [] := by
    have := trim0_pad (s := []) (fun x hx => nomatch hx) n
    rw [List.nil_append] at this
    exact this
  rw [Lib.trimB, h]
  rfl
theorem trimB_some {l : List UInt8} (h : l ≠ List.replicate l.length 0) : Lib.trimB l 0 ≠ [] := fun e => by
  obtain ⟨n, hn⟩ := trim0_split l
  have h2 : Lib.trimLeftB (trim0 l) 0 = [] := e
  have h3 : ∀ m : List UInt8, Lib.trimLeftB m 0 = [] → m = List.replicate m.length 0 := fun m hm => by
    have h4 : m.dropWhile (· == 0) = [] := hm
    induction m with
    | nil => rfl
    | cons a m ih =>
      rw [List.dropWhile_cons] at h4
      split at h4
      · rename_i ha
        have ha : a = 0 := by simpa using ha
        rw [ha, List.length_cons, List.replicate_succ, ← ih h4 h4]
      · cases h4
  have h5 := h3 _ h2
  apply h
  have h6 : l = List.replicate ((trim0 l).length + n) 0 := by
    rw [← List.replicate_append_replicate, ← h5]
    exact hn
  rw [h6]
  simp
theorem cut_take (s : List UInt8) (o n : Nat) : List.drop o (List.take (o + n) s) = cut s o n := by rw [cut, List.drop_take]; congr 1; omega
set_option maxRecDepth 100000 in
set_option maxHeartbeats 2000000 in
theorem rt_getSnap (D : Dk) (L : Pn) (p q p' q' : Pl) (w : World) (hD : IsDk w D p q) (hL : IsPn w L p' q') (hf : D.fit = true) (hfl : L.Fit) (i : Nat) (hi : i < 8) :
    Calls Tryz.prog 113 #[dval D p q, pval L p' q', snPlace i] w fun e w' => e = .returned (.tuple #[snval (Pn.snGet D L i).1, .int .i64 (Pn.snGet D L i).2]) ∧ Below w.heap.size w w' := by
  have hlk := fun (W : World) (hb : Below w.heap.size w W) => pl_look D L p q p' q' W (hD.below hb) (hL.below hb) (Pn.snSec i) ((Dk.fit_parts hf).2.2.1) (by have := hfl.2.1; omega) hfl.1
  have hfull := Pn.look_full (k := Pn.snSec i) hf hfl
  obtain ⟨o, ho⟩ : ∃ o : Nat, Pn.snOff i = o := ⟨(Pn.snOff i).toNat, by unfold Pn.snOff; omega⟩
  have ho64 : o + 16 ≤ 64 := by unfold Pn.snOff at ho; omega
  have hG : Pn.snGet D L i = if (Pn.look D L (Pn.snSec i)).2 ≠ 0 then (Sn.zero, (Pn.look D L (Pn.snSec i)).2) else if Sn.good (cut (Pn.look D L (Pn.snSec i)).1 o 16) = true then (Sn.of (cut (Pn.look D L (Pn.snSec i)).1 o 16), 0) else (Sn.zero, 14) := by
    rw [Pn.snGet, ho, Int.toNat_natCast]
  obtain ⟨S, hS⟩ : ∃ S, Pn.look D L (Pn.snSec i) = S := ⟨_, rfl⟩
  obtain ⟨s, er⟩ := S
  rw [hS] at hlk hfull hG
  simp only at hlk hfull hG
  unfold snPlace
  rw [ho]
  have hsec : -1000 ≤ Pn.snSec i ∧ Pn.snSec i ≤ 1000 := by unfold Pn.snSec; omega
  generalize Pn.snSec i = sec at *
  have HG := hid hG
  clear hS ho hi hD hL hf hfl hG
  obtain ⟨A1, a1⟩ := p
  obtain ⟨A2, a2⟩ := q
  obtain ⟨B1, b1⟩ := p'
  obtain ⟨B2, b2⟩ := q'
  have hB := Below.refl w.heap.size w
  have x := Blk.new w 25 #[.string (bs D.data), .slice A1 D.cache.length a1, .int .i64 D.fuse, .bool D.off, .slice A2 D.bad.length a2]
  have xk := blk5 x
  have hB_1 := hB.alloc hB.size (.cells #[.string (bs D.data), .slice A1 D.cache.length a1, .int .i64 D.fuse, .bool D.off, .slice A2 D.bad.length a2] 25)
  have z := Blk.new (w.alloc (.cells #[.string (bs D.data), .slice A1 D.cache.length a1, .int .i64 D.fuse, .bool D.off, .slice A2 D.bad.length a2] 25)) 28 #[.slice B1 L.targets.length b1, .slice B2 L.data.length b2]
  simp only [World.size_alloc] at z
  have zk := blk2 z
  have hB_2 := hB_1.alloc hB_1.size (.cells #[.slice B1 L.targets.length b1, .slice B2 L.data.length b2] 28)
  have x_3 := x.alloc (.cells #[.slice B1 L.targets.length b1, .slice B2 L.data.length b2] 28)
  have xk_3 := blk5 x_3
  have pl := Blk.new ((w.alloc (.cells #[.string (bs D.data), .slice A1 D.cache.length a1, .int .i64 D.fuse, .bool D.off, .slice A2 D.bad.length a2] 25)).alloc (.cells #[.slice B1 L.targets.length b1, .slice B2 L.data.length b2] 28)) 96 #[.int .i64 sec, .int .i64 o, .int .i64 16, .func (.func 49) #[] #[], .func (.func 103) #[] #[]]
  simp only [World.size_alloc] at pl
  have plk := blk5 pl
  have hB_4 := hB_2.alloc hB_2.size (.cells #[.int .i64 sec, .int .i64 o, .int .i64 16, .func (.func 49) #[] #[], .func (.func 103) #[] #[]] 96)
  have x_5 := x_3.alloc (.cells #[.int .i64 sec, .int .i64 o, .int .i64 16, .func (.func 49) #[] #[], .func (.func 103) #[] #[]] 96)
  have xk_5 := blk5 x_5
  have z_6 := z.alloc (.cells #[.int .i64 sec, .int .i64 o, .int .i64 16, .func (.func 49) #[] #[], .func (.func 103) #[] #[]] 96)
  have zk_6 := blk2 z_6
  have r := Blk.new (((w.alloc (.cells #[.string (bs D.data), .slice A1 D.cache.length a1, .int .i64 D.fuse, .bool D.off, .slice A2 D.bad.length a2] 25)).alloc (.cells #[.slice B1 L.targets.length b1, .slice B2 L.data.length b2] 28)).alloc (.cells #[.int .i64 sec, .int .i64 o, .int .i64 16, .func (.func 49) #[] #[], .func (.func 103) #[] #[]] 96)) 33 #[.int .u32 0, .int .i64 0, .string (bs [])]
  simp only [World.size_alloc] at r
  have rk := blk3 r
  have rkf := r.frozen
  have hB_7 := hB_4.alloc hB_4.size (.cells #[.int .u32 0, .int .i64 0, .string (bs [])] 33)
  have x_8 := x_5.alloc (.cells #[.int .u32 0, .int .i64 0, .string (bs [])] 33)
  have xk_8 := blk5 x_8
  have z_9 := z_6.alloc (.cells #[.int .u32 0, .int .i64 0, .string (bs [])] 33)
  have zk_9 := blk2 z_9
  have pl_10 := pl.alloc (.cells #[.int .u32 0, .int .i64 0, .string (bs [])] 33)
  have plk_10 := blk5 pl_10
  have v := Blk.new ((((w.alloc (.cells #[.string (bs D.data), .slice A1 D.cache.length a1, .int .i64 D.fuse, .bool D.off, .slice A2 D.bad.length a2] 25)).alloc (.cells #[.slice B1 L.targets.length b1, .slice B2 L.data.length b2] 28)).alloc (.cells #[.int .i64 sec, .int .i64 o, .int .i64 16, .func (.func 49) #[] #[], .func (.func 103) #[] #[]] 96)).alloc (.cells #[.int .u32 0, .int .i64 0, .string (bs [])] 33)) 33 #[.int .u32 0, .int .i64 0, .string (bs [])]
  simp only [World.size_alloc] at v
  have vk := blk3 v
  have vkf := v.frozen
  have hB_11 := hB_7.alloc hB_7.size (.cells #[.int .u32 0, .int .i64 0, .string (bs [])] 33)
  have x_12 := x_8.alloc (.cells #[.int .u32 0, .int .i64 0, .string (bs [])] 33)
  have xk_12 := blk5 x_12
  have z_13 := z_9.alloc (.cells #[.int .u32 0, .int .i64 0, .string (bs [])] 33)
  have zk_13 := blk2 z_13
  have pl_14 := pl_10.alloc (.cells #[.int .u32 0, .int .i64 0, .string (bs [])] 33)
  have plk_14 := blk5 pl_14
  have r_15 := r.alloc (.cells #[.int .u32 0, .int .i64 0, .string (bs [])] 33)
  have rk_15 := blk3 r_15
  have rkf_15 := r_15.frozen
  have n := Blk.new (((((w.alloc (.cells #[.string (bs D.data), .slice A1 D.cache.length a1, .int .i64 D.fuse, .bool D.off, .slice A2 D.bad.length a2] 25)).alloc (.cells #[.slice B1 L.targets.length b1, .slice B2 L.data.length b2] 28)).alloc (.cells #[.int .i64 sec, .int .i64 o, .int .i64 16, .func (.func 49) #[] #[], .func (.func 103) #[] #[]] 96)).alloc (.cells #[.int .u32 0, .int .i64 0, .string (bs [])] 33)).alloc (.cells #[.int .u32 0, .int .i64 0, .string (bs [])] 33)) 33 #[.int .u32 0, .int .i64 0, .string (bs [])]
  simp only [World.size_alloc] at n
  have nk := blk3 n
  have hB_16 := hB_11.alloc hB_11.size (.cells #[.int .u32 0, .int .i64 0, .string (bs [])] 33)
  have x_17 := x_12.alloc (.cells #[.int .u32 0, .int .i64 0, .string (bs [])] 33)
  have xk_17 := blk5 x_17
  have z_18 := z_13.alloc (.cells #[.int .u32 0, .int .i64 0, .string (bs [])] 33)
  have zk_18 := blk2 z_18
  have pl_19 := pl_14.alloc (.cells #[.int .u32 0, .int .i64 0, .string (bs [])] 33)
  have plk_19 := blk5 pl_19
  have r_20 := r_15.alloc (.cells #[.int .u32 0, .int .i64 0, .string (bs [])] 33)
  have rk_20 := blk3 r_20
  have rkf_20 := r_20.frozen
  have v_21 := v.alloc (.cells #[.int .u32 0, .int .i64 0, .string (bs [])] 33)
  have vk_21 := blk3 v_21
  have vkf_21 := v_21.frozen
  go_enter Tryz.func113, Tryz.ntmps113
  go_wp2_with fail
  go_at_call 64
  refine ((hlk _ hB_16)).mono ?_
  rintro e w1 ⟨rfl, hb1⟩
  replace hB := bt hB_16 hb1
  replace x := x_17.below hb1 x_17.lt
  replace xk := blk5 x
  replace z := z_18.below hb1 z_18.lt
  replace zk := blk2 z
  replace pl := pl_19.below hb1 pl_19.lt
  replace plk := blk5 pl
  replace r := r_20.below hb1 r_20.lt
  replace rk := blk3 r
  replace rkf := r.frozen
  replace v := v_21.below hb1 v_21.lt
  replace vk := blk3 v
  replace vkf := v.frozen
  replace n := n.below hb1 n.lt
  replace nk := blk3 n
  clear hB_1 hB_2 xk_3 x_3 hB_4 xk_5 x_5 zk_6 z_6 hB_7 xk_8 x_8 zk_9 z_9 plk_10 pl_10 hB_11 xk_12 x_12 zk_13 z_13 plk_14 pl_14 rk_15 rkf_15 r_15 hB_16 xk_17 x_17 zk_18 z_18 plk_19 pl_19 rk_20 rkf_20 r_20 vk_21 vkf_21 v_21
  by_cases he : er = 0
  · subst he
    have hs := hfull rfl
    have c1 : ¬ s.length < o + 16 := by omega
    have c2 : ¬ o + 16 < o := by omega
    have Hct := hid (cut_take s o 16)
    have hbl : (cut s o 16).length = 16 := cut_length (by omega)
    have h16 : (cut s o 16).length = 16 := cut_length (by omega)
    obtain ⟨t, ht⟩ : ∃ t, cut s o 16 = t := ⟨_, rfl⟩
    have e1 : List.drop o (List.take (o + 16) s) = t := (cut_take s o 16).trans ht
    rw [ht] at h16 HG
    have HG2 := hid (show Pn.snGet D L i = if Sn.good t = true then (Sn.of t, 0) else (Sn.zero, 14) by rw [HG.out]; rfl)
    have htr := fun W => Tryz.strings_Trim_one (bs t) 0 (by decide) W (by rw [bs_size]; omega)
    rw [bs_list, bs_mk, bs_mk] at htr
    replace htr := fun W => (htr W).mono (fun e w' h => (⟨h.1, by rcases h.2 with rfl | rfl; exact Below.refl _ _; exact (Below.refl _ _).drew⟩ : _ ∧ Below W.heap.size W w'))
    clear ht HG hfull hbl Hct
    by_cases hz : t = List.replicate 16 0
    · have Hg := hid (show Pn.snGet D L i = (Sn.zero, 0) by
        have h1 : Sn.of t = Sn.zero := by rw [Sn.of, if_pos hz]
        have h2 : Sn.good t = true := by rw [Sn.good, h1, hz]; decide
        rw [HG2.out, if_pos h2, h1])
      have h2 : Lib.trimB t 0 = [] := by rw [hz]; exact trimB_zeros 16
      rw [h2] at htr
      have hws := fun W => rt_writeSnap_zero W
      rw [← hz] at hws
      have d1 : (t == t) = true := beq_self_eq_true t
      have d2 : (t != t) = false := bne_self_eq_false t
      clear hz h2 HG2
      go_wp2_with fail
      go_at_call 156
      refine ((htr _)).mono ?_
      rintro e w2 ⟨rfl, hb2⟩
      replace hB := bt hB hb2
      replace x := x.below hb2 x.lt
      replace xk := blk5 x
      replace z := z.below hb2 z.lt
      replace zk := blk2 z
      replace pl := pl.below hb2 pl.lt
      replace plk := blk5 pl
      replace r := r.below hb2 r.lt
      replace rk := blk3 r
      replace rkf := r.frozen
      replace v := v.below hb2 v.lt
      replace vk := blk3 v
      replace vkf := v.frozen
      replace n := n.below hb2 n.lt
      replace nk := blk3 n
      go_wp2_with fail
      go_at_call 49
      refine ((hws _)).mono ?_
      rintro e w3 ⟨rfl, hb3⟩
      replace hB := bt hB hb3
      replace x := x.below hb3 x.lt
      replace xk := blk5 x
      replace z := z.below hb3 z.lt
      replace zk := blk2 z
      replace pl := pl.below hb3 pl.lt
      replace plk := blk5 pl
      replace r := r.below hb3 r.lt
      replace rk := blk3 r
      replace rkf := r.frozen
      replace v := v.below hb3 v.lt
      replace vk := blk3 v
      replace vkf := v.frozen
      replace n := n.below hb3 n.lt
      replace nk := blk3 n
      go_wp2_with fail
      have yy := blk3 (blk_set3 r (.int .u32 0) (.int .i64 0) (.string (bs [])))
      have b8 := below_set3 hB (g := w.heap.size + 1 + 1 + 1) (by omega) (.int .u32 0) (.int .i64 0) (.string (bs []))
      refine bodyPost_ret (v := .tuple #[.agg #[.int .u32 0, .int .i64 0, .string (bs [])], .int .i64 0]) (by simp [results, Tryz.results113, go_sem, yy]) rfl ?_
      rw [Hg.out]
      exact ⟨rfl, b8⟩
    · have hne : Lib.trimB t 0 ≠ [] := trimB_some (by rw [h16]; exact hz)
      obtain ⟨y, hy⟩ : ∃ y : Sn, Sn.of t = y := ⟨_, rfl⟩
      have hrd := fun W => rt_readSnap t h16 W
      have hof : Sn.of t = ⟨un (t.take 4), un (cut t 4 2), (toNameR (t.drop 8)).1⟩ := by rw [Sn.of, if_neg hz]
      rw [← hof, hy] at hrd
      have hb1 : y.id < 4294967296 := by rw [← hy]; exact Sn.of_small t
      have hb2 : okInt y.l1 := by
        have h1 := un_lt (cut t 4 2)
        have h2 : (cut t 4 2).length = 2 := cut_length (by omega)
        rw [h2] at h1
        rw [← hy, hof]
        unfold okInt
        show -9223372036854775808 ≤ ((un (cut t 4 2) : Nat) : Int) ∧ ((un (cut t 4 2) : Nat) : Int) ≤ 9223372036854775807
        omega
      have hb3 : y.name.length ≤ maxLen := by
        rw [← hy, hof]
        show (toNameR (t.drop 8)).1.length ≤ maxLen
        have : (toNameR (t.drop 8)).1.length ≤ 8 := by
          unfold toNameR
          split
          · simp
          split
          · rename_i h; exact nameOk_len h
          · simp
        unfold maxLen; omega
      have hws := fun W => rt_writeSnap y hb1 hb2 hb3 W
      have HG3 := hid (show Pn.snGet D L i = if y.ok = true ∧ y.bytes = t then (y, 0) else (Sn.zero, 14) by
        rw [HG2.out, Sn.good, hy]
        by_cases h1 : y.ok = true
        · by_cases h2 : y.bytes = t
          · rw [if_pos (by rw [h1, decide_eq_true h2]; rfl), if_pos ⟨h1, h2⟩]
          · rw [if_neg (by rw [decide_eq_false h2]; simp), if_neg (fun h => h2 h.2)]
        · rw [if_neg (by simp [h1]), if_neg (fun h => h1 h.1)])
      have dT : (Lib.trimB t 0 != []) = true := bne_iff_ne.2 hne
      have dT2 : (Lib.trimB t 0 == []) = false := beq_eq_false_iff_ne.2 hne
      generalize Lib.trimB t 0 = tt at *
      clear hne HG2 hof hy hz hb1 hb2 hb3
      obtain ⟨id, l1, name⟩ := y
      cases hk : Sn.ok ⟨id, l1, name⟩ with
      | false =>
        have Hg := hid (show Pn.snGet D L i = (Sn.zero, 14) by rw [HG3.out, if_neg (by rw [hk]; simp)])
        rw [hk] at hws
        clear HG3 hk
        go_wp2_with fail
        go_at_call 156
        refine ((htr _)).mono ?_
        rintro e w2 ⟨rfl, hb2⟩
        replace hB := bt hB hb2
        replace x := x.below hb2 x.lt
        replace xk := blk5 x
        replace z := z.below hb2 z.lt
        replace zk := blk2 z
        replace pl := pl.below hb2 pl.lt
        replace plk := blk5 pl
        replace r := r.below hb2 r.lt
        replace rk := blk3 r
        replace rkf := r.frozen
        replace v := v.below hb2 v.lt
        replace vk := blk3 v
        replace vkf := v.frozen
        replace n := n.below hb2 n.lt
        replace nk := blk3 n
        go_wp2_with fail
        go_at_call 103
        refine ((hrd _)).mono ?_
        rintro e w3 ⟨rfl, hb3⟩
        replace hB := bt hB hb3
        replace x := x.below hb3 x.lt
        replace xk := blk5 x
        replace z := z.below hb3 z.lt
        replace zk := blk2 z
        replace pl := pl.below hb3 pl.lt
        replace plk := blk5 pl
        replace r := r.below hb3 r.lt
        replace rk := blk3 r
        replace rkf := r.frozen
        replace v := v.below hb3 v.lt
        replace vk := blk3 v
        replace vkf := v.frozen
        replace n := n.below hb3 n.lt
        replace nk := blk3 n
        have hB_22 := below_set3 hB (g := w.heap.size + 1 + 1 + 1 + 1) (by omega) (.int .u32 id) (.int .i64 l1) (.string (bs name))
        have x_23 := blk_off3 x (g := w.heap.size + 1 + 1 + 1 + 1) (by omega) (.int .u32 id) (.int .i64 l1) (.string (bs name))
        have xk_23 := blk5 x_23
        have z_24 := blk_off3 z (g := w.heap.size + 1 + 1 + 1 + 1) (by omega) (.int .u32 id) (.int .i64 l1) (.string (bs name))
        have zk_24 := blk2 z_24
        have pl_25 := blk_off3 pl (g := w.heap.size + 1 + 1 + 1 + 1) (by omega) (.int .u32 id) (.int .i64 l1) (.string (bs name))
        have plk_25 := blk5 pl_25
        have r_26 := blk_off3 r (g := w.heap.size + 1 + 1 + 1 + 1) (by omega) (.int .u32 id) (.int .i64 l1) (.string (bs name))
        have rk_26 := blk3 r_26
        have rkf_26 := r_26.frozen
        have v_27 := blk_set3 v (.int .u32 id) (.int .i64 l1) (.string (bs name))
        have vk_27 := blk3 v_27
        have vkf_27 := v_27.frozen
        have n_28 := blk_off3 n (g := w.heap.size + 1 + 1 + 1 + 1) (by omega) (.int .u32 id) (.int .i64 l1) (.string (bs name))
        have nk_28 := blk3 n_28
        go_wp2_with fail
        go_at_call 49
        refine ((hws _)).mono ?_
        rintro e w4 ⟨⟨b, rfl, hbt⟩, hb4⟩
        replace hB := bt hB_22 hb4
        replace x := x_23.below hb4 x_23.lt
        replace xk := blk5 x
        replace z := z_24.below hb4 z_24.lt
        replace zk := blk2 z
        replace pl := pl_25.below hb4 pl_25.lt
        replace plk := blk5 pl
        replace r := r_26.below hb4 r_26.lt
        replace rk := blk3 r
        replace rkf := r.frozen
        replace v := v_27.below hb4 v_27.lt
        replace vk := blk3 v
        replace vkf := v.frozen
        replace n := n_28.below hb4 n_28.lt
        replace nk := blk3 n
        clear hB_22 xk_23 x_23 zk_24 z_24 plk_25 pl_25 rk_26 rkf_26 r_26 vk_27 vkf_27 v_27 nk_28 n_28
        clear hbt
        go_wp2_with fail
        have yy := blk3 (blk_set3 r (.int .u32 0) (.int .i64 0) (.string (bs [])))
        have b8 := below_set3 hB (g := w.heap.size + 1 + 1 + 1) (by omega) (.int .u32 0) (.int .i64 0) (.string (bs []))
        refine bodyPost_ret (v := .tuple #[.agg #[.int .u32 0, .int .i64 0, .string (bs [])], .int .i64 14]) (by simp [results, Tryz.results113, go_sem, yy]) rfl ?_
        rw [Hg.out]
        exact ⟨rfl, b8⟩
      | true =>
        rw [hk] at hws
        obtain ⟨T9, hT9⟩ : ∃ T, Sn.bytes ⟨id, l1, name⟩ = T := ⟨_, rfl⟩
        by_cases hq : T9 = t
        · have Hg := hid (show Pn.snGet D L i = (⟨id, l1, name⟩, 0) by rw [HG3.out, if_pos ⟨hk, hT9.trans hq⟩])
          subst hq
          have d2 : (T9 != T9) = false := bne_self_eq_false T9
          have d1 : (T9 == T9) = true := beq_self_eq_true T9
          rw [hT9] at hws
          clear HG3 hk hT9
          go_wp2_with fail
          go_at_call 156
          refine ((htr _)).mono ?_
          rintro e w2 ⟨rfl, hb2⟩
          replace hB := bt hB hb2
          replace x := x.below hb2 x.lt
          replace xk := blk5 x
          replace z := z.below hb2 z.lt
          replace zk := blk2 z
          replace pl := pl.below hb2 pl.lt
          replace plk := blk5 pl
          replace r := r.below hb2 r.lt
          replace rk := blk3 r
          replace rkf := r.frozen
          replace v := v.below hb2 v.lt
          replace vk := blk3 v
          replace vkf := v.frozen
          replace n := n.below hb2 n.lt
          replace nk := blk3 n
          go_wp2_with fail
          go_at_call 103
          refine ((hrd _)).mono ?_
          rintro e w3 ⟨rfl, hb3⟩
          replace hB := bt hB hb3
          replace x := x.below hb3 x.lt
          replace xk := blk5 x
          replace z := z.below hb3 z.lt
          replace zk := blk2 z
          replace pl := pl.below hb3 pl.lt
          replace plk := blk5 pl
          replace r := r.below hb3 r.lt
          replace rk := blk3 r
          replace rkf := r.frozen
          replace v := v.below hb3 v.lt
          replace vk := blk3 v
          replace vkf := v.frozen
          replace n := n.below hb3 n.lt
          replace nk := blk3 n
          have hB_22 := below_set3 hB (g := w.heap.size + 1 + 1 + 1 + 1) (by omega) (.int .u32 id) (.int .i64 l1) (.string (bs name))
          have x_23 := blk_off3 x (g := w.heap.size + 1 + 1 + 1 + 1) (by omega) (.int .u32 id) (.int .i64 l1) (.string (bs name))
          have xk_23 := blk5 x_23
          have z_24 := blk_off3 z (g := w.heap.size + 1 + 1 + 1 + 1) (by omega) (.int .u32 id) (.int .i64 l1) (.string (bs name))
          have zk_24 := blk2 z_24
          have pl_25 := blk_off3 pl (g := w.heap.size + 1 + 1 + 1 + 1) (by omega) (.int .u32 id) (.int .i64 l1) (.string (bs name))
          have plk_25 := blk5 pl_25
          have r_26 := blk_off3 r (g := w.heap.size + 1 + 1 + 1 + 1) (by omega) (.int .u32 id) (.int .i64 l1) (.string (bs name))
          have rk_26 := blk3 r_26
          have rkf_26 := r_26.frozen
          have v_27 := blk_set3 v (.int .u32 id) (.int .i64 l1) (.string (bs name))
          have vk_27 := blk3 v_27
          have vkf_27 := v_27.frozen
          have n_28 := blk_off3 n (g := w.heap.size + 1 + 1 + 1 + 1) (by omega) (.int .u32 id) (.int .i64 l1) (.string (bs name))
          have nk_28 := blk3 n_28
          go_wp2_with fail
          go_at_call 49
          refine ((hws _)).mono ?_
          rintro e w4 ⟨⟨b, rfl, hbt⟩, hb4⟩
          replace hB := bt hB_22 hb4
          replace x := x_23.below hb4 x_23.lt
          replace xk := blk5 x
          replace z := z_24.below hb4 z_24.lt
          replace zk := blk2 z
          replace pl := pl_25.below hb4 pl_25.lt
          replace plk := blk5 pl
          replace r := r_26.below hb4 r_26.lt
          replace rk := blk3 r
          replace rkf := r.frozen
          replace v := v_27.below hb4 v_27.lt
          replace vk := blk3 v
          replace vkf := v.frozen
          replace n := n_28.below hb4 n_28.lt
          replace nk := blk3 n
          clear hB_22 xk_23 x_23 zk_24 z_24 plk_25 pl_25 rk_26 rkf_26 r_26 vk_27 vkf_27 v_27 nk_28 n_28
          obtain rfl : b = T9 := hbt (by first | rfl | trivial)
          clear hbt
          go_wp2_with fail
          have yy := blk3 (blk_set3 r (.int .u32 id) (.int .i64 l1) (.string (bs name)))
          have b8 := below_set3 hB (g := w.heap.size + 1 + 1 + 1) (by omega) (.int .u32 id) (.int .i64 l1) (.string (bs name))
          refine bodyPost_ret (v := .tuple #[.agg #[.int .u32 id, .int .i64 l1, .string (bs name)], .int .i64 0]) (by simp [results, Tryz.results113, go_sem, yy]) rfl ?_
          rw [Hg.out]
          exact ⟨rfl, b8⟩
        · have Hg := hid (show Pn.snGet D L i = (Sn.zero, 14) by rw [HG3.out, if_neg (fun h => hq (hT9.symm.trans h.2))])
          have d2 : (T9 != t) = true := bne_iff_ne.2 hq
          have d1 : (T9 == t) = false := beq_eq_false_iff_ne.2 hq
          rw [hT9] at hws
          clear HG3 hk hT9 hq
          go_wp2_with fail
          go_at_call 156
          refine ((htr _)).mono ?_
          rintro e w2 ⟨rfl, hb2⟩
          replace hB := bt hB hb2
          replace x := x.below hb2 x.lt
          replace xk := blk5 x
          replace z := z.below hb2 z.lt
          replace zk := blk2 z
          replace pl := pl.below hb2 pl.lt
          replace plk := blk5 pl
          replace r := r.below hb2 r.lt
          replace rk := blk3 r
          replace rkf := r.frozen
          replace v := v.below hb2 v.lt
          replace vk := blk3 v
          replace vkf := v.frozen
          replace n := n.below hb2 n.lt
          replace nk := blk3 n
          go_wp2_with fail
          go_at_call 103
          refine ((hrd _)).mono ?_
          rintro e w3 ⟨rfl, hb3⟩
          replace hB := bt hB hb3
          replace x := x.below hb3 x.lt
          replace xk := blk5 x
          replace z := z.below hb3 z.lt
          replace zk := blk2 z
          replace pl := pl.below hb3 pl.lt
          replace plk := blk5 pl
          replace r := r.below hb3 r.lt
          replace rk := blk3 r
          replace rkf := r.frozen
          replace v := v.below hb3 v.lt
          replace vk := blk3 v
          replace vkf := v.frozen
          replace n := n.below hb3 n.lt
          replace nk := blk3 n
          have hB_22 := below_set3 hB (g := w.heap.size + 1 + 1 + 1 + 1) (by omega) (.int .u32 id) (.int .i64 l1) (.string (bs name))
          have x_23 := blk_off3 x (g := w.heap.size + 1 + 1 + 1 + 1) (by omega) (.int .u32 id) (.int .i64 l1) (.string (bs name))
          have xk_23 := blk5 x_23
          have z_24 := blk_off3 z (g := w.heap.size + 1 + 1 + 1 + 1) (by omega) (.int .u32 id) (.int .i64 l1) (.string (bs name))
          have zk_24 := blk2 z_24
          have pl_25 := blk_off3 pl (g := w.heap.size + 1 + 1 + 1 + 1) (by omega) (.int .u32 id) (.int .i64 l1) (.string (bs name))
          have plk_25 := blk5 pl_25
          have r_26 := blk_off3 r (g := w.heap.size + 1 + 1 + 1 + 1) (by omega) (.int .u32 id) (.int .i64 l1) (.string (bs name))
          have rk_26 := blk3 r_26
          have rkf_26 := r_26.frozen
          have v_27 := blk_set3 v (.int .u32 id) (.int .i64 l1) (.string (bs name))
          have vk_27 := blk3 v_27
          have vkf_27 := v_27.frozen
          have n_28 := blk_off3 n (g := w.heap.size + 1 + 1 + 1 + 1) (by omega) (.int .u32 id) (.int .i64 l1) (.string (bs name))
          have nk_28 := blk3 n_28
          go_wp2_with fail
          go_at_call 49
          refine ((hws _)).mono ?_
          rintro e w4 ⟨⟨b, rfl, hbt⟩, hb4⟩
          replace hB := bt hB_22 hb4
          replace x := x_23.below hb4 x_23.lt
          replace xk := blk5 x
          replace z := z_24.below hb4 z_24.lt
          replace zk := blk2 z
          replace pl := pl_25.below hb4 pl_25.lt
          replace plk := blk5 pl
          replace r := r_26.below hb4 r_26.lt
          replace rk := blk3 r
          replace rkf := r.frozen
          replace v := v_27.below hb4 v_27.lt
          replace vk := blk3 v
          replace vkf := v.frozen
          replace n := n_28.below hb4 n_28.lt
          replace nk := blk3 n
          clear hB_22 xk_23 x_23 zk_24 z_24 plk_25 pl_25 rk_26 rkf_26 r_26 vk_27 vkf_27 v_27 nk_28 n_28
          obtain rfl : b = T9 := hbt (by first | rfl | trivial)
          clear hbt
          go_wp2_with fail
          have yy := blk3 (blk_set3 r (.int .u32 0) (.int .i64 0) (.string (bs [])))
          have b8 := below_set3 hB (g := w.heap.size + 1 + 1 + 1) (by omega) (.int .u32 0) (.int .i64 0) (.string (bs []))
          refine bodyPost_ret (v := .tuple #[.agg #[.int .u32 0, .int .i64 0, .string (bs [])], .int .i64 14]) (by simp [results, Tryz.results113, go_sem, yy]) rfl ?_
          rw [Hg.out]
          exact ⟨rfl, b8⟩
  · have n1 : (er != 0) = true := bne_iff_ne.2 he
    have Hg := hid (show Pn.snGet D L i = (Sn.zero, er) by rw [HG.out, if_pos he])
    clear he hfull
    go_wp2_with fail
    have yy := blk3 (blk_set3 r (.int .u32 0) (.int .i64 0) (.string (bs [])))
    have b8 := below_set3 hB (g := w.heap.size + 1 + 1 + 1) (by omega) (.int .u32 0) (.int .i64 0) (.string (bs []))
    refine bodyPost_ret (v := .tuple #[.agg #[.int .u32 0, .int .i64 0, .string (bs [])], .int .i64 er]) (by simp [results, Tryz.results113, go_sem, yy]) rfl ?_
    rw [Hg.out]
    exact ⟨rfl, b8⟩
end Go.Proofs.YtjhnaeomaigimaaGreatDoor
