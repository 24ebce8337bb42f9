/- Package root: a dirty bitmap's place is read. -/
import Derived.Test.YtjhnaeomaigimaaGreatDoorRoot14
set_option linter.unusedVariables false
namespace Go.Proofs.YtjhnaeomaigimaaGreatDoor
open Go.RowKit Go.Shelf
attribute [local go_sem] bs_mk bs_append bs_extract bs_size bs_toList bs_get
theorem toNameR_short (l : List UInt8) : (toNameR l).1.length ≤ 8 := by
  unfold toNameR
  split
  · simp
  split
  · rename_i h; exact nameOk_len h
  · simp
theorem Dm.of_read {t : List UInt8} (h : t ≠ List.replicate 64 0) : Dm.of t = Dm.read t := by rw [Dm.of, if_neg h]; rfl
theorem Dm.read_name (t : List UInt8) : (Dm.read t).name.length ≤ 8 := toNameR_short _
set_option maxRecDepth 100000 in
set_option maxHeartbeats 2000000 in
theorem rt_getMap (D : Dk) (L : Pn) (p q p' q' : Pl) (w : World) (hD : IsDk w D p q) (hL : IsPn w L p' q') (hf : D.fit = true) (hfl : L.Fit) (i : Nat) (hi : i < 2) :
    Calls Tryz.prog 114 #[dval D p q, pval L p' q', dmPlace i] w fun e w' => e = .returned (.tuple #[dmval (Pn.dmGet D L i).1, .int .i64 (Pn.dmGet D L i).2]) ∧ Below w.heap.size w w' := by
  have hlk := fun (W : World) (hb : Below w.heap.size w W) => pl_look D L p q p' q' W (hD.below hb) (hL.below hb) (4 + i) ((Dk.fit_parts hf).2.2.1) (by have := hfl.2.1; omega) hfl.1
  have hfull := Pn.look_full (k := 4 + i) hf hfl
  have hG : Pn.dmGet D L i = if (Pn.look D L (4 + i)).2 ≠ 0 then (Dm.zero, (Pn.look D L (4 + i)).2) else if Dm.good (Pn.look D L (4 + i)).1 = true then (Dm.of (Pn.look D L (4 + i)).1, 0) else (Dm.zero, 14) := rfl
  obtain ⟨S, hS⟩ : ∃ S, Pn.look D L (4 + i) = S := ⟨_, rfl⟩
  obtain ⟨s, er⟩ := S
  rw [hS] at hlk hfull hG
  simp only at hlk hfull hG
  unfold dmPlace
  have hsec : -1000 ≤ (4 : Int) + i ∧ (4 : Int) + i ≤ 1000 := by omega
  generalize (4 : Int) + (i : Int) = sec at *
  have HG := hid hG
  have a36 := Tryz.dm_agg
  have z36 := Tryz.dm_siz
  have zc := Tryz.dm_zeros
  have lz := dm_len (m := Dm.zero) rfl
  clear hS hi hD hL hf hfl hG
  obtain ⟨A1, a1⟩ := p
  obtain ⟨A2, a2⟩ := q
  obtain ⟨B1, b1⟩ := p'
  obtain ⟨B2, b2⟩ := q'
  have hB := Below.refl w.heap.size w
  have x := Blk.new w 25 #[.string (bs D.data), .slice A1 D.cache.length a1, .int .i64 D.fuse, .bool D.off, .slice A2 D.bad.length a2]
  have xk := blk5 x
  have hB_1 := hB.alloc hB.size (.cells #[.string (bs D.data), .slice A1 D.cache.length a1, .int .i64 D.fuse, .bool D.off, .slice A2 D.bad.length a2] 25)
  have z := Blk.new (w.alloc (.cells #[.string (bs D.data), .slice A1 D.cache.length a1, .int .i64 D.fuse, .bool D.off, .slice A2 D.bad.length a2] 25)) 28 #[.slice B1 L.targets.length b1, .slice B2 L.data.length b2]
  simp only [World.size_alloc] at z
  have zk := blk2 z
  have hB_2 := hB_1.alloc hB_1.size (.cells #[.slice B1 L.targets.length b1, .slice B2 L.data.length b2] 28)
  have x_3 := x.alloc (.cells #[.slice B1 L.targets.length b1, .slice B2 L.data.length b2] 28)
  have xk_3 := blk5 x_3
  have pl := Blk.new ((w.alloc (.cells #[.string (bs D.data), .slice A1 D.cache.length a1, .int .i64 D.fuse, .bool D.off, .slice A2 D.bad.length a2] 25)).alloc (.cells #[.slice B1 L.targets.length b1, .slice B2 L.data.length b2] 28)) 164 #[.int .i64 sec, .int .i64 0, .int .i64 64, .func (.func 54) #[] #[], .func (.func 115) #[] #[]]
  simp only [World.size_alloc] at pl
  have plk := blk5 pl
  have hB_4 := hB_2.alloc hB_2.size (.cells #[.int .i64 sec, .int .i64 0, .int .i64 64, .func (.func 54) #[] #[], .func (.func 115) #[] #[]] 164)
  have x_5 := x_3.alloc (.cells #[.int .i64 sec, .int .i64 0, .int .i64 64, .func (.func 54) #[] #[], .func (.func 115) #[] #[]] 164)
  have xk_5 := blk5 x_5
  have z_6 := z.alloc (.cells #[.int .i64 sec, .int .i64 0, .int .i64 64, .func (.func 54) #[] #[], .func (.func 115) #[] #[]] 164)
  have zk_6 := blk2 z_6
  have r := Blk.new (((w.alloc (.cells #[.string (bs D.data), .slice A1 D.cache.length a1, .int .i64 D.fuse, .bool D.off, .slice A2 D.bad.length a2] 25)).alloc (.cells #[.slice B1 L.targets.length b1, .slice B2 L.data.length b2] 28)).alloc (.cells #[.int .i64 sec, .int .i64 0, .int .i64 64, .func (.func 54) #[] #[], .func (.func 115) #[] #[]] 164)) 36 (dmCells Dm.zero).toArray
  simp only [World.size_alloc] at r
  have rk := Tryz.dm_all Dm.zero rfl r
  have rkf := r.frozen
  have hB_7 := hB_4.alloc hB_4.size (.cells (dmCells Dm.zero).toArray 36)
  have x_8 := x_5.alloc (.cells (dmCells Dm.zero).toArray 36)
  have xk_8 := blk5 x_8
  have z_9 := z_6.alloc (.cells (dmCells Dm.zero).toArray 36)
  have zk_9 := blk2 z_9
  have pl_10 := pl.alloc (.cells (dmCells Dm.zero).toArray 36)
  have plk_10 := blk5 pl_10
  have v := Blk.new ((((w.alloc (.cells #[.string (bs D.data), .slice A1 D.cache.length a1, .int .i64 D.fuse, .bool D.off, .slice A2 D.bad.length a2] 25)).alloc (.cells #[.slice B1 L.targets.length b1, .slice B2 L.data.length b2] 28)).alloc (.cells #[.int .i64 sec, .int .i64 0, .int .i64 64, .func (.func 54) #[] #[], .func (.func 115) #[] #[]] 164)).alloc (.cells (dmCells Dm.zero).toArray 36)) 36 (dmCells Dm.zero).toArray
  simp only [World.size_alloc] at v
  have vk := Tryz.dm_all Dm.zero rfl v
  have vkf := v.frozen
  have hB_11 := hB_7.alloc hB_7.size (.cells (dmCells Dm.zero).toArray 36)
  have x_12 := x_8.alloc (.cells (dmCells Dm.zero).toArray 36)
  have xk_12 := blk5 x_12
  have z_13 := z_9.alloc (.cells (dmCells Dm.zero).toArray 36)
  have zk_13 := blk2 z_13
  have pl_14 := pl_10.alloc (.cells (dmCells Dm.zero).toArray 36)
  have plk_14 := blk5 pl_14
  have r_15 := r.alloc (.cells (dmCells Dm.zero).toArray 36)
  have rk_15 := Tryz.dm_all Dm.zero rfl r_15
  have rkf_15 := r_15.frozen
  have n := Blk.new (((((w.alloc (.cells #[.string (bs D.data), .slice A1 D.cache.length a1, .int .i64 D.fuse, .bool D.off, .slice A2 D.bad.length a2] 25)).alloc (.cells #[.slice B1 L.targets.length b1, .slice B2 L.data.length b2] 28)).alloc (.cells #[.int .i64 sec, .int .i64 0, .int .i64 64, .func (.func 54) #[] #[], .func (.func 115) #[] #[]] 164)).alloc (.cells (dmCells Dm.zero).toArray 36)).alloc (.cells (dmCells Dm.zero).toArray 36)) 36 (dmCells Dm.zero).toArray
  simp only [World.size_alloc] at n
  have nk := Tryz.dm_all Dm.zero rfl n
  have hB_16 := hB_11.alloc hB_11.size (.cells (dmCells Dm.zero).toArray 36)
  have x_17 := x_12.alloc (.cells (dmCells Dm.zero).toArray 36)
  have xk_17 := blk5 x_17
  have z_18 := z_13.alloc (.cells (dmCells Dm.zero).toArray 36)
  have zk_18 := blk2 z_18
  have pl_19 := pl_14.alloc (.cells (dmCells Dm.zero).toArray 36)
  have plk_19 := blk5 pl_19
  have r_20 := r_15.alloc (.cells (dmCells Dm.zero).toArray 36)
  have rk_20 := Tryz.dm_all Dm.zero rfl r_20
  have rkf_20 := r_20.frozen
  have v_21 := v.alloc (.cells (dmCells Dm.zero).toArray 36)
  have vk_21 := Tryz.dm_all Dm.zero rfl v_21
  have vkf_21 := v_21.frozen
  go_enter Tryz.func114, Tryz.ntmps114
  go_wp2_with fail
  go_at_call 64
  refine ((hlk _ hB_16)).mono ?_
  rintro e w1 ⟨rfl, hb1⟩
  replace hB := bt hB_16 hb1
  replace x := x_17.below hb1 x_17.lt
  replace xk := blk5 x
  replace z := z_18.below hb1 z_18.lt
  replace zk := blk2 z
  replace pl := pl_19.below hb1 pl_19.lt
  replace plk := blk5 pl
  replace r := r_20.below hb1 r_20.lt
  replace rk := Tryz.dm_all Dm.zero rfl r
  replace rkf := r.frozen
  replace v := v_21.below hb1 v_21.lt
  replace vk := Tryz.dm_all Dm.zero rfl v
  replace vkf := v.frozen
  replace n := n.below hb1 n.lt
  replace nk := Tryz.dm_all Dm.zero rfl n
  clear hB_1 hB_2 xk_3 x_3 hB_4 xk_5 x_5 zk_6 z_6 hB_7 xk_8 x_8 zk_9 z_9 plk_10 pl_10 hB_11 xk_12 x_12 zk_13 z_13 plk_14 pl_14 rk_15 rkf_15 r_15 hB_16 xk_17 x_17 zk_18 z_18 plk_19 pl_19 rk_20 rkf_20 r_20 vk_21 vkf_21 v_21
  by_cases he : er = 0
  · subst he
    have hs := hfull rfl
    have e1 : List.take 64 s = s := List.take_of_length_le (by omega)
    have c1 : ¬ s.length < 64 := by omega
    have HG2 := hid (show Pn.dmGet D L i = if Dm.good s = true then (Dm.of s, 0) else (Dm.zero, 14) by rw [HG.out]; rfl)
    have htr := fun W => Tryz.strings_Trim_one (bs s) 0 (by decide) W (by rw [bs_size]; omega)
    rw [bs_list, bs_mk, bs_mk] at htr
    replace htr := fun W => (htr W).mono (fun e w' h => (⟨h.1, by rcases h.2 with rfl | rfl; exact Below.refl _ _; exact (Below.refl _ _).drew⟩ : _ ∧ Below W.heap.size W w'))
    clear HG hfull
    by_cases hz : s = List.replicate 64 0
    · have Hg := hid (show Pn.dmGet D L i = (Dm.zero, 0) by
        have h1 : Dm.of s = Dm.zero := by rw [Dm.of, if_pos hz]
        have h2 : Dm.good s = true := by rw [Dm.good, h1, hz]; decide
        rw [HG2.out, if_pos h2, h1])
      have h2 : Lib.trimB s 0 = [] := by rw [hz]; exact trimB_zeros 64
      rw [h2] at htr
      have hws := fun W => rt_writeMap_zero W
      rw [← hz] at hws
      have d1 : (s == s) = true := beq_self_eq_true s
      have d2 : (s != s) = false := bne_self_eq_false s
      clear hz h2 HG2
      go_wp2_with fail
      go_at_call 156
      refine ((htr _)).mono ?_
      rintro e w2 ⟨rfl, hb2⟩
      replace hB := bt hB hb2
      replace x := x.below hb2 x.lt
      replace xk := blk5 x
      replace z := z.below hb2 z.lt
      replace zk := blk2 z
      replace pl := pl.below hb2 pl.lt
      replace plk := blk5 pl
      replace r := r.below hb2 r.lt
      replace rk := Tryz.dm_all Dm.zero rfl r
      replace rkf := r.frozen
      replace v := v.below hb2 v.lt
      replace vk := Tryz.dm_all Dm.zero rfl v
      replace vkf := v.frozen
      replace n := n.below hb2 n.lt
      replace nk := Tryz.dm_all Dm.zero rfl n
      go_wp2_with fail
      go_at_call 54
      refine ((hws _)).mono ?_
      rintro e w3 ⟨rfl, hb3⟩
      replace hB := bt hB hb3
      replace x := x.below hb3 x.lt
      replace xk := blk5 x
      replace z := z.below hb3 z.lt
      replace zk := blk2 z
      replace pl := pl.below hb3 pl.lt
      replace plk := blk5 pl
      replace r := r.below hb3 r.lt
      replace rk := Tryz.dm_all Dm.zero rfl r
      replace rkf := r.frozen
      replace v := v.below hb3 v.lt
      replace vk := Tryz.dm_all Dm.zero rfl v
      replace vkf := v.frozen
      replace n := n.below hb3 n.lt
      replace nk := Tryz.dm_all Dm.zero rfl n
      have st := Tryz.dm_put (a := Dm.zero) Dm.zero rfl rfl r
      go_wp2_with fail
      have yy := Tryz.dm_all Dm.zero rfl (blk_setD (a := Dm.zero) r Dm.zero rfl rfl)
      have b8 := below_setD hB (g := w.heap.size + 1 + 1 + 1) (by omega) Dm.zero
      refine bodyPost_ret (v := .tuple #[dmval Dm.zero, .int .i64 0]) (by simp [results, Tryz.results114, go_sem, yy, a36, z36]) rfl ?_
      rw [Hg.out]
      exact ⟨rfl, b8⟩
    · have hne : Lib.trimB s 0 ≠ [] := trimB_some (by rw [hs]; exact hz)
      have hrd := fun W => rt_readMap s hs W
      have hM := Dm.read_bits s
      have hMn : (Dm.read s).name.length ≤ maxLen := by have := Dm.read_name s; unfold maxLen; omega
      have hof := Dm.of_read hz
      obtain ⟨M, hMe⟩ : ∃ M, Dm.read s = M := ⟨_, rfl⟩
      rw [hMe] at hrd hM hMn hof
      have lM := dm_len hM
      have hws := fun W => rt_writeMap M hM hMn W
      have HG3 := hid (show Pn.dmGet D L i = if M.ok = true ∧ M.bytes = s then (M, 0) else (Dm.zero, 14) by
        rw [HG2.out, Dm.good, hof]
        by_cases h1 : M.ok = true
        · by_cases h2 : M.bytes = s
          · rw [if_pos (by rw [h1, decide_eq_true h2]; rfl), if_pos ⟨h1, h2⟩]
          · rw [if_neg (by rw [decide_eq_false h2]; simp), if_neg (fun h => h2 h.2)]
        · rw [if_neg (by simp [h1]), if_neg (fun h => h1 h.1)])
      have dT : (Lib.trimB s 0 != []) = true := bne_iff_ne.2 hne
      have dT2 : (Lib.trimB s 0 == []) = false := beq_eq_false_iff_ne.2 hne
      generalize Lib.trimB s 0 = tt at *
      clear hne HG2 hof hMe hz
      cases hk : M.ok with
      | false =>
        have Hg := hid (show Pn.dmGet D L i = (Dm.zero, 14) by rw [HG3.out, if_neg (by rw [hk]; simp)])
        rw [hk] at hws
        clear HG3 hk
        go_wp2_with fail
        go_at_call 156
        refine ((htr _)).mono ?_
        rintro e w2 ⟨rfl, hb2⟩
        replace hB := bt hB hb2
        replace x := x.below hb2 x.lt
        replace xk := blk5 x
        replace z := z.below hb2 z.lt
        replace zk := blk2 z
        replace pl := pl.below hb2 pl.lt
        replace plk := blk5 pl
        replace r := r.below hb2 r.lt
        replace rk := Tryz.dm_all Dm.zero rfl r
        replace rkf := r.frozen
        replace v := v.below hb2 v.lt
        replace vk := Tryz.dm_all Dm.zero rfl v
        replace vkf := v.frozen
        replace n := n.below hb2 n.lt
        replace nk := Tryz.dm_all Dm.zero rfl n
        go_wp2_with fail
        go_at_call 115
        refine ((hrd _)).mono ?_
        rintro e w3 ⟨rfl, hb3⟩
        replace hB := bt hB hb3
        replace x := x.below hb3 x.lt
        replace xk := blk5 x
        replace z := z.below hb3 z.lt
        replace zk := blk2 z
        replace pl := pl.below hb3 pl.lt
        replace plk := blk5 pl
        replace r := r.below hb3 r.lt
        replace rk := Tryz.dm_all Dm.zero rfl r
        replace rkf := r.frozen
        replace v := v.below hb3 v.lt
        replace vk := Tryz.dm_all Dm.zero rfl v
        replace vkf := v.frozen
        replace n := n.below hb3 n.lt
        replace nk := Tryz.dm_all Dm.zero rfl n
        have sv := Tryz.dm_put (a := Dm.zero) M hM rfl v
        have hB_22 := below_setD hB (g := w.heap.size + 1 + 1 + 1 + 1) (by omega) M
        have x_23 := blk_offD x (g := w.heap.size + 1 + 1 + 1 + 1) (by omega) M
        have xk_23 := blk5 x_23
        have z_24 := blk_offD z (g := w.heap.size + 1 + 1 + 1 + 1) (by omega) M
        have zk_24 := blk2 z_24
        have pl_25 := blk_offD pl (g := w.heap.size + 1 + 1 + 1 + 1) (by omega) M
        have plk_25 := blk5 pl_25
        have r_26 := blk_offD r (g := w.heap.size + 1 + 1 + 1 + 1) (by omega) M
        have rk_26 := Tryz.dm_all Dm.zero rfl r_26
        have rkf_26 := r_26.frozen
        have v_27 := blk_setD v M rfl hM
        have vk_27 := Tryz.dm_all M hM v_27
        have vkf_27 := v_27.frozen
        have n_28 := blk_offD n (g := w.heap.size + 1 + 1 + 1 + 1) (by omega) M
        have nk_28 := Tryz.dm_all Dm.zero rfl n_28
        go_wp2_with fail
        go_at_call 54
        refine ((hws _)).mono ?_
        rintro e w4 ⟨⟨b, rfl, hbt⟩, hb4⟩
        replace hB := bt hB_22 hb4
        replace x := x_23.below hb4 x_23.lt
        replace xk := blk5 x
        replace z := z_24.below hb4 z_24.lt
        replace zk := blk2 z
        replace pl := pl_25.below hb4 pl_25.lt
        replace plk := blk5 pl
        replace r := r_26.below hb4 r_26.lt
        replace rk := Tryz.dm_all Dm.zero rfl r
        replace rkf := r.frozen
        replace v := v_27.below hb4 v_27.lt
        replace vk := Tryz.dm_all M hM v
        replace vkf := v.frozen
        replace n := n_28.below hb4 n_28.lt
        replace nk := Tryz.dm_all Dm.zero rfl n
        clear hB_22 xk_23 x_23 zk_24 z_24 plk_25 pl_25 rk_26 rkf_26 r_26 vk_27 vkf_27 v_27 nk_28 n_28
        clear hbt
        have st := Tryz.dm_put (a := Dm.zero) Dm.zero rfl rfl r
        go_wp2_with fail
        have yy := Tryz.dm_all Dm.zero rfl (blk_setD (a := Dm.zero) r Dm.zero rfl rfl)
        have b8 := below_setD hB (g := w.heap.size + 1 + 1 + 1) (by omega) Dm.zero
        refine bodyPost_ret (v := .tuple #[dmval Dm.zero, .int .i64 14]) (by simp [results, Tryz.results114, go_sem, yy, a36, z36]) rfl ?_
        rw [Hg.out]
        exact ⟨rfl, b8⟩
      | true =>
        rw [hk] at hws
        obtain ⟨T9, hT9⟩ : ∃ T, M.bytes = T := ⟨_, rfl⟩
        by_cases hq : T9 = s
        · have Hg := hid (show Pn.dmGet D L i = (M, 0) by rw [HG3.out, if_pos ⟨hk, hT9.trans hq⟩])
          subst hq
          have d2 : (T9 != T9) = false := bne_self_eq_false T9
          have d1 : (T9 == T9) = true := beq_self_eq_true T9
          rw [hT9] at hws
          clear HG3 hk hT9
          go_wp2_with fail
          go_at_call 156
          refine ((htr _)).mono ?_
          rintro e w2 ⟨rfl, hb2⟩
          replace hB := bt hB hb2
          replace x := x.below hb2 x.lt
          replace xk := blk5 x
          replace z := z.below hb2 z.lt
          replace zk := blk2 z
          replace pl := pl.below hb2 pl.lt
          replace plk := blk5 pl
          replace r := r.below hb2 r.lt
          replace rk := Tryz.dm_all Dm.zero rfl r
          replace rkf := r.frozen
          replace v := v.below hb2 v.lt
          replace vk := Tryz.dm_all Dm.zero rfl v
          replace vkf := v.frozen
          replace n := n.below hb2 n.lt
          replace nk := Tryz.dm_all Dm.zero rfl n
          go_wp2_with fail
          go_at_call 115
          refine ((hrd _)).mono ?_
          rintro e w3 ⟨rfl, hb3⟩
          replace hB := bt hB hb3
          replace x := x.below hb3 x.lt
          replace xk := blk5 x
          replace z := z.below hb3 z.lt
          replace zk := blk2 z
          replace pl := pl.below hb3 pl.lt
          replace plk := blk5 pl
          replace r := r.below hb3 r.lt
          replace rk := Tryz.dm_all Dm.zero rfl r
          replace rkf := r.frozen
          replace v := v.below hb3 v.lt
          replace vk := Tryz.dm_all Dm.zero rfl v
          replace vkf := v.frozen
          replace n := n.below hb3 n.lt
          replace nk := Tryz.dm_all Dm.zero rfl n
          have sv := Tryz.dm_put (a := Dm.zero) M hM rfl v
          have hB_22 := below_setD hB (g := w.heap.size + 1 + 1 + 1 + 1) (by omega) M
          have x_23 := blk_offD x (g := w.heap.size + 1 + 1 + 1 + 1) (by omega) M
          have xk_23 := blk5 x_23
          have z_24 := blk_offD z (g := w.heap.size + 1 + 1 + 1 + 1) (by omega) M
          have zk_24 := blk2 z_24
          have pl_25 := blk_offD pl (g := w.heap.size + 1 + 1 + 1 + 1) (by omega) M
          have plk_25 := blk5 pl_25
          have r_26 := blk_offD r (g := w.heap.size + 1 + 1 + 1 + 1) (by omega) M
          have rk_26 := Tryz.dm_all Dm.zero rfl r_26
          have rkf_26 := r_26.frozen
          have v_27 := blk_setD v M rfl hM
          have vk_27 := Tryz.dm_all M hM v_27
          have vkf_27 := v_27.frozen
          have n_28 := blk_offD n (g := w.heap.size + 1 + 1 + 1 + 1) (by omega) M
          have nk_28 := Tryz.dm_all Dm.zero rfl n_28
          go_wp2_with fail
          go_at_call 54
          refine ((hws _)).mono ?_
          rintro e w4 ⟨⟨b, rfl, hbt⟩, hb4⟩
          replace hB := bt hB_22 hb4
          replace x := x_23.below hb4 x_23.lt
          replace xk := blk5 x
          replace z := z_24.below hb4 z_24.lt
          replace zk := blk2 z
          replace pl := pl_25.below hb4 pl_25.lt
          replace plk := blk5 pl
          replace r := r_26.below hb4 r_26.lt
          replace rk := Tryz.dm_all Dm.zero rfl r
          replace rkf := r.frozen
          replace v := v_27.below hb4 v_27.lt
          replace vk := Tryz.dm_all M hM v
          replace vkf := v.frozen
          replace n := n_28.below hb4 n_28.lt
          replace nk := Tryz.dm_all Dm.zero rfl n
          clear hB_22 xk_23 x_23 zk_24 z_24 plk_25 pl_25 rk_26 rkf_26 r_26 vk_27 vkf_27 v_27 nk_28 n_28
          obtain rfl : b = T9 := hbt (by first | rfl | trivial)
          clear hbt
          have st := Tryz.dm_put (a := Dm.zero) M hM rfl r
          go_wp2_with fail
          have yy := Tryz.dm_all M hM (blk_setD (a := Dm.zero) r M rfl hM)
          have b8 := below_setD hB (g := w.heap.size + 1 + 1 + 1) (by omega) M
          refine bodyPost_ret (v := .tuple #[dmval M, .int .i64 0]) (by simp [results, Tryz.results114, go_sem, yy, a36, z36]) rfl ?_
          rw [Hg.out]
          exact ⟨rfl, b8⟩
        · have Hg := hid (show Pn.dmGet D L i = (Dm.zero, 14) by rw [HG3.out, if_neg (fun h => hq (hT9.symm.trans h.2))])
          have d2 : (T9 != s) = true := bne_iff_ne.2 hq
          have d1 : (T9 == s) = false := beq_eq_false_iff_ne.2 hq
          rw [hT9] at hws
          clear HG3 hk hT9 hq
          go_wp2_with fail
          go_at_call 156
          refine ((htr _)).mono ?_
          rintro e w2 ⟨rfl, hb2⟩
          replace hB := bt hB hb2
          replace x := x.below hb2 x.lt
          replace xk := blk5 x
          replace z := z.below hb2 z.lt
          replace zk := blk2 z
          replace pl := pl.below hb2 pl.lt
          replace plk := blk5 pl
          replace r := r.below hb2 r.lt
          replace rk := Tryz.dm_all Dm.zero rfl r
          replace rkf := r.frozen
          replace v := v.below hb2 v.lt
          replace vk := Tryz.dm_all Dm.zero rfl v
          replace vkf := v.frozen
          replace n := n.below hb2 n.lt
          replace nk := Tryz.dm_all Dm.zero rfl n
          go_wp2_with fail
          go_at_call 115
          refine ((hrd _)).mono ?_
          rintro e w3 ⟨rfl, hb3⟩
          replace hB := bt hB hb3
          replace x := x.below hb3 x.lt
          replace xk := blk5 x
          replace z := z.below hb3 z.lt
          replace zk := blk2 z
          replace pl := pl.below hb3 pl.lt
          replace plk := blk5 pl
          replace r := r.below hb3 r.lt
          replace rk := Tryz.dm_all Dm.zero rfl r
          replace rkf := r.frozen
          replace v := v.below hb3 v.lt
          replace vk := Tryz.dm_all Dm.zero rfl v
          replace vkf := v.frozen
          replace n := n.below hb3 n.lt
          replace nk := Tryz.dm_all Dm.zero rfl n
          have sv := Tryz.dm_put (a := Dm.zero) M hM rfl v
          have hB_22 := below_setD hB (g := w.heap.size + 1 + 1 + 1 + 1) (by omega) M
          have x_23 := blk_offD x (g := w.heap.size + 1 + 1 + 1 + 1) (by omega) M
          have xk_23 := blk5 x_23
          have z_24 := blk_offD z (g := w.heap.size + 1 + 1 + 1 + 1) (by omega) M
          have zk_24 := blk2 z_24
          have pl_25 := blk_offD pl (g := w.heap.size + 1 + 1 + 1 + 1) (by omega) M
          have plk_25 := blk5 pl_25
          have r_26 := blk_offD r (g := w.heap.size + 1 + 1 + 1 + 1) (by omega) M
          have rk_26 := Tryz.dm_all Dm.zero rfl r_26
          have rkf_26 := r_26.frozen
          have v_27 := blk_setD v M rfl hM
          have vk_27 := Tryz.dm_all M hM v_27
          have vkf_27 := v_27.frozen
          have n_28 := blk_offD n (g := w.heap.size + 1 + 1 + 1 + 1) (by omega) M
          have nk_28 := Tryz.dm_all Dm.zero rfl n_28
          go_wp2_with fail
          go_at_call 54
          refine ((hws _)).mono ?_
          rintro e w4 ⟨⟨b, rfl, hbt⟩, hb4⟩
          replace hB := bt hB_22 hb4
          replace x := x_23.below hb4 x_23.lt
          replace xk := blk5 x
          replace z := z_24.below hb4 z_24.lt
          replace zk := blk2 z
          replace pl := pl_25.below hb4 pl_25.lt
          replace plk := blk5 pl
          replace r := r_26.below hb4 r_26.lt
          replace rk := Tryz.dm_all Dm.zero rfl r
          replace rkf := r.frozen
          replace v := v_27.below hb4 v_27.lt
          replace vk := Tryz.dm_all M hM v
          replace vkf := v.frozen
          replace n := n_28.below hb4 n_28.lt
          replace nk := Tryz.dm_all Dm.zero rfl n
          clear hB_22 xk_23 x_23 zk_24 z_24 plk_25 pl_25 rk_26 rkf_26 r_26 vk_27 vkf_27 v_27 nk_28 n_28
          obtain rfl : b = T9 := hbt (by first | rfl | trivial)
          clear hbt
          have st := Tryz.dm_put (a := Dm.zero) Dm.zero rfl rfl r
          go_wp2_with fail
          have yy := Tryz.dm_all Dm.zero rfl (blk_setD (a := Dm.zero) r Dm.zero rfl rfl)
          have b8 := below_setD hB (g := w.heap.size + 1 + 1 + 1) (by omega) Dm.zero
          refine bodyPost_ret (v := .tuple #[dmval Dm.zero, .int .i64 14]) (by simp [results, Tryz.results114, go_sem, yy, a36, z36]) rfl ?_
          rw [Hg.out]
          exact ⟨rfl, b8⟩
  · have n1 : (er != 0) = true := bne_iff_ne.2 he
    have Hg := hid (show Pn.dmGet D L i = (Dm.zero, er) by rw [HG.out, if_pos he])
    clear he hfull
    have st := Tryz.dm_put (a := Dm.zero) Dm.zero rfl rfl r
    go_wp2_with fail
    have yy := Tryz.dm_all Dm.zero rfl (blk_setD (a := Dm.zero) r Dm.zero rfl rfl)
    have b8 := below_setD hB (g := w.heap.size + 1 + 1 + 1) (by omega) Dm.zero
    refine bodyPost_ret (v := .tuple #[dmval Dm.zero, .int .i64 er]) (by simp [results, Tryz.results114, go_sem, yy, a36, z36]) rfl ?_
    rw [Hg.out]
    exact ⟨rfl, b8⟩
end Go.Proofs.YtjhnaeomaigimaaGreatDoor
