/- JourCrash: all or none. Condition of the law: none beyond its own guards. -/
import Derived.Test.YtplgmlcoeehnfaaGreatJcLaw07c
import Derived.Test.YtplgmlcoeehnfaaGreatJcJourCrash1
import Derived.Test.YtplgmlcoeehnfaaGreatJcPlan6
import Derived.Test.YtplgmlcoeehnfaaGreatJcDev4
import Derived.Test.YtplgmlcoeehnfaaGreatJcRef01b
import Derived.Test.YtplgmlcoeehnfaaGreatJcPlan1
import Derived.Test.YtplgmlcoeehnfaaGreatJcJour15
import Derived.Deep.DeepCutAuto
import Derived.Deep.RegionWith
set_option linter.unusedVariables false
namespace Go.Proofs.YtplgmlcoeehnfaaGreat.jourCrash
open Go.RowKit Go.Shelf Go.WideShapes Go.ChangeShapes Go.ChangeAt
open Go.ChangeMaps (open_string shut_string)
attribute [local go_sem] bs_mk bs_append bs_extract bs_size bs_toList bs_get

set_option maxRecDepth 100000 in
set_option maxHeartbeats 1000000 in
theorem walk_no (D : Dk) (L M : Pn) (p q pl ql pm qm : Pl) (nf ng : Int) (K R : List Bool) (AK AR : Option Addr) (cK cR : Nat) (w : World) (h0 : IsDk0 w D p q) (hbl : D.bad.length ≤ 17592186044416) (hg : good7 D = false)  :
    Calls Tryz.prog 12 #[dval D p q, pval L pl ql, pval M pm qm, .int .i64 nf, .slice AK K.length cK, .int .i64 ng, .slice AR R.length cR] w fun e w' => e = .returned (.bool true) ∧ Below w.heap.size w w' := by
  have hG := fun (W : World) (hb : Below w.heap.size w W) => good07 D p q W (h0.below hb) hbl
  rw [hg] at hG
  clear h0 hg
  obtain ⟨A1, a1⟩ := p
  obtain ⟨A2, a2⟩ := q
  obtain ⟨B1, b1⟩ := pl
  obtain ⟨B2, b2⟩ := ql
  obtain ⟨C1, c1⟩ := pm
  obtain ⟨C2, c2⟩ := qm
  have hB := Below.refl w.heap.size w
  have x := Blk.new w 25 #[.string (bs D.data), .slice A1 D.cache.length a1, .int .i64 D.fuse, .bool D.off, .slice A2 D.bad.length a2]
  have xk := blk5 x
  have xkf := x.frozen
  have hB_1 := hB.alloc hB.size (.cells #[.string (bs D.data), .slice A1 D.cache.length a1, .int .i64 D.fuse, .bool D.off, .slice A2 D.bad.length a2] 25)
  have z := Blk.new (w.alloc (.cells #[.string (bs D.data), .slice A1 D.cache.length a1, .int .i64 D.fuse, .bool D.off, .slice A2 D.bad.length a2] 25)) 28 #[.slice B1 L.targets.length b1, .slice B2 L.data.length b2]
  simp only [World.size_alloc] at z
  have zk := blk2 z
  have hB_2 := hB_1.alloc hB_1.size (.cells #[.slice B1 L.targets.length b1, .slice B2 L.data.length b2] 28)
  have x_3 := x.alloc (.cells #[.slice B1 L.targets.length b1, .slice B2 L.data.length b2] 28)
  have xk_3 := blk5 x_3
  have xkf_3 := x_3.frozen
  have y := Blk.new ((w.alloc (.cells #[.string (bs D.data), .slice A1 D.cache.length a1, .int .i64 D.fuse, .bool D.off, .slice A2 D.bad.length a2] 25)).alloc (.cells #[.slice B1 L.targets.length b1, .slice B2 L.data.length b2] 28)) 28 #[.slice C1 M.targets.length c1, .slice C2 M.data.length c2]
  simp only [World.size_alloc] at y
  have yk := blk2 y
  have hB_4 := hB_2.alloc hB_2.size (.cells #[.slice C1 M.targets.length c1, .slice C2 M.data.length c2] 28)
  have x_5 := x_3.alloc (.cells #[.slice C1 M.targets.length c1, .slice C2 M.data.length c2] 28)
  have xk_5 := blk5 x_5
  have xkf_5 := x_5.frozen
  have z_6 := z.alloc (.cells #[.slice C1 M.targets.length c1, .slice C2 M.data.length c2] 28)
  have zk_6 := blk2 z_6
  go_enter Tryz.func12, Tryz.ntmps12
  go_wp2_with fail
  go_at_call 37
  refine ((hG _ hB_4)).mono ?_
  rintro e w1 ⟨rfl, hb1⟩
  replace hB := bt hB_4 hb1
  replace x := x_5.below hb1 x_5.lt
  replace xk := blk5 x
  replace xkf := x.frozen
  replace z := z_6.below hb1 z_6.lt
  replace zk := blk2 z
  replace y := y.below hb1 y.lt
  replace yk := blk2 y
  clear hB_1 hB_2 xk_3 xkf_3 x_3 hB_4 xk_5 xkf_5 x_5 zk_6 z_6
  go_wp2_with fail
  go_at_call 32
  refine ((awake07 _)).mono ?_
  rintro e w2 ⟨rfl, hb2⟩
  replace hB := bt hB hb2
  replace x := x.below hb2 x.lt
  replace xk := blk5 x
  replace xkf := x.frozen
  replace z := z.below hb2 z.lt
  replace zk := blk2 z
  replace y := y.below hb2 y.lt
  replace yk := blk2 y
  go_wp2_with fail
  go_ret
  exact ⟨rfl, hB⟩
set_option maxRecDepth 100000 in
set_option maxHeartbeats 1000000 in
theorem walk_cache (D : Dk) (L M : Pn) (p q pl ql pm qm : Pl) (nf ng : Int) (K R : List Bool) (AK AR : Option Addr) (cK cR : Nat) (w : World) (h0 : IsDk0 w D p q) (hbl : D.bad.length ≤ 17592186044416) (hg : good7 D = true) (x1 : decide (0 < (D.cache.length : Int)) = true) (x1' : decide (0 < D.cache.length) = true) (x1'' : 0 < D.cache.length) :
    Calls Tryz.prog 12 #[dval D p q, pval L pl ql, pval M pm qm, .int .i64 nf, .slice AK K.length cK, .int .i64 ng, .slice AR R.length cR] w fun e w' => e = .returned (.bool true) ∧ Below w.heap.size w w' := by
  have hG := fun (W : World) (hb : Below w.heap.size w W) => good07 D p q W (h0.below hb) hbl
  rw [hg] at hG
  clear h0 hg
  obtain ⟨A1, a1⟩ := p
  obtain ⟨A2, a2⟩ := q
  obtain ⟨B1, b1⟩ := pl
  obtain ⟨B2, b2⟩ := ql
  obtain ⟨C1, c1⟩ := pm
  obtain ⟨C2, c2⟩ := qm
  have hB := Below.refl w.heap.size w
  have x := Blk.new w 25 #[.string (bs D.data), .slice A1 D.cache.length a1, .int .i64 D.fuse, .bool D.off, .slice A2 D.bad.length a2]
  have xk := blk5 x
  have xkf := x.frozen
  have hB_1 := hB.alloc hB.size (.cells #[.string (bs D.data), .slice A1 D.cache.length a1, .int .i64 D.fuse, .bool D.off, .slice A2 D.bad.length a2] 25)
  have z := Blk.new (w.alloc (.cells #[.string (bs D.data), .slice A1 D.cache.length a1, .int .i64 D.fuse, .bool D.off, .slice A2 D.bad.length a2] 25)) 28 #[.slice B1 L.targets.length b1, .slice B2 L.data.length b2]
  simp only [World.size_alloc] at z
  have zk := blk2 z
  have hB_2 := hB_1.alloc hB_1.size (.cells #[.slice B1 L.targets.length b1, .slice B2 L.data.length b2] 28)
  have x_3 := x.alloc (.cells #[.slice B1 L.targets.length b1, .slice B2 L.data.length b2] 28)
  have xk_3 := blk5 x_3
  have xkf_3 := x_3.frozen
  have y := Blk.new ((w.alloc (.cells #[.string (bs D.data), .slice A1 D.cache.length a1, .int .i64 D.fuse, .bool D.off, .slice A2 D.bad.length a2] 25)).alloc (.cells #[.slice B1 L.targets.length b1, .slice B2 L.data.length b2] 28)) 28 #[.slice C1 M.targets.length c1, .slice C2 M.data.length c2]
  simp only [World.size_alloc] at y
  have yk := blk2 y
  have hB_4 := hB_2.alloc hB_2.size (.cells #[.slice C1 M.targets.length c1, .slice C2 M.data.length c2] 28)
  have x_5 := x_3.alloc (.cells #[.slice C1 M.targets.length c1, .slice C2 M.data.length c2] 28)
  have xk_5 := blk5 x_5
  have xkf_5 := x_5.frozen
  have z_6 := z.alloc (.cells #[.slice C1 M.targets.length c1, .slice C2 M.data.length c2] 28)
  have zk_6 := blk2 z_6
  go_enter Tryz.func12, Tryz.ntmps12
  go_wp2_with fail
  go_at_call 37
  refine ((hG _ hB_4)).mono ?_
  rintro e w1 ⟨rfl, hb1⟩
  replace hB := bt hB_4 hb1
  replace x := x_5.below hb1 x_5.lt
  replace xk := blk5 x
  replace xkf := x.frozen
  replace z := z_6.below hb1 z_6.lt
  replace zk := blk2 z
  replace y := y.below hb1 y.lt
  replace yk := blk2 y
  clear hB_1 hB_2 xk_3 xkf_3 x_3 hB_4 xk_5 xkf_5 x_5 zk_6 z_6
  go_wp2_with fail
  go_at_call 32
  refine ((awake07 _)).mono ?_
  rintro e w2 ⟨rfl, hb2⟩
  replace hB := bt hB hb2
  replace x := x.below hb2 x.lt
  replace xk := blk5 x
  replace xkf := x.frozen
  replace z := z.below hb2 z.lt
  replace zk := blk2 z
  replace y := y.below hb2 y.lt
  replace yk := blk2 y
  go_wp2_with fail
  go_ret
  exact ⟨rfl, hB⟩
set_option maxRecDepth 100000 in
set_option maxHeartbeats 1000000 in
theorem walk_off (dat : List UInt8) (fus : Int) (bad : List Int) (L M : Pn) (p q pl ql pm qm : Pl) (nf ng : Int) (K R : List Bool) (AK AR : Option Addr) (cK cR : Nat) (w : World) (h0 : IsDk0 w (⟨dat, [], fus, true, bad⟩ : Dk) p q) (hbl : (⟨dat, [], fus, true, bad⟩ : Dk).bad.length ≤ 17592186044416) (hg : good7 (⟨dat, [], fus, true, bad⟩ : Dk) = true)  :
    Calls Tryz.prog 12 #[dval (⟨dat, [], fus, true, bad⟩ : Dk) p q, pval L pl ql, pval M pm qm, .int .i64 nf, .slice AK K.length cK, .int .i64 ng, .slice AR R.length cR] w fun e w' => e = .returned (.bool true) ∧ Below w.heap.size w w' := by
  have hG := fun (W : World) (hb : Below w.heap.size w W) => good07 (⟨dat, [], fus, true, bad⟩ : Dk) p q W (h0.below hb) hbl
  rw [hg] at hG
  clear h0 hg
  obtain ⟨A1, a1⟩ := p
  obtain ⟨A2, a2⟩ := q
  obtain ⟨B1, b1⟩ := pl
  obtain ⟨B2, b2⟩ := ql
  obtain ⟨C1, c1⟩ := pm
  obtain ⟨C2, c2⟩ := qm
  have hB := Below.refl w.heap.size w
  have x := Blk.new w 25 #[.string (bs (⟨dat, [], fus, true, bad⟩ : Dk).data), .slice A1 0 a1, .int .i64 fus, .bool true, .slice A2 bad.length a2]
  have xk := blk5 x
  have xkf := x.frozen
  have hB_1 := hB.alloc hB.size (.cells #[.string (bs (⟨dat, [], fus, true, bad⟩ : Dk).data), .slice A1 0 a1, .int .i64 fus, .bool true, .slice A2 bad.length a2] 25)
  have z := Blk.new (w.alloc (.cells #[.string (bs (⟨dat, [], fus, true, bad⟩ : Dk).data), .slice A1 0 a1, .int .i64 fus, .bool true, .slice A2 bad.length a2] 25)) 28 #[.slice B1 L.targets.length b1, .slice B2 L.data.length b2]
  simp only [World.size_alloc] at z
  have zk := blk2 z
  have hB_2 := hB_1.alloc hB_1.size (.cells #[.slice B1 L.targets.length b1, .slice B2 L.data.length b2] 28)
  have x_3 := x.alloc (.cells #[.slice B1 L.targets.length b1, .slice B2 L.data.length b2] 28)
  have xk_3 := blk5 x_3
  have xkf_3 := x_3.frozen
  have y := Blk.new ((w.alloc (.cells #[.string (bs (⟨dat, [], fus, true, bad⟩ : Dk).data), .slice A1 0 a1, .int .i64 fus, .bool true, .slice A2 bad.length a2] 25)).alloc (.cells #[.slice B1 L.targets.length b1, .slice B2 L.data.length b2] 28)) 28 #[.slice C1 M.targets.length c1, .slice C2 M.data.length c2]
  simp only [World.size_alloc] at y
  have yk := blk2 y
  have hB_4 := hB_2.alloc hB_2.size (.cells #[.slice C1 M.targets.length c1, .slice C2 M.data.length c2] 28)
  have x_5 := x_3.alloc (.cells #[.slice C1 M.targets.length c1, .slice C2 M.data.length c2] 28)
  have xk_5 := blk5 x_5
  have xkf_5 := x_5.frozen
  have z_6 := z.alloc (.cells #[.slice C1 M.targets.length c1, .slice C2 M.data.length c2] 28)
  have zk_6 := blk2 z_6
  go_enter Tryz.func12, Tryz.ntmps12
  go_wp2_with fail
  go_at_call 37
  refine ((hG _ hB_4)).mono ?_
  rintro e w1 ⟨rfl, hb1⟩
  replace hB := bt hB_4 hb1
  replace x := x_5.below hb1 x_5.lt
  replace xk := blk5 x
  replace xkf := x.frozen
  replace z := z_6.below hb1 z_6.lt
  replace zk := blk2 z
  replace y := y.below hb1 y.lt
  replace yk := blk2 y
  clear hB_1 hB_2 xk_3 xkf_3 x_3 hB_4 xk_5 xkf_5 x_5 zk_6 z_6
  go_wp2_with fail
  go_at_call 32
  refine ((awake07 _)).mono ?_
  rintro e w2 ⟨rfl, hb2⟩
  replace hB := bt hB hb2
  replace x := x.below hb2 x.lt
  replace xk := blk5 x
  replace xkf := x.frozen
  replace z := z.below hb2 z.lt
  replace zk := blk2 z
  replace y := y.below hb2 y.lt
  replace yk := blk2 y
  go_wp2_with fail
  go_ret
  exact ⟨rfl, hB⟩
set_option maxRecDepth 100000 in
set_option maxHeartbeats 1000000 in
theorem walk_fuse (dat : List UInt8) (fus : Int) (bad : List Int) (L M : Pn) (p q pl ql pm qm : Pl) (nf ng : Int) (K R : List Bool) (AK AR : Option Addr) (cK cR : Nat) (w : World) (h0 : IsDk0 w (⟨dat, [], fus, false, bad⟩ : Dk) p q) (hbl : (⟨dat, [], fus, false, bad⟩ : Dk).bad.length ≤ 17592186044416) (hg : good7 (⟨dat, [], fus, false, bad⟩ : Dk) = true) (x3 : decide (0 ≤ fus) = true) (x3' : 0 ≤ fus) :
    Calls Tryz.prog 12 #[dval (⟨dat, [], fus, false, bad⟩ : Dk) p q, pval L pl ql, pval M pm qm, .int .i64 nf, .slice AK K.length cK, .int .i64 ng, .slice AR R.length cR] w fun e w' => e = .returned (.bool true) ∧ Below w.heap.size w w' := by
  have hG := fun (W : World) (hb : Below w.heap.size w W) => good07 (⟨dat, [], fus, false, bad⟩ : Dk) p q W (h0.below hb) hbl
  rw [hg] at hG
  clear h0 hg
  obtain ⟨A1, a1⟩ := p
  obtain ⟨A2, a2⟩ := q
  obtain ⟨B1, b1⟩ := pl
  obtain ⟨B2, b2⟩ := ql
  obtain ⟨C1, c1⟩ := pm
  obtain ⟨C2, c2⟩ := qm
  have hB := Below.refl w.heap.size w
  have x := Blk.new w 25 #[.string (bs (⟨dat, [], fus, false, bad⟩ : Dk).data), .slice A1 0 a1, .int .i64 fus, .bool false, .slice A2 bad.length a2]
  have xk := blk5 x
  have xkf := x.frozen
  have hB_1 := hB.alloc hB.size (.cells #[.string (bs (⟨dat, [], fus, false, bad⟩ : Dk).data), .slice A1 0 a1, .int .i64 fus, .bool false, .slice A2 bad.length a2] 25)
  have z := Blk.new (w.alloc (.cells #[.string (bs (⟨dat, [], fus, false, bad⟩ : Dk).data), .slice A1 0 a1, .int .i64 fus, .bool false, .slice A2 bad.length a2] 25)) 28 #[.slice B1 L.targets.length b1, .slice B2 L.data.length b2]
  simp only [World.size_alloc] at z
  have zk := blk2 z
  have hB_2 := hB_1.alloc hB_1.size (.cells #[.slice B1 L.targets.length b1, .slice B2 L.data.length b2] 28)
  have x_3 := x.alloc (.cells #[.slice B1 L.targets.length b1, .slice B2 L.data.length b2] 28)
  have xk_3 := blk5 x_3
  have xkf_3 := x_3.frozen
  have y := Blk.new ((w.alloc (.cells #[.string (bs (⟨dat, [], fus, false, bad⟩ : Dk).data), .slice A1 0 a1, .int .i64 fus, .bool false, .slice A2 bad.length a2] 25)).alloc (.cells #[.slice B1 L.targets.length b1, .slice B2 L.data.length b2] 28)) 28 #[.slice C1 M.targets.length c1, .slice C2 M.data.length c2]
  simp only [World.size_alloc] at y
  have yk := blk2 y
  have hB_4 := hB_2.alloc hB_2.size (.cells #[.slice C1 M.targets.length c1, .slice C2 M.data.length c2] 28)
  have x_5 := x_3.alloc (.cells #[.slice C1 M.targets.length c1, .slice C2 M.data.length c2] 28)
  have xk_5 := blk5 x_5
  have xkf_5 := x_5.frozen
  have z_6 := z.alloc (.cells #[.slice C1 M.targets.length c1, .slice C2 M.data.length c2] 28)
  have zk_6 := blk2 z_6
  go_enter Tryz.func12, Tryz.ntmps12
  go_wp2_with fail
  go_at_call 37
  refine ((hG _ hB_4)).mono ?_
  rintro e w1 ⟨rfl, hb1⟩
  replace hB := bt hB_4 hb1
  replace x := x_5.below hb1 x_5.lt
  replace xk := blk5 x
  replace xkf := x.frozen
  replace z := z_6.below hb1 z_6.lt
  replace zk := blk2 z
  replace y := y.below hb1 y.lt
  replace yk := blk2 y
  clear hB_1 hB_2 xk_3 xkf_3 x_3 hB_4 xk_5 xkf_5 x_5 zk_6 z_6
  go_wp2_with fail
  go_at_call 32
  refine ((awake07 _)).mono ?_
  rintro e w2 ⟨rfl, hb2⟩
  replace hB := bt hB hb2
  replace x := x.below hb2 x.lt
  replace xk := blk5 x
  replace xkf := x.frozen
  replace z := z.below hb2 z.lt
  replace zk := blk2 z
  replace y := y.below hb2 y.lt
  replace yk := blk2 y
  go_wp2_with fail
  go_ret
  exact ⟨rfl, hB⟩
set_option maxRecDepth 100000 in
set_option maxHeartbeats 1000000 in
theorem walk_bad (dat : List UInt8) (fus : Int) (bad : List Int) (L M : Pn) (p q pl ql pm qm : Pl) (nf ng : Int) (K R : List Bool) (AK AR : Option Addr) (cK cR : Nat) (w : World) (h0 : IsDk0 w (⟨dat, [], fus, false, bad⟩ : Dk) p q) (hbl : (⟨dat, [], fus, false, bad⟩ : Dk).bad.length ≤ 17592186044416) (hg : good7 (⟨dat, [], fus, false, bad⟩ : Dk) = true) (x3 : decide (0 ≤ fus) = false) (x3' : fus < 0) (x4 : decide (0 < (bad.length : Int)) = true) (x4' : decide (0 < bad.length) = true) (x4'' : 0 < bad.length) :
    Calls Tryz.prog 12 #[dval (⟨dat, [], fus, false, bad⟩ : Dk) p q, pval L pl ql, pval M pm qm, .int .i64 nf, .slice AK K.length cK, .int .i64 ng, .slice AR R.length cR] w fun e w' => e = .returned (.bool true) ∧ Below w.heap.size w w' := by
  have hG := fun (W : World) (hb : Below w.heap.size w W) => good07 (⟨dat, [], fus, false, bad⟩ : Dk) p q W (h0.below hb) hbl
  rw [hg] at hG
  clear h0 hg
  obtain ⟨A1, a1⟩ := p
  obtain ⟨A2, a2⟩ := q
  obtain ⟨B1, b1⟩ := pl
  obtain ⟨B2, b2⟩ := ql
  obtain ⟨C1, c1⟩ := pm
  obtain ⟨C2, c2⟩ := qm
  have hB := Below.refl w.heap.size w
  have x := Blk.new w 25 #[.string (bs (⟨dat, [], fus, false, bad⟩ : Dk).data), .slice A1 0 a1, .int .i64 fus, .bool false, .slice A2 bad.length a2]
  have xk := blk5 x
  have xkf := x.frozen
  have hB_1 := hB.alloc hB.size (.cells #[.string (bs (⟨dat, [], fus, false, bad⟩ : Dk).data), .slice A1 0 a1, .int .i64 fus, .bool false, .slice A2 bad.length a2] 25)
  have z := Blk.new (w.alloc (.cells #[.string (bs (⟨dat, [], fus, false, bad⟩ : Dk).data), .slice A1 0 a1, .int .i64 fus, .bool false, .slice A2 bad.length a2] 25)) 28 #[.slice B1 L.targets.length b1, .slice B2 L.data.length b2]
  simp only [World.size_alloc] at z
  have zk := blk2 z
  have hB_2 := hB_1.alloc hB_1.size (.cells #[.slice B1 L.targets.length b1, .slice B2 L.data.length b2] 28)
  have x_3 := x.alloc (.cells #[.slice B1 L.targets.length b1, .slice B2 L.data.length b2] 28)
  have xk_3 := blk5 x_3
  have xkf_3 := x_3.frozen
  have y := Blk.new ((w.alloc (.cells #[.string (bs (⟨dat, [], fus, false, bad⟩ : Dk).data), .slice A1 0 a1, .int .i64 fus, .bool false, .slice A2 bad.length a2] 25)).alloc (.cells #[.slice B1 L.targets.length b1, .slice B2 L.data.length b2] 28)) 28 #[.slice C1 M.targets.length c1, .slice C2 M.data.length c2]
  simp only [World.size_alloc] at y
  have yk := blk2 y
  have hB_4 := hB_2.alloc hB_2.size (.cells #[.slice C1 M.targets.length c1, .slice C2 M.data.length c2] 28)
  have x_5 := x_3.alloc (.cells #[.slice C1 M.targets.length c1, .slice C2 M.data.length c2] 28)
  have xk_5 := blk5 x_5
  have xkf_5 := x_5.frozen
  have z_6 := z.alloc (.cells #[.slice C1 M.targets.length c1, .slice C2 M.data.length c2] 28)
  have zk_6 := blk2 z_6
  go_enter Tryz.func12, Tryz.ntmps12
  go_wp2_with fail
  go_at_call 37
  refine ((hG _ hB_4)).mono ?_
  rintro e w1 ⟨rfl, hb1⟩
  replace hB := bt hB_4 hb1
  replace x := x_5.below hb1 x_5.lt
  replace xk := blk5 x
  replace xkf := x.frozen
  replace z := z_6.below hb1 z_6.lt
  replace zk := blk2 z
  replace y := y.below hb1 y.lt
  replace yk := blk2 y
  clear hB_1 hB_2 xk_3 xkf_3 x_3 hB_4 xk_5 xkf_5 x_5 zk_6 z_6
  go_wp2_with fail
  go_at_call 32
  refine ((awake07 _)).mono ?_
  rintro e w2 ⟨rfl, hb2⟩
  replace hB := bt hB hb2
  replace x := x.below hb2 x.lt
  replace xk := blk5 x
  replace xkf := x.frozen
  replace z := z.below hb2 z.lt
  replace zk := blk2 z
  replace y := y.below hb2 y.lt
  replace yk := blk2 y
  go_wp2_with fail
  go_ret
  exact ⟨rfl, hB⟩
theorem walk (w : World) (D : Dk) (p q : Pl) (hD : IsDk0 w D p q ∧ D.cache.length * Tryz.prog.bytesOf 163 ≤ reachBytes ∧ D.bad.length * Tryz.prog.bytesOf 3 ≤ reachBytes) (L : Pn) (pl ql : Pl) (hL : IsPn w L pl ql) (M : Pn) (pm qm : Pl) (hM : IsPn w M pm qm) (nf : Int) (hnf : (Lit.int .i64 nf).wf = true)
    (AK : Option Addr) (cK : Nat) (K : List Bool) (hK : Cells w AK (boolCells K) ∧ (AK = none → cK = 0) ∧ K.length ≤ cK ∧ cK ≤ maxLen ∧ ∀ x ∈ K, True) (ng : Int) (hng : (Lit.int .i64 ng).wf = true)
    (AR : Option Addr) (cR : Nat) (R : List Bool) (hR : Cells w AR (boolCells R) ∧ (AR = none → cR = 0) ∧ R.length ≤ cR ∧ cR ≤ maxLen ∧ ∀ x ∈ R, True) :
    Calls Tryz.prog 12 #[dval D p q, pval L pl ql, pval M pm qm, .int .i64 nf, .slice AK K.length cK, .int .i64 ng, .slice AR R.length cR] w fun e w' => e = .returned (.bool true) ∧ Below w.heap.size w w' := by
  obtain ⟨h0, c1, b1⟩ := hD
  rw [show Tryz.prog.bytesOf 3 = 8 by kernel_rfl] at b1
  unfold reachBytes at b1
  have hbl : D.bad.length ≤ 17592186044416 := by omega
  cases hg : good7 D with
  | false => exact walk_no D L M p q pl ql pm qm nf ng K R AK AR cK cR w h0 hbl hg
  | true =>
    obtain ⟨dat, cac, fus, off, bad⟩ := D
    cases cac with
    | cons c cac => exact walk_cache ⟨dat, c :: cac, fus, off, bad⟩ L M p q pl ql pm qm nf ng K R AK AR cK cR w h0 hbl hg (decide_eq_true (by simp only [List.length_cons]; omega)) (decide_eq_true (by simp only [List.length_cons]; omega)) (by simp only [List.length_cons]; omega)
    | nil =>
      cases off with
      | true => exact walk_off dat fus bad L M p q pl ql pm qm nf ng K R AK AR cK cR w h0 hbl hg
      | false =>
        by_cases x3 : 0 ≤ fus
        · exact walk_fuse dat fus bad L M p q pl ql pm qm nf ng K R AK AR cK cR w h0 hbl hg (decide_eq_true x3) x3
        · cases bad with
          | cons b bad => exact walk_bad dat fus (b :: bad) L M p q pl ql pm qm nf ng K R AK AR cK cR w h0 hbl hg (decide_eq_false x3) (by omega) (decide_eq_true (by simp only [List.length_cons]; omega)) (decide_eq_true (by simp only [List.length_cons]; omega)) (by simp only [List.length_cons]; omega)
          | nil => exact walk_ok dat fus L M p q pl ql pm qm nf ng K R AK AR cK cR w h0 hL hM hg (decide_eq_false x3) (by omega) (okInt_of hnf) (okInt_of hng) hK.1 (Nat.le_trans hK.2.2.1 hK.2.2.2.1) hR.1 (Nat.le_trans hR.2.2.1 hR.2.2.2.1)
/-! ### The row -/
theorem own : ownKnob Tryz.prog.godebug = none := by kernel_rfl
set_option maxRecDepth 100000 in
theorem lifted (os : Os) (started : os.Started) (H : Type) (enc : TypeId × Value → H) :
    ReturnsInHanded {} Tryz.checked os 12 .any (Rows.jourCrashSpec.pre6 enc Tryz.prog Tryz.f12 Rows.jourCrashRow.domain false) (Rows.jourCrashSpec.post enc Tryz.prog Tryz.f12 false true false false) := by
  refine returnsInHanded_of_change_sized (C := Tryz.checked) own started (by kernel_rfl) Tryz.func12
    (ChangeSpec.witness6 (enc := enc) (C := Tryz.checked) false ⟨#[], #[.agg #[.string ByteArray.empty, .slice none 0 0, .int .i64 0, .bool false, .slice none 0 0], .agg #[.slice none 0 0, .slice none 0 0], .agg #[.slice none 0 0, .slice none 0 0], .int .i64 0, .slice none 0 0, .int .i64 0, .slice none 0 0], []⟩ 8 (by kernel_rfl) (by kernel_rfl) (by kernel_rfl) (by kernel_rfl)) ?_
  intro W base args ds gs before hval0 hW hcnd hsz0 _
  have hval : ∀ (j : Nat) t v, Tryz.f12.params[j]? = some t → args[j]? = some v → Value.okWide Tryz.prog W .any base t v := hval0
  have hW' := hW
  obtain ⟨p, q, hA0, hV, rfl, hfz, hnd⟩ := hW
  have hA : DataW.TrodAll enc Tryz.prog W 0 (fun _ => true) true Tryz.f12.params.toList args.toList ds p := hA0
  have hAk := hA
  have hsz : (DataW.weightsEach Tryz.prog (Tryz.f12.params.toList ++ Rows.jourCrashSpec.plain.varTypes Tryz.prog) (ds ++ gs)).all (· ≤ reachBytes) = true := hsz0
  rw [Tryz.params12] at hA hval hsz
  obtain ⟨v0, vs0, d0, ds0, p0, q0, hargs, rfl, rfl, h0, r0⟩ := trodAll_cons hA
  obtain ⟨v1, vs1, d1, ds1, p1, q1, rfl, rfl, rfl, h1, r1⟩ := trodAll_cons r0
  obtain ⟨v2, vs2, d2, ds2, p2, q2, rfl, rfl, rfl, h2, r2⟩ := trodAll_cons r1
  obtain ⟨v3, vs3, d3, ds3, p3, q3, rfl, rfl, rfl, h3, r3⟩ := trodAll_cons r2
  obtain ⟨v4, vs4, d4, ds4, p4, q4, rfl, rfl, rfl, h4, r4⟩ := trodAll_cons r3
  obtain ⟨v5, vs5, d5, ds5, p5, q5, rfl, rfl, rfl, h5, r5⟩ := trodAll_cons r4
  obtain ⟨v6, vs6, d6, ds6, p6, q6, rfl, rfl, rfl, h6, r6⟩ := trodAll_cons r5
  obtain ⟨rfl, rfl, rfl⟩ := trodAll_nil r6
  obtain rfl : args = #[v0, v1, v2, v3, v4, v5, v6] := by cases args; simp_all
  obtain ⟨rfl, rfl⟩ := trodVars_none hV
  obtain ⟨D0, P0, Q0, rfl, w0⟩ := open_dk_sized Tryz.underlying25 (by kernel_rfl) (by kernel_rfl) Tryz.underlying9 Tryz.underlying22 Tryz.underlying3 Tryz.underlying4 Tryz.underlying23 Tryz.underlying163 (by kernel_rfl) (by kernel_rfl) Tryz.underlying3 Tryz.underlying9 Tryz.underlying3 (by kernel_rfl) (hval 0 25 v0 rfl rfl) h0 (weights_each hsz (j := 0) rfl rfl)
  obtain ⟨D1, P1, Q1, rfl, w1⟩ := open_plan Tryz.underlying28 (by kernel_rfl) (by kernel_rfl) Tryz.underlying23 Tryz.underlying26 Tryz.underlying3 (by kernel_rfl) Tryz.underlying9 (by kernel_rfl) (hval 1 28 v1 rfl rfl) h1
  obtain ⟨D2, P2, Q2, rfl, w2⟩ := open_plan Tryz.underlying28 (by kernel_rfl) (by kernel_rfl) Tryz.underlying23 Tryz.underlying26 Tryz.underlying3 (by kernel_rfl) Tryz.underlying9 (by kernel_rfl) (hval 2 28 v2 rfl rfl) h2
  obtain ⟨a3, rfl, rfl, rfl, w3⟩ := open_int Tryz.underlying3 (hval 3 3 v3 rfl rfl) h3
  obtain ⟨A4, n4, c4, rfl⟩ := okWide_slice Tryz.underlying96 (hval 4 96 v4 rfl rfl)
  obtain ⟨_, h4'⟩ := h4
  obtain ⟨B4, e4, l4, hB4, w4⟩ := open_bools Tryz.underlying96 Tryz.underlying4 (by kernel_rfl) h4'
  rw [hB4] at hW' hAk ⊢
  obtain ⟨a5, rfl, rfl, rfl, w5⟩ := open_int Tryz.underlying3 (hval 5 3 v5 rfl rfl) h5
  obtain ⟨A6, n6, c6, rfl⟩ := okWide_slice Tryz.underlying96 (hval 6 96 v6 rfl rfl)
  obtain ⟨_, h6'⟩ := h6
  obtain ⟨B6, e6, l6, hB6, w6⟩ := open_bools Tryz.underlying96 Tryz.underlying4 (by kernel_rfl) h6'
  rw [hB6] at hW' hAk ⊢
  clear hA0 hval0
  simp only [List.append_nil] at hW'
  refine (walk W D0 P0 Q0 w0 D1 P1 Q1 w1 D2 P2 Q2 w2 a3 w3 B4 e4 l4 w4 a5 w5 B6 e6 l6 w6).mono fun e W' ⟨he, hb⟩ => ?_
  subst he
  exact ⟨_, rfl, post_of_below (pa := _) (pv := []) hW' (fun _ _ _ => (trodAll_cons_mk (shut_bool Tryz.underlying4 _) trodAll_mk0)) (fun sp hsp => trodAll_stays (by kernel_rfl) hb (by kernel_rfl) hAk (fun x hx => hW'.lt x (by simpa using hx)) (fun x hx => hsp x (by simpa using hx))) (fun _ _ => rfl) (by simp) hb (ok_one (by kernel_rfl) rfl (okWide_bool_mk Tryz.underlying4 _))⟩
theorem over_ : Rows.jourCrashRow.holds Tryz.pinned (OpenSpec.ofChange Rows.jourCrashSpec) :=
  OpenClaim.holds_of_wide 12 Tryz.f12 rfl rfl rfl rfl rfl rfl rfl ⟨rfl, rfl, rfl, rfl, rfl⟩ rfl rfl rfl rfl rfl (by kernel_rfl) Tryz.func12 (by kernel_rfl)
    (of_decide_eq_true (by kernel_rfl)) (by unfold Func.isWrapper; first | (rw [if_pos (by decide +kernel)]; kernel_rfl) | (rw [if_neg (by decide +kernel)]; exact ⟨rfl, rfl⟩))
    (fun os started H enc _ => lifted os started H enc)
/-- The statement. -/
theorem proved : Rows.JourCrashSaid := over_
#print axioms proved
end Go.Proofs.YtplgmlcoeehnfaaGreat.jourCrash
