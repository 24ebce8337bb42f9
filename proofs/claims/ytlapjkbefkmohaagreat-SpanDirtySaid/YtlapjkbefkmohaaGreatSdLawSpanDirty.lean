/- SpanDirty: whatever was written, wiped, or cleared of the guest's is dirty in each bitmap: any fit image of few writes, any range, any text. No condition. -/
import Derived.Test.YtlapjkbefkmohaaGreatSdLaw15b
import Derived.Test.YtlapjkbefkmohaaGreatSdGood15
import Derived.Test.YtlapjkbefkmohaaGreatSdClear1
import Derived.Test.YtlapjkbefkmohaaGreatSdSpan7
import Derived.Test.YtlapjkbefkmohaaGreatSdRoot3
import Derived.Test.YtlapjkbefkmohaaGreatSdSpan1
set_option linter.unusedVariables false
namespace Go.Proofs.YtlapjkbefkmohaaGreat.spanDirty
open Go.RowKit Go.Shelf Go.WideShapes Go.ChangeShapes Go.ChangeAt
open Go.ChangeMaps (open_string shut_string)
attribute [local go_sem] bs_mk bs_append bs_extract bs_size bs_toList bs_get
theorem write_in {x : Im} {u off : Int} {s : List UInt8} (h0 : (x.write u off s).2 = 0) (hs : s ≠ []) : 0 ≤ u ∧ u < x.g ∧ 0 ≤ off ∧ off + s.length ≤ 128 := by
 unfold Im.write at h0
 split at h0
 · exact absurd h0 (by simp)
 split at h0
 · exact absurd h0 (by simp)
 · omega
theorem write_kept' {x : Im} (h : x.Ok) (u off : Int) (s : List UInt8) : Im.Kept x (x.write u off s).1 := by
 rcases Int.lt_or_le u 0 with hu | hu
 · unfold Im.write
   split
   · exact Im.Kept.refl h
   · rw [if_pos (.inl (.inl hu))]
     exact Im.Kept.refl h
 · obtain ⟨v, rfl⟩ := Int.eq_ofNat_of_zero_le hu
   exact (Im.write_kept h v off s).1
set_option maxRecDepth 100000 in
theorem walk_no (D : Dk) (g h : Int) (j : Jr) (maps : List Dm) (br : Bool) (p q r : Pl) (u off : Int) (s : List UInt8) (a n : Int) (w : World) (hI : IsIm0 w D g h j maps p q r) (hg : goodI D g h j maps = false) :
 Calls Tryz.prog 5 #[imval0 D g h j maps br p q r, .int .i64 u, .int .i64 off, .string (bs s), .int .i64 a, .int .i64 n] w fun e w' => e = .returned (.bool true) ∧ Below w.heap.size w w' := by
 have hG := fun (W : World) (hb : Below w.heap.size w W) => good15 D g h j maps br p q r W (hI.below hb)
 rw [hg] at hG
 clear hI hg
 obtain ⟨sq, pos⟩ := j
 obtain ⟨A1, a1⟩ := p
 obtain ⟨A2, a2⟩ := q
 obtain ⟨A3, a3⟩ := r
 have hB := Below.refl w.heap.size w
 have x := Blk.new w 33 #[.string (bs D.data), .slice A1 D.cache.length a1, .int .i64 D.fuse, .bool D.off, .slice A2 D.bad.length a2, .int .i64 g, .int .i64 h, .int .u64 sq, .int .i64 pos, .slice A3 maps.length a3, .bool br]
 have xk := blk11 x
 have hB_1 := hB.alloc hB.size (.cells #[.string (bs D.data), .slice A1 D.cache.length a1, .int .i64 D.fuse, .bool D.off, .slice A2 D.bad.length a2, .int .i64 g, .int .i64 h, .int .u64 sq, .int .i64 pos, .slice A3 maps.length a3, .bool br] 33)
 go_enter Tryz.func5, Tryz.ntmps5
 go_wp2_with fail
 go_at_call 6
 refine ((hG _ hB_1)).mono ?_
 rintro e w1 ⟨rfl, hb1⟩
 replace hB := bt hB_1 hb1
 replace x := x.below hb1 x.lt
 replace xk := blk11 x
 clear hB_1
 go_wp2_with fail
 go_at_call 7
 refine ((awake15 _)).mono ?_
 rintro e w2 ⟨rfl, hb2⟩
 replace hB := bt hB hb2
 replace x := x.below hb2 x.lt
 replace xk := blk11 x
 go_wp2_with fail
 go_ret
 exact ⟨rfl, hB⟩
set_option maxRecDepth 100000 in
set_option maxHeartbeats 4000000 in
theorem walk_yes (D : Dk) (g : Int) (h : Nat) (j : Jr) (maps : List Dm) (br : Bool) (p q r : Pl) (u off : Int) (hu : okInt u) (ho : okInt off) (s : List UInt8) (hs : s.length ≤ 9223372036854775807) (a n : Int) (ha : okInt a) (hn : okInt n) (w : World) (hI0 : IsIm0 w D g h j maps p q r) (hg : goodI D g h j maps = true) (hI : IsIm w ⟨D, g, h, j, maps, br⟩ p q r) (ok : (⟨D, g, h, j, maps, br⟩ : Im).Ok) :
 Calls Tryz.prog 5 #[imval0 D g h j maps br p q r, .int .i64 u, .int .i64 off, .string (bs s), .int .i64 a, .int .i64 n] w fun e w' => e = .returned (.bool true) ∧ Below w.heap.size w w' := by
 have hG := fun (W : World) (hb : Below w.heap.size w W) => good15 D g h j maps br p q r W (hI0.below hb)
 rw [hg] at hG
 have hW := fun (W : World) (hb : Below w.heap.size w W) => r13_write ⟨D, g, h, j, maps, br⟩ p q r W (hI.below hb) ok u off s hu ho hs
 have hk1 := write_kept' ok u off s
 have ok1 := hk1.ok
 have hC := hid (fun (W : World) (P Q R : Pl) (i : IsIm W (Im.write ⟨D, g, h, j, maps, br⟩ u off s).1 P Q R) => r14_clear (Im.write ⟨D, g, h, j, maps, br⟩ u off s).1 P Q R W i ok1 a n ha hn)
 have okz := (Im.clear_kept ok1 a n true).1.ok
 have Hu := hid (fun (e : (Im.write ⟨D, g, h, j, maps, br⟩ u off s).2 = 0) (hs : s ≠ []) => write_in e hs)
 have Hc1 := hid (fun (e : (Im.write ⟨D, g, h, j, maps, br⟩ u off s).2 = 0) (hs : s ≠ []) (m : Dm) (hm : m ∈ maps) => Im.write_dirty ok e hs a n true hm)
 have Hc2 := hid (fun (e : (Im.clear (Im.write ⟨D, g, h, j, maps, br⟩ u off s).1 a n true).2 = 0) (hn : 0 < n) (m : Dm) (hm : m ∈ maps) => Im.clear_dirty ok hk1 hn e hm)
 have Hsd0 := hid (fun (W : World) (P Q R : Pl) (i : IsIm W (Im.clear (Im.write ⟨D, g, h, j, maps, br⟩ u off s).1 a n true).1 P Q R) (nm : List UInt8) (hnm : nm.length ≤ maxLen) (a n : Int) (ha : okInt a) (hn : okInt n) => sp_dirty _ P Q R W i okz.g nm hnm a n ha hn)
 have H64 := hid hI.m.bits
 have Hnm := hid hI.m.name
 have Hrg := hid (fun (h : 0 < maps.length) => hI.m.range h)
 have hgg : g ≤ 64 := ok.g.2
 have hll := Nat.le_trans hI.m.cap hI.m.max
 unfold maxLen at hll
 clear hI0 hg hI hk1 ok ok1 okz
 generalize Im.clear (Im.write ⟨D, g, h, j, maps, br⟩ u off s).1 a n true = KZ at *
 generalize Im.write ⟨D, g, h, j, maps, br⟩ u off s = KY at *
 obtain ⟨⟨E, g1, h1, ⟨sq1, po1⟩, m1, b1⟩, e⟩ := KY
 obtain ⟨⟨G, g2, h2, ⟨sq2, po2⟩, m2, b2⟩, f⟩ := KZ
 simp only at hW hC Hu Hc1 Hc2 Hsd0
 obtain ⟨sq, pos⟩ := j
 obtain ⟨A1, a1⟩ := p
 obtain ⟨A2, a2⟩ := q
 obtain ⟨A3, a3⟩ := r
 have a36 := Tryz.dm_agg
 have z36 := Tryz.dm_siz
 have hB := Below.refl w.heap.size w
 have x := Blk.new w 33 #[.string (bs D.data), .slice A1 D.cache.length a1, .int .i64 D.fuse, .bool D.off, .slice A2 D.bad.length a2, .int .i64 g, .int .i64 h, .int .u64 sq, .int .i64 pos, .slice A3 maps.length a3, .bool br]
 have xk := blk11 x
 have hB_1 := hB.alloc hB.size (.cells #[.string (bs D.data), .slice A1 D.cache.length a1, .int .i64 D.fuse, .bool D.off, .slice A2 D.bad.length a2, .int .i64 g, .int .i64 h, .int .u64 sq, .int .i64 pos, .slice A3 maps.length a3, .bool br] 33)
 go_enter Tryz.func5, Tryz.ntmps5
 go_wp2_with fail
 go_at_call 6
 refine ((hG _ hB_1)).mono ?_
 rintro e w1 ⟨rfl, hb1⟩
 replace hB := bt hB_1 hb1
 replace x := x.below hb1 x.lt
 replace xk := blk11 x
 clear hB_1
 go_wp2_with fail
 go_at_call 16
 refine ((hW _ hB)).mono ?_
 rintro e w2 ⟨⟨⟨P1, p1⟩, ⟨Q1, q1⟩, ⟨R1, r1⟩, rfl, i2, o2⟩, hb2⟩
 replace hB := bt hB hb2
 replace x := x.below hb2 x.lt
 replace xk := blk11 x
 have i2d := i2.d
 have i2m := i2.m
 clear i2 o2
 have y := Blk.new w2 33 #[.string (bs E.data), .slice P1 E.cache.length p1, .int .i64 E.fuse, .bool E.off, .slice Q1 E.bad.length q1, .int .i64 g1, .int .i64 h1, .int .u64 sq1, .int .i64 po1, .slice R1 m1.length r1, .bool b1]
 have yk := blk11 y
 have hB_2 := hB.alloc hB.size (.cells #[.string (bs E.data), .slice P1 E.cache.length p1, .int .i64 E.fuse, .bool E.off, .slice Q1 E.bad.length q1, .int .i64 g1, .int .i64 h1, .int .u64 sq1, .int .i64 po1, .slice R1 m1.length r1, .bool b1] 33)
 have x_3 := x.alloc (.cells #[.string (bs E.data), .slice P1 E.cache.length p1, .int .i64 E.fuse, .bool E.off, .slice Q1 E.bad.length q1, .int .i64 g1, .int .i64 h1, .int .u64 sq1, .int .i64 po1, .slice R1 m1.length r1, .bool b1] 33)
 have xk_3 := blk11 x_3
 have i2d_4 := i2d.below ((Below.refl _ _).alloc (Nat.le_refl _) (.cells #[.string (bs E.data), .slice P1 E.cache.length p1, .int .i64 E.fuse, .bool E.off, .slice Q1 E.bad.length q1, .int .i64 g1, .int .i64 h1, .int .u64 sq1, .int .i64 po1, .slice R1 m1.length r1, .bool b1] 33))
 have i2m_5 := i2m.below ((Below.refl _ _).alloc (Nat.le_refl _) (.cells #[.string (bs E.data), .slice P1 E.cache.length p1, .int .i64 E.fuse, .bool E.off, .slice Q1 E.bad.length q1, .int .i64 g1, .int .i64 h1, .int .u64 sq1, .int .i64 po1, .slice R1 m1.length r1, .bool b1] 33))
 go_wp2_with fail
 go_at_call 17
 refine ((hC.out _ _ _ _ ⟨i2d_4, i2m_5⟩)).mono ?_
 rintro e w3 ⟨⟨⟨P2, p2⟩, ⟨Q2, q2⟩, ⟨R2, r2⟩, rfl, i3, o3⟩, hb3⟩
 replace hB := bt hB_2 hb3
 replace x := x_3.below hb3 x_3.lt
 replace xk := blk11 x
 replace i2d := i2d_4.below hb3
 replace i2m := i2m_5.below hb3
 replace y := y.below hb3 y.lt
 replace yk := blk11 y
 clear hB_2 xk_3 x_3 i2d_4 i2m_5
 have i3d := i3.d
 have i3m := i3.m
 clear i3 o3
 have z := Blk.new w3 33 #[.string (bs G.data), .slice P2 G.cache.length p2, .int .i64 G.fuse, .bool G.off, .slice Q2 G.bad.length q2, .int .i64 g2, .int .i64 h2, .int .u64 sq2, .int .i64 po2, .slice R2 m2.length r2, .bool b2]
 have zk := blk11 z
 have hB_6 := hB.alloc hB.size (.cells #[.string (bs G.data), .slice P2 G.cache.length p2, .int .i64 G.fuse, .bool G.off, .slice Q2 G.bad.length q2, .int .i64 g2, .int .i64 h2, .int .u64 sq2, .int .i64 po2, .slice R2 m2.length r2, .bool b2] 33)
 have x_7 := x.alloc (.cells #[.string (bs G.data), .slice P2 G.cache.length p2, .int .i64 G.fuse, .bool G.off, .slice Q2 G.bad.length q2, .int .i64 g2, .int .i64 h2, .int .u64 sq2, .int .i64 po2, .slice R2 m2.length r2, .bool b2] 33)
 have xk_7 := blk11 x_7
 have y_8 := y.alloc (.cells #[.string (bs G.data), .slice P2 G.cache.length p2, .int .i64 G.fuse, .bool G.off, .slice Q2 G.bad.length q2, .int .i64 g2, .int .i64 h2, .int .u64 sq2, .int .i64 po2, .slice R2 m2.length r2, .bool b2] 33)
 have yk_8 := blk11 y_8
 have i3d_9 := i3d.below ((Below.refl _ _).alloc (Nat.le_refl _) (.cells #[.string (bs G.data), .slice P2 G.cache.length p2, .int .i64 G.fuse, .bool G.off, .slice Q2 G.bad.length q2, .int .i64 g2, .int .i64 h2, .int .u64 sq2, .int .i64 po2, .slice R2 m2.length r2, .bool b2] 33))
 have i3m_10 := i3m.below ((Below.refl _ _).alloc (Nat.le_refl _) (.cells #[.string (bs G.data), .slice P2 G.cache.length p2, .int .i64 G.fuse, .bool G.off, .slice Q2 G.bad.length q2, .int .i64 g2, .int .i64 h2, .int .u64 sq2, .int .i64 po2, .slice R2 m2.length r2, .bool b2] 33))
 go_wp2_with fail
 generalize (w3.alloc (.cells #[.string (bs G.data), .slice P2 G.cache.length p2, .int .i64 G.fuse, .bool G.off, .slice Q2 G.bad.length q2, .int .i64 g2, .int .i64 h2, .int .u64 sq2, .int .i64 po2, .slice R2 m2.length r2, .bool b2] 33)) = V at hB_6 x_7 xk_7 y_8 yk_8 i3d_9 i3m_10 z zk ⊢
 clear hB x y i3d i3m xk yk
 have hB := hB_6
 have x := x_7
 have xk := xk_7
 have y := y_8
 have yk := yk_8
 have i3d := i3d_9
 have i3m := i3m_10
 clear hB_6 x_7 xk_7 y_8 yk_8 i3d_9 i3m_10
 have zV := z
 have hBV := hB
 have Hsd := hid (fun (W : World) (hb : Below V.heap.size V W) (nm : List UInt8) (hnm : nm.length ≤ maxLen) (a n : Int) (ha : okInt a) (hn : okInt n) => Hsd0.out W ⟨P2, p2⟩ ⟨Q2, q2⟩ ⟨R2, r2⟩ ⟨(i3d).below hb, (i3m).below hb⟩ nm hnm a n ha hn)
 clear Hsd0 i3d i3m
 go_loopw [45] (fun y U => ∃ m : Nat, m ≤ maps.length ∧ y = .int .i64 m ∧ Below V.heap.size V U) (fun y _ => maps.length - (intOf y).toNat)
 case atStart => exact ⟨0, Nat.zero_le _, rfl, Below.refl _ _⟩
 case round =>
  obtain ⟨m, hm, rfl, hb⟩ := hrel
  by_cases hlt : m < maps.length
  · obtain ⟨gb, go, ea, hgb, hcs⟩ := Hrg.out (by omega)
    have ea' : A3 = some ⟨gb, go, none⟩ := ea
    subst ea'
    have hme : maps[m] ∈ maps := List.getElem_mem hlt
    have h64 := H64.out _ hme
    have hnm := Hnm.out _ hme
    have hrg := hcs m hlt
    obtain ⟨e3, he3⟩ : ∃ e3, maps[m] = e3 := ⟨_, rfl⟩
    rw [he3] at hme h64 hnm hrg
    clear he3 hcs
    have k1 := Tryz.dm_load e3 h64 (rangeAt_at hrg (bt hBV hb))
    have dz : Blk (wr.alloc (.cells Tryz.zeroCells57 57)) wr.heap.size 57 (dmCells Dm.zero).toArray := by rw [← Tryz.dm_zeros]; exact Blk.new _ _ _
    have st := Tryz.dm_put e3 h64 rfl dz
    have hbd := below_setD (hb.alloc hb.size (.cells Tryz.zeroCells57 57)) (g := wr.heap.size) hb.size e3
    have dd := blk_setD dz e3 rfl h64
    have dk1 := Tryz.dm_all e3 h64 dd
    have dzf := dz.frozen
    have dl := dm_len h64
    by_cases e0 : e = 0
    rotate_left
    · have n1 : (e == 0) = false := beq_eq_false_iff_ne.2 e0
      clear e0 Hc1
      have Hc1 := hid trivial
      by_cases f0 : f = 0
      rotate_left
      · have n2 : (f == 0) = false := beq_eq_false_iff_ne.2 f0
        clear f0 Hc1 Hc2
        go_wp2_with fail
        go_roundw
        case rel => exact ⟨m + 1, by omega, by go_num, hbd⟩
        case measure => simp [intOf]; omega
      · by_cases hn0 : 0 < n
        rotate_left
        · have n3 : decide (0 < n) = false := decide_eq_false hn0
          have Hf := hid f0
          clear Hc1 Hc2
          replace Hf := Hf.out
          subst Hf
          go_wp2_with fail
          go_roundw
          case rel => exact ⟨m + 1, by omega, by go_num, hbd⟩
          case measure => simp [intOf]; omega
        · have n3 : decide (0 < n) = true := decide_eq_true hn0
          have hdc := Hc2.out f0 hn0 _ hme
          have hcc := Hsd.out _ hbd e3.name hnm a n ha hn
          rw [hdc] at hcc
          clear Hc1 Hc2 hdc hme
          subst f0
          have zk2 := blk11 (zV.below hbd zV.lt)
          have dk2 := Tryz.dm_all e3 h64 dd
          go_wp2_with fail
          go_at_call 11
          refine (hcc).mono ?_
          rintro e5 wq ⟨⟨vwq, rfl, hvwq⟩, hbwq⟩
          obtain ⟨Bwq, cwq, rfl, ccwq, _, _⟩ := own_slice hvwq
          obtain ⟨gXwq, oXwq, eXwq, hXwq⟩ := (Cells.of_own hvwq).ent (i := 0) (by simp)
          replace hXwq := hXwq 0 (by simp)
          simp only [Nat.zero_mul, Nat.add_zero, List.getElem_cons_zero] at hXwq
          subst eXwq
          simp only [List.length_cons, List.length_nil, Nat.zero_add] at ccwq
          clear hvwq
          go_wp2_with fail
          go_roundw
          case rel => exact ⟨m + 1, by omega, by go_num, bt hbd hbwq⟩
          case measure => simp [intOf]; omega
    · by_cases hs0 : s = []
      · subst hs0
        subst e0
        have n1 : (([] : List UInt8) != []) = false := rfl
        clear Hc1
        have Hc1 := hid trivial
        by_cases f0 : f = 0
        rotate_left
        · have n2 : (f == 0) = false := beq_eq_false_iff_ne.2 f0
          clear f0 Hc1 Hc2
          go_wp2_with fail
          go_roundw
          case rel => exact ⟨m + 1, by omega, by go_num, hbd⟩
          case measure => simp [intOf]; omega
        · by_cases hn0 : 0 < n
          rotate_left
          · have n3 : decide (0 < n) = false := decide_eq_false hn0
            have Hf := hid f0
            clear Hc1 Hc2
            replace Hf := Hf.out
            subst Hf
            go_wp2_with fail
            go_roundw
            case rel => exact ⟨m + 1, by omega, by go_num, hbd⟩
            case measure => simp [intOf]; omega
          · have n3 : decide (0 < n) = true := decide_eq_true hn0
            have hdc := Hc2.out f0 hn0 _ hme
            have hcc := Hsd.out _ hbd e3.name hnm a n ha hn
            rw [hdc] at hcc
            clear Hc1 Hc2 hdc hme
            subst f0
            have zk2 := blk11 (zV.below hbd zV.lt)
            have dk2 := Tryz.dm_all e3 h64 dd
            go_wp2_with fail
            go_at_call 11
            refine (hcc).mono ?_
            rintro e5 wq ⟨⟨vwq, rfl, hvwq⟩, hbwq⟩
            obtain ⟨Bwq, cwq, rfl, ccwq, _, _⟩ := own_slice hvwq
            obtain ⟨gXwq, oXwq, eXwq, hXwq⟩ := (Cells.of_own hvwq).ent (i := 0) (by simp)
            replace hXwq := hXwq 0 (by simp)
            simp only [Nat.zero_mul, Nat.add_zero, List.getElem_cons_zero] at hXwq
            subst eXwq
            simp only [List.length_cons, List.length_nil, Nat.zero_add] at ccwq
            clear hvwq
            go_wp2_with fail
            go_roundw
            case rel => exact ⟨m + 1, by omega, by go_num, bt hbd hbwq⟩
            case measure => simp [intOf]; omega
      · have n1 : s.isEmpty = false := by cases s with
         | nil => exact absurd rfl hs0
         | cons x t => rfl
        obtain ⟨hu1, hu2, hu3, hu4⟩ := Hu.out e0 hs0
        have wu := i64w (x := u * 128) (by omega)
        have wv := i64w (x := u * 128 + off) (by omega)
        have hdc := Hc1.out e0 hs0 _ hme
        have hcc := Hsd.out _ hbd e3.name hnm (u * 128 + off) s.length (by unfold okInt; omega) (by unfold okInt; omega)
        have zk1 := blk11 (zV.below hbd zV.lt)
        rw [Int.mul_comm 128 u] at hdc
        rw [hdc] at hcc
        clear Hc1 hdc
        subst e0
        go_wp2_with fail
        go_at_call 11
        refine (hcc).mono ?_
        rintro e5 wp ⟨⟨vwp, rfl, hvwp⟩, hbwp⟩
        obtain ⟨Bwp, cwp, rfl, ccwp, _, _⟩ := own_slice hvwp
        obtain ⟨gXwp, oXwp, eXwp, hXwp⟩ := (Cells.of_own hvwp).ent (i := 0) (by simp)
        replace hXwp := hXwp 0 (by simp)
        simp only [Nat.zero_mul, Nat.add_zero, List.getElem_cons_zero] at hXwp
        subst eXwp
        simp only [List.length_cons, List.length_nil, Nat.zero_add] at ccwp
        clear hvwp
        have dp := dd.below hbwp dd.lt
        clear zk1 dk1
        have hbd2 := bt hbd hbwp
        have Hc1 := hid trivial
        by_cases f0 : f = 0
        rotate_left
        · have n2 : (f == 0) = false := beq_eq_false_iff_ne.2 f0
          clear f0 Hc1 Hc2
          go_wp2_with fail
          go_roundw
          case rel => exact ⟨m + 1, by omega, by go_num, hbd2⟩
          case measure => simp [intOf]; omega
        · by_cases hn0 : 0 < n
          rotate_left
          · have n3 : decide (0 < n) = false := decide_eq_false hn0
            have Hf := hid f0
            clear Hc1 Hc2
            replace Hf := Hf.out
            subst Hf
            go_wp2_with fail
            go_roundw
            case rel => exact ⟨m + 1, by omega, by go_num, hbd2⟩
            case measure => simp [intOf]; omega
          · have n3 : decide (0 < n) = true := decide_eq_true hn0
            have hdc := Hc2.out f0 hn0 _ hme
            have hcc := Hsd.out _ hbd2 e3.name hnm a n ha hn
            rw [hdc] at hcc
            clear Hc1 Hc2 hdc hme
            subst f0
            have zk2 := blk11 (zV.below hbd2 zV.lt)
            have dk2 := Tryz.dm_all e3 h64 dp
            go_wp2_with fail
            go_at_call 11
            refine (hcc).mono ?_
            rintro e5 wq ⟨⟨vwq, rfl, hvwq⟩, hbwq⟩
            obtain ⟨Bwq, cwq, rfl, ccwq, _, _⟩ := own_slice hvwq
            obtain ⟨gXwq, oXwq, eXwq, hXwq⟩ := (Cells.of_own hvwq).ent (i := 0) (by simp)
            replace hXwq := hXwq 0 (by simp)
            simp only [Nat.zero_mul, Nat.add_zero, List.getElem_cons_zero] at hXwq
            subst eXwq
            simp only [List.length_cons, List.length_nil, Nat.zero_add] at ccwq
            clear hvwq
            go_wp2_with fail
            go_roundw
            case rel => exact ⟨m + 1, by omega, by go_num, bt hbd2 hbwq⟩
            case measure => simp [intOf]; omega
  · obtain rfl : m = maps.length := by omega
    go_wp2_with fail
    go_at_call 7
    refine (awake15 _).mono ?_
    rintro e4 w4 ⟨rfl, hb4⟩
    go_wp2_with fail
    go_ret
    exact ⟨rfl, bt hBV (bt hb hb4)⟩
theorem walk (w : World) (D : Dk) (g h : Int) (j : Jr) (maps : List Dm) (br : Bool) (p q r : Pl) (hI : IsIm0 w D g h j maps p q r) (u : Int) (hu : (Lit.int .i64 u).wf = true) (off : Int) (ho : (Lit.int .i64 off).wf = true) (s0 : ByteArray) (ws : s0.size ≤ maxLen) (a : Int) (ha : (Lit.int .i64 a).wf = true) (n : Int) (hn : (Lit.int .i64 n).wf = true) :
 Calls Tryz.prog 5 #[imval0 D g h j maps br p q r, .int .i64 u, .int .i64 off, .string s0, .int .i64 a, .int .i64 n] w fun e w' => e = .returned (.bool true) ∧ Below w.heap.size w w' := by
 obtain ⟨s, rfl⟩ := bs_of s0
 have hs : s.length ≤ 9223372036854775807 := by rw [bs_size] at ws; unfold maxLen at ws; omega
 cases hg : goodI D g h j maps with
 | false => exact walk_no D g h j maps br p q r u off s a n w hI hg
 | true =>
  obtain ⟨hh, rfl, h2, ok⟩ := good_ok br hI hg
  exact walk_yes D g hh j maps br p q r u off (okInt_of hu) (okInt_of ho) s hs a n (okInt_of ha) (okInt_of hn) w hI hg h2 ok
/-! ### The row -/
theorem own : ownKnob Tryz.prog.godebug = none := by kernel_rfl
set_option maxRecDepth 100000 in
theorem lifted (os : Os) (started : os.Started) (H : Type) (enc : TypeId × Value → H) :
 ReturnsInHanded {} Tryz.checked os 5 .any (Rows.spanDirtySpec.pre6 enc Tryz.prog Tryz.f5 Rows.spanDirtyRow.domain false) (Rows.spanDirtySpec.post enc Tryz.prog Tryz.f5 false true false false) := by
 refine returnsInHanded_of_change_sized (C := Tryz.checked) own started (by kernel_rfl) Tryz.func5
  (ChangeSpec.witness6 (enc := enc) (C := Tryz.checked) false ⟨#[], #[.agg #[.string ByteArray.empty, .slice none 0 0, .int .i64 0, .bool false, .slice none 0 0, .int .i64 0, .int .i64 0, .int .u64 0, .int .i64 0, .slice none 0 0, .bool false], .int .i64 0, .int .i64 0, .string ByteArray.empty, .int .i64 0, .int .i64 0], []⟩ 8 (by kernel_rfl) (by kernel_rfl) (by kernel_rfl) (by kernel_rfl)) ?_
 intro W base args ds gs before hval0 hW hcnd hsz0 _
 have hval : ∀ (j : Nat) t v, Tryz.f5.params[j]? = some t → args[j]? = some v → Value.okWide Tryz.prog W .any base t v := hval0
 have hW' := hW
 obtain ⟨p, q, hA0, hV, rfl, hfz, hnd⟩ := hW
 have hA : DataW.TrodAll enc Tryz.prog W 0 (fun _ => true) true Tryz.f5.params.toList args.toList ds p := hA0
 have hAk := hA
 have hsz : (DataW.weightsEach Tryz.prog (Tryz.f5.params.toList ++ Rows.spanDirtySpec.plain.varTypes Tryz.prog) (ds ++ gs)).all (· ≤ reachBytes) = true := hsz0
 rw [Tryz.params5] at hA hval hsz
 obtain ⟨v0, vs0, d0, ds0, p0, q0, hargs, rfl, rfl, h0, r0⟩ := trodAll_cons hA
 obtain ⟨v1, vs1, d1, ds1, p1, q1, rfl, rfl, rfl, h1, r1⟩ := trodAll_cons r0
 obtain ⟨v2, vs2, d2, ds2, p2, q2, rfl, rfl, rfl, h2, r2⟩ := trodAll_cons r1
 obtain ⟨v3, vs3, d3, ds3, p3, q3, rfl, rfl, rfl, h3, r3⟩ := trodAll_cons r2
 obtain ⟨v4, vs4, d4, ds4, p4, q4, rfl, rfl, rfl, h4, r4⟩ := trodAll_cons r3
 obtain ⟨v5, vs5, d5, ds5, p5, q5, rfl, rfl, rfl, h5, r5⟩ := trodAll_cons r4
 obtain ⟨rfl, rfl, rfl⟩ := trodAll_nil r5
 obtain rfl : args = #[v0, v1, v2, v3, v4, v5] := by cases args; simp_all
 obtain ⟨rfl, rfl⟩ := trodVars_none hV
 obtain ⟨D0, g0, n0, j0, m0, b0, P0, Q0, R0, rfl, w0⟩ := open_image Tryz.underlying33 (by kernel_rfl) ⟨by kernel_rfl, by kernel_rfl⟩ ⟨by kernel_rfl, by kernel_rfl⟩ ⟨by kernel_rfl, by kernel_rfl⟩ ⟨by kernel_rfl, by kernel_rfl⟩ ⟨by kernel_rfl, by kernel_rfl⟩ Tryz.underlying25 (by kernel_rfl) Tryz.underlying9 Tryz.underlying22 Tryz.underlying3 Tryz.underlying4 Tryz.underlying23 Tryz.underlying133 (by kernel_rfl) (by kernel_rfl) Tryz.underlying3 Tryz.underlying9 Tryz.underlying3 (by kernel_rfl) (by kernel_rfl) Tryz.underlying27 (by kernel_rfl) Tryz.underlying3 Tryz.underlying3 Tryz.underlying30 (by kernel_rfl) Tryz.underlying28 Tryz.underlying3 Tryz.underlying31 Tryz.underlying57 ⟨by kernel_rfl, by kernel_rfl⟩ ⟨by kernel_rfl, by kernel_rfl⟩ ⟨by kernel_rfl, by kernel_rfl⟩ (by kernel_rfl) Tryz.underlying9 Tryz.underlying4 Tryz.underlying55 Tryz.underlying4 (by kernel_rfl) Tryz.underlying4 (hval 0 33 v0 rfl rfl) h0 (weights_each hsz (j := 0) rfl rfl)
 obtain ⟨a1, rfl, rfl, rfl, w1⟩ := open_int Tryz.underlying3 (hval 1 3 v1 rfl rfl) h1
 obtain ⟨a2, rfl, rfl, rfl, w2⟩ := open_int Tryz.underlying3 (hval 2 3 v2 rfl rfl) h2
 obtain ⟨a3, rfl, rfl, rfl, w3⟩ := open_string Tryz.underlying9 (hval 3 9 v3 rfl rfl) h3
 obtain ⟨a4, rfl, rfl, rfl, w4⟩ := open_int Tryz.underlying3 (hval 4 3 v4 rfl rfl) h4
 obtain ⟨a5, rfl, rfl, rfl, w5⟩ := open_int Tryz.underlying3 (hval 5 3 v5 rfl rfl) h5
 clear hA0 hval0
 simp only [List.append_nil] at hW'
 refine (walk W D0 g0 n0 j0 m0 b0 P0 Q0 R0 w0 a1 w1 a2 w2 a3 w3 a4 w4 a5 w5).mono fun e W' ⟨he, hb⟩ => ?_
 subst he
 exact ⟨_, rfl, post_of_below (pa := _) (pv := []) hW' (fun _ _ _ => (trodAll_cons_mk (shut_bool Tryz.underlying4 _) trodAll_mk0)) (fun sp hsp => trodAll_stays (by kernel_rfl) hb (by kernel_rfl) hAk (fun x hx => hW'.lt x (by simpa using hx)) (fun x hx => hsp x (by simpa using hx))) (fun _ _ => rfl) (by simp) hb (ok_one (by kernel_rfl) rfl (okWide_bool_mk Tryz.underlying4 _))⟩
theorem over_ : Rows.spanDirtyRow.holds Tryz.pinned (OpenSpec.ofChange Rows.spanDirtySpec) :=
 OpenClaim.holds_of_wide 5 Tryz.f5 rfl rfl rfl rfl rfl rfl rfl ⟨rfl, rfl, rfl, rfl, rfl⟩ rfl rfl rfl rfl rfl (by kernel_rfl) Tryz.func5 (by kernel_rfl)
  (of_decide_eq_true (by kernel_rfl)) (by unfold Func.isWrapper; first | (rw [if_pos (by decide +kernel)]; kernel_rfl) | (rw [if_neg (by decide +kernel)]; exact ⟨rfl, rfl⟩))
  (fun os started H enc _ => lifted os started H enc)
/-- The statement. -/
theorem proved : Rows.SpanDirtySaid := over_
#print axioms proved
end Go.Proofs.YtlapjkbefkmohaaGreat.spanDirty
