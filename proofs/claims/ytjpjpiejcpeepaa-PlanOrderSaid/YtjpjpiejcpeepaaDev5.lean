/- Package dev: what lasts. -/
import Derived.Test.YtjpjpiejcpeepaaDev4
import Derived.Lib.ConvBytes
import Derived.Lib.LazyBuf
import Derived.StillTailTactics
set_option linter.unusedVariables false
namespace Go.Proofs.Ytjpjpiejcpeepaa
open Go.RowKit Go.Shelf
attribute [local go_sem] bs_mk bs_append bs_extract bs_size bs_toList bs_get

theorem mixed_ : Try.prog.follows .mixedOrders = true := by kernel_rfl
/-- The world behind '[]byte(s)'. -/
theorem bytesWorld_row_ (w : World) (e : TypeId) (l : List UInt8) : Below w.heap.size w (Lib.bytesWorld w e (bs l)) ∧ RowB (Lib.bytesWorld w e (bs l)) w.heap.size l := by
  refine ⟨⟨rfl, rfl, rfl, by rw [Lib.bytesWorld_size]; omega, fun k hk => Lib.bytesWorld_at_old w e _ k hk⟩, fun j hj => ⟨?_, ?_⟩⟩
  · rw [Lib.bytesWorld_cell w e (bs l) j (by rw [bs_size]; exact hj), bs_list]
    simp [hj]
  · have hs : l.length ≤ (Lib.bytesCells w e (bs l)).size := by simp [Lib.bytesCells, bs]
    simp only [World.frozen?, Lib.bytesWorld_at_new]
    simp
    omega
theorem d_flush1 (i : Int) (w : World) : Calls Try.prog 64 #[.int .i64 i] w fun e w' => e = .returned (.bool true) ∧ w' = w := by
  go_enter Try.func64, Try.ntmps64
  go_wp2_with fail
  go_ret
  exact ⟨rfl, rfl⟩
theorem d_crash1 (ks : List Bool) (A3 : Option Addr) (c3 : Nat) (B : Nat) (t : TypeId) (i : Nat) (w : World) (hB : Blk w B t #[.slice A3 ks.length c3]) (hk : Cells w A3 (boolCells ks)) (hkl : ks.length ≤ 9223372036854775807) (hi : i ≤ 1099511627776) :
    Calls Try.prog 58 #[.int .i64 i, .pointer (some ⟨B, 0, none⟩)] w fun e w' => e = .returned (.bool (ks.getD i false)) ∧ Below w.heap.size w w' := by
  have y0 := blk1 hB
  by_cases hil : i < ks.length
  · obtain ⟨kb, ko, hka, hkc⟩ := hk.bool hil
    subst hka
    have kc := hkc i hil
    clear hkc
    have Hv := hid (show ks.getD i false = ks[i] by rw [List.getD_eq_getElem?_getD, List.getElem?_eq_getElem hil]; rfl)
    generalize ks[i] = v at *
    go_enter Try.func58, Try.ntmps58
    go_wp2_with fail
    go_ret
    exact ⟨by rw [Hv.out]; rfl, Below.refl _ _⟩
  · have Hv := hid (show ks.getD i false = false by rw [List.getD_eq_getElem?_getD, List.getElem?_eq_none (by omega)]; rfl)
    go_enter Try.func58, Try.ntmps58
    go_wp2_with fail
    go_ret
    exact ⟨by rw [Hv.out]; rfl, Below.refl _ _⟩
set_option maxRecDepth 100000 in
set_option maxHeartbeats 2000000 in
theorem d_lasting_all (D : Dk) (p q : Pl) (w : World) (hD : IsDk w D p q) (hf : D.fit = true) :
    Calls Try.prog 57 #[dval D p q, .func (.func 64) #[] #[]] w fun e w' => e = .returned (.string (bs (D.last fun i => true))) ∧ Below w.heap.size w w' := by
  obtain ⟨A1, c1⟩ := p
  obtain ⟨A2, c2⟩ := q
  obtain ⟨f1, f2, f3, f4, f5, _⟩ := Dk.fit_parts hf
  have Hf := hid hf; clear hf
  have Hf5 := hid f5; clear f5
  have F3 := hid f3; clear f3
  have hdl := hD.data
  have hcl := hD.cl
  have hb := (Below.refl w.heap.size w).alloc (Nat.le_refl _) (.cells #[.string (bs D.data), .slice A1 D.cache.length c1, .int .i64 D.fuse, .bool D.off, .slice A2 D.bad.length c2] 25)
  have hbx := Blk.new w 25 #[.string (bs D.data), .slice A1 D.cache.length c1, .int .i64 D.fuse, .bool D.off, .slice A2 D.bad.length c2]
  generalize hkeep : (fun i : Nat => true) = keep
  have Hkeep := hid hkeep; clear hkeep
  have hcv := Lib.run_convert_string_bytes (P := Try.prog) (w.alloc (.cells #[.string (bs D.data), .slice A1 D.cache.length c1, .int .i64 D.fuse, .bool D.off, .slice A2 D.bad.length c2] 25)) 9 96 5 (bs D.data) Try.underlying9 Try.underlying96 Try.underlying5
  obtain ⟨q1, q2⟩ := bytesWorld_row_ (w.alloc (.cells #[.string (bs D.data), .slice A1 D.cache.length c1, .int .i64 D.fuse, .bool D.off, .slice A2 D.bad.length c2] 25)) 5 D.data
  have hcap : D.data.length ≤ grownCap (w.alloc (.cells #[.string (bs D.data), .slice A1 D.cache.length c1, .int .i64 D.fuse, .bool D.off, .slice A2 D.bad.length c2] 25)) D.data.length 0 5 := grownCap_ge _ _ _ _
  rw [World.size_alloc] at q2
  replace hb := bt hb q1
  replace hbx := hbx.below q1 (by simp)
  clear q1
  simp only [bs_size, World.size_alloc] at hcv
  generalize grownCap (w.alloc (.cells #[.string (bs D.data), .slice A1 D.cache.length c1, .int .i64 D.fuse, .bool D.off, .slice A2 D.bad.length c2] 25)) D.data.length 0 5 = cap at *
  generalize Lib.bytesWorld (w.alloc (.cells #[.string (bs D.data), .slice A1 D.cache.length c1, .int .i64 D.fuse, .bool D.off, .slice A2 D.bad.length c2] 25)) 5 (bs D.data) = w1 at *
  have k1 := blk5 hbx
  go_enter Try.func57, Try.ntmps57
  go_wp2_with fail
  go_loopw [14] (fun x W => ∃ i : Nat, i ≤ D.cache.length ∧ x = .int .i64 i ∧ RowB W (w.heap.size + 1) (D.lastN keep i) ∧
      Blk W w.heap.size 25 #[.string (bs D.data), .slice A1 D.cache.length c1, .int .i64 D.fuse, .bool D.off, .slice A2 D.bad.length c2] ∧ Below w.heap.size w W) (fun x _ => D.cache.length - (intOf x).toNat)
  case atStart => exact ⟨0, Nat.zero_le _, rfl, q2, hbx, hb⟩
  case round =>
    clear hbx hb q2 hcv k1
    obtain ⟨i, hi, rfl, hrow, hbx, hb⟩ := hrel
    have k0 := blk5 hbx
    by_cases hlt : i < D.cache.length
    · obtain ⟨pb, po, hpa, hcell⟩ := (hD.below hb).cache.put hlt
      simp only at hpa
      subst hpa
      obtain ⟨x0, x1⟩ := hcell i hlt
      clear hcell
      obtain ⟨z1, z2, z3⟩ := Hf5.out i hlt
      obtain ⟨k, s, hx⟩ : ∃ (k : Nat) (s : List UInt8), D.cache[i] = ((k : Int), s) := ⟨D.cache[i].1.toNat, D.cache[i].2, Prod.ext (by simp; omega) rfl⟩
      have Hls := hid (Dk.lastN_succ D keep i hlt)
      rw [hx] at x0 x1 z2 z3 Hls
      simp only at x0 x1 z2 z3 Hls
      clear z1 hx
      have hdl2 : D.data.length = D.sz * 64 := F3.out
      have hks : k * 64 + 64 ≤ D.data.length := by omega
      have hw : IntKind.i64.wrap ((k : Int) * 64) = (k : Int) * 64 := IntWalk.i64_in _ (by omega)
      have hle0 : (0 : Int) ≤ (k : Int) * 64 := by omega
      have hle : (k : Int) * 64 ≤ cap := by omega
      have hle2 : (k : Int) * 64 ≤ D.data.length := by omega
      have hle3 : ¬ cap = k * 64 := by omega
      have htn : ((k : Int) * 64).toNat = k * 64 := by omega
      clear hdl2
      have hki : keep i = true := by rw [← Hkeep.out]
      have Hki := hid hki; clear hki
      have hcl1 := fun (W : World) => d_flush1 i W
      have hpbx := Blk.new wr 45 #[.int .i64 k, .string (bs s)]
      have kp := blk2 hpbx
      go_wp2_with (go_at_call 64; refine (hcl1 _).mono ?_; rintro e w' ⟨rfl, rfl⟩)
      have hgt : w.heap.size + 1 < wr.heap.size := lt_of_cell (hrow 0 (by rw [Dk.lastN_length Hf.out]; omega)).1
      have hrow2 : RowB (wr.alloc (.cells #[.int .i64 k, .string (bs s)] 45)) (w.heap.size + 1) (D.lastN keep i) := hrow.kept (Below.heap_alloc _ _ _ hgt)
      have hb2 := hb.alloc (by omega) (.cells #[.int .i64 k, .string (bs s)] 45)
      have hbx2 := hbx.alloc (.cells #[.int .i64 k, .string (bs s)] 45)
      clear hrow x0 x1 k0 hcl1
      generalize wr.alloc (.cells #[.int .i64 k, .string (bs s)] 45) = W2 at *
      go_still_tail 7, mixed_
      change wpList _ _ _ _ _ W2.drew
      have hrow2 : RowB W2.drew (w.heap.size + 1) (D.lastN keep i) := hrow2
      have hlen := Dk.lastN_length Hf.out keep i
      have hdl2 : D.data.length = D.sz * 64 := F3.out
      refine wpList_step (fun K hK => step_copy_string rfl (.tmp 26) (.tmp 28) 96 9 rfl 5 Try.underlying96 Try.sizeOf5 (w.heap.size + 1) (k * 64) (D.data.length - k * 64) (cap - k * 64) rfl (bs s) rfl
        (by rw [bs_size]; omega) (fun j hj => by rw [bs_size] at hj; rw [(hrow2 (k * 64 + j) (by omega)).1]; rfl) (fun j hj => by rw [bs_size] at hj; exact (hrow2 (k * 64 + j) (by omega)).2) (hK _ _ ?_))
      rw [bs_list]
      have hrow3 := hrow2.setCells s (k * 64) (by omega)
      have hb3 := below_setCells' (B := w.heap.size) (g := w.heap.size + 1) (by omega) (s.map fun x => Value.int .u8 (x.toNat : Int)) (k * 64) hb2.drew
      have hbx3 : Blk (W2.drew.setCells (w.heap.size + 1) (k * 64) (s.map fun x => Value.int .u8 (x.toNat : Int))) w.heap.size 25 _ := (setCells_other (by omega) _ _ _).trans hbx2
      generalize W2.drew.setCells (w.heap.size + 1) (k * 64) (s.map fun x => Value.int .u8 (x.toNat : Int)) = w3 at *
      clear hdl2 hlen
      go_wp2_with fail
      refine ⟨?_, ?measure⟩
      (repeat apply Exists.intro)
      refine ⟨?rel, rfl⟩
      case rel => exact ⟨i + 1, by omega, by go_num, by rw [Hls.out, Hki.out, if_pos rfl]; exact hrow3, hbx3, hb3⟩
      case measure => simp [intOf]; omega
    · obtain rfl : i = D.cache.length := by omega
      have hcv := run_convert_bytes_back (P := Try.prog) wr 96 9 5 ⟨w.heap.size + 1, 0, none⟩ cap (D.lastN keep D.cache.length) Try.underlying96 Try.underlying5 Try.underlying9 (fun j hj => by
        have e : (Addr.add ⟨w.heap.size + 1, 0, none⟩ j) = ⟨w.heap.size + 1, j, none⟩ := by simp only [Addr.add]; split <;> simp_all
        rw [e]; exact (hrow j hj).1)
      rw [Dk.lastN_length Hf.out, ← F3.out, bs_mk] at hcv
      go_wp2_with fail
      go_ret
      exact ⟨rfl, hb⟩
set_option maxRecDepth 100000 in
set_option maxHeartbeats 2000000 in
theorem d_lasting_kept (D : Dk) (p q : Pl) (w : World) (hD : IsDk w D p q) (hf : D.fit = true) (ks : List Bool) (A3 : Option Addr) (c3 B : Nat) (t : TypeId) (hB : Blk w B t #[.slice A3 ks.length c3]) (hk : Cells w A3 (boolCells ks)) (hkl : ks.length ≤ 9223372036854775807) :
    Calls Try.prog 57 #[dval D p q, .func (.func 58) #[] #[.pointer (some ⟨B, 0, none⟩)]] w fun e w' => e = .returned (.string (bs (D.last fun i => ks.getD i false))) ∧ Below w.heap.size w w' := by
  obtain ⟨A1, c1⟩ := p
  obtain ⟨A2, c2⟩ := q
  obtain ⟨f1, f2, f3, f4, f5, _⟩ := Dk.fit_parts hf
  have Hf := hid hf; clear hf
  have Hf5 := hid f5; clear f5
  have F3 := hid f3; clear f3
  have hdl := hD.data
  have hcl := hD.cl
  have hb := (Below.refl w.heap.size w).alloc (Nat.le_refl _) (.cells #[.string (bs D.data), .slice A1 D.cache.length c1, .int .i64 D.fuse, .bool D.off, .slice A2 D.bad.length c2] 25)
  have hbx := Blk.new w 25 #[.string (bs D.data), .slice A1 D.cache.length c1, .int .i64 D.fuse, .bool D.off, .slice A2 D.bad.length c2]
  generalize hkeep : (fun i : Nat => ks.getD i false) = keep
  have Hkeep := hid hkeep; clear hkeep
  have hcv := Lib.run_convert_string_bytes (P := Try.prog) (w.alloc (.cells #[.string (bs D.data), .slice A1 D.cache.length c1, .int .i64 D.fuse, .bool D.off, .slice A2 D.bad.length c2] 25)) 9 96 5 (bs D.data) Try.underlying9 Try.underlying96 Try.underlying5
  obtain ⟨q1, q2⟩ := bytesWorld_row_ (w.alloc (.cells #[.string (bs D.data), .slice A1 D.cache.length c1, .int .i64 D.fuse, .bool D.off, .slice A2 D.bad.length c2] 25)) 5 D.data
  have hcap : D.data.length ≤ grownCap (w.alloc (.cells #[.string (bs D.data), .slice A1 D.cache.length c1, .int .i64 D.fuse, .bool D.off, .slice A2 D.bad.length c2] 25)) D.data.length 0 5 := grownCap_ge _ _ _ _
  rw [World.size_alloc] at q2
  replace hb := bt hb q1
  replace hbx := hbx.below q1 (by simp)
  clear q1
  simp only [bs_size, World.size_alloc] at hcv
  generalize grownCap (w.alloc (.cells #[.string (bs D.data), .slice A1 D.cache.length c1, .int .i64 D.fuse, .bool D.off, .slice A2 D.bad.length c2] 25)) D.data.length 0 5 = cap at *
  generalize Lib.bytesWorld (w.alloc (.cells #[.string (bs D.data), .slice A1 D.cache.length c1, .int .i64 D.fuse, .bool D.off, .slice A2 D.bad.length c2] 25)) 5 (bs D.data) = w1 at *
  have k1 := blk5 hbx
  go_enter Try.func57, Try.ntmps57
  go_wp2_with fail
  go_loopw [14] (fun x W => ∃ i : Nat, i ≤ D.cache.length ∧ x = .int .i64 i ∧ RowB W (w.heap.size + 1) (D.lastN keep i) ∧
      Blk W w.heap.size 25 #[.string (bs D.data), .slice A1 D.cache.length c1, .int .i64 D.fuse, .bool D.off, .slice A2 D.bad.length c2] ∧ Below w.heap.size w W) (fun x _ => D.cache.length - (intOf x).toNat)
  case atStart => exact ⟨0, Nat.zero_le _, rfl, q2, hbx, hb⟩
  case round =>
    clear hbx hb q2 hcv k1
    obtain ⟨i, hi, rfl, hrow, hbx, hb⟩ := hrel
    have k0 := blk5 hbx
    by_cases hlt : i < D.cache.length
    · obtain ⟨pb, po, hpa, hcell⟩ := (hD.below hb).cache.put hlt
      simp only at hpa
      subst hpa
      obtain ⟨x0, x1⟩ := hcell i hlt
      clear hcell
      obtain ⟨z1, z2, z3⟩ := Hf5.out i hlt
      obtain ⟨k, s, hx⟩ : ∃ (k : Nat) (s : List UInt8), D.cache[i] = ((k : Int), s) := ⟨D.cache[i].1.toNat, D.cache[i].2, Prod.ext (by simp; omega) rfl⟩
      have Hls := hid (Dk.lastN_succ D keep i hlt)
      rw [hx] at x0 x1 z2 z3 Hls
      simp only at x0 x1 z2 z3 Hls
      clear z1 hx
      have hdl2 : D.data.length = D.sz * 64 := F3.out
      have hks : k * 64 + 64 ≤ D.data.length := by omega
      have hw : IntKind.i64.wrap ((k : Int) * 64) = (k : Int) * 64 := IntWalk.i64_in _ (by omega)
      have hle0 : (0 : Int) ≤ (k : Int) * 64 := by omega
      have hle : (k : Int) * 64 ≤ cap := by omega
      have hle2 : (k : Int) * 64 ≤ D.data.length := by omega
      have hle3 : ¬ cap = k * 64 := by omega
      have htn : ((k : Int) * 64).toNat = k * 64 := by omega
      clear hdl2
      have hgt : w.heap.size + 1 < wr.heap.size := lt_of_cell (hrow 0 (by rw [Dk.lastN_length Hf.out]; omega)).1
      have hrow2 : RowB (wr.alloc (.cells #[.int .i64 k, .string (bs s)] 45)) (w.heap.size + 1) (D.lastN keep i) := hrow.kept (Below.heap_alloc _ _ _ hgt)
      have hb2 := hb.alloc (by omega) (.cells #[.int .i64 k, .string (bs s)] 45)
      have hbx2 := hbx.alloc (.cells #[.int .i64 k, .string (bs s)] 45)
      have hpbx := Blk.new wr 45 #[.int .i64 k, .string (bs s)]
      have hcl1 := d_crash1 ks A3 c3 B t i _ (hB.below hb2 hB.lt) (hk.below hb2) hkl (by omega)
      have hki3 : keep i = ks.getD i false := by rw [← Hkeep.out]
      rw [← hki3] at hcl1
      clear hki3
      rcases Bool.eq_false_or_eq_true (keep i) with hki | hki
      · rw [hki] at hcl1
        have Hki := hid hki; clear hki
        go_wp2_with (go_at_call 58; refine hcl1.mono ?_; rintro e W2 ⟨rfl, hcb⟩; have hrow2 := hrow2.kept (hcb.block _ (by simp; omega)); have hb2 := bt hb2 hcb; have hbx2 := hbx2.below hcb hbx2.lt; have kp := blk2 (hpbx.below hcb hpbx.lt))
        clear hcl1 hrow x0 x1 k0 hcb hpbx
        go_still_tail 7, mixed_
        change wpList _ _ _ _ _ W2.drew
        have hrow2 : RowB W2.drew (w.heap.size + 1) (D.lastN keep i) := hrow2
        have hlen := Dk.lastN_length Hf.out keep i
        have hdl2 : D.data.length = D.sz * 64 := F3.out
        refine wpList_step (fun K hK => step_copy_string rfl (.tmp 26) (.tmp 28) 96 9 rfl 5 Try.underlying96 Try.sizeOf5 (w.heap.size + 1) (k * 64) (D.data.length - k * 64) (cap - k * 64) rfl (bs s) rfl
          (by rw [bs_size]; omega) (fun j hj => by rw [bs_size] at hj; rw [(hrow2 (k * 64 + j) (by omega)).1]; rfl) (fun j hj => by rw [bs_size] at hj; exact (hrow2 (k * 64 + j) (by omega)).2) (hK _ _ ?_))
        rw [bs_list]
        have hrow3 := hrow2.setCells s (k * 64) (by omega)
        have hb3 := below_setCells' (B := w.heap.size) (g := w.heap.size + 1) (by omega) (s.map fun x => Value.int .u8 (x.toNat : Int)) (k * 64) hb2.drew
        have hbx3 : Blk (W2.drew.setCells (w.heap.size + 1) (k * 64) (s.map fun x => Value.int .u8 (x.toNat : Int))) w.heap.size 25 _ := (setCells_other (by omega) _ _ _).trans hbx2
        generalize W2.drew.setCells (w.heap.size + 1) (k * 64) (s.map fun x => Value.int .u8 (x.toNat : Int)) = w3 at *
        clear hdl2 hlen
        go_wp2_with fail
        refine ⟨?_, ?measure⟩
        (repeat apply Exists.intro)
        refine ⟨?rel, rfl⟩
        case rel => exact ⟨i + 1, by omega, by go_num, by rw [Hls.out, Hki.out, if_pos rfl]; exact hrow3, hbx3, hb3⟩
        case measure => simp [intOf]; omega
      · rw [hki] at hcl1
        have Hki := hid hki; clear hki
        go_wp2_with (go_at_call 58; refine hcl1.mono ?_; rintro e W2 ⟨rfl, hcb⟩; have hrow2 := hrow2.kept (hcb.block _ (by simp; omega)); have hb2 := bt hb2 hcb; have hbx2 := hbx2.below hcb hbx2.lt)
        refine ⟨?_, ?measure⟩
        (repeat apply Exists.intro)
        refine ⟨?rel, rfl⟩
        case rel => exact ⟨i + 1, by omega, by go_num, by rw [Hls.out, Hki.out, if_neg (by simp)]; exact hrow2, hbx2, hb2⟩
        case measure => simp [intOf]; omega
    · obtain rfl : i = D.cache.length := by omega
      have hcv := run_convert_bytes_back (P := Try.prog) wr 96 9 5 ⟨w.heap.size + 1, 0, none⟩ cap (D.lastN keep D.cache.length) Try.underlying96 Try.underlying5 Try.underlying9 (fun j hj => by
        have e : (Addr.add ⟨w.heap.size + 1, 0, none⟩ j) = ⟨w.heap.size + 1, j, none⟩ := by simp only [Addr.add]; split <;> simp_all
        rw [e]; exact (hrow j hj).1)
      rw [Dk.lastN_length Hf.out, ← F3.out, bs_mk] at hcv
      go_wp2_with fail
      go_ret
      exact ⟨rfl, hb⟩
end Go.Proofs.Ytjpjpiejcpeepaa
