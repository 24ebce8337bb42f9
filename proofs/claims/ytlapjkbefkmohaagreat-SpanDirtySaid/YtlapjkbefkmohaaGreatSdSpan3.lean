/- Package wipe: ranges, cluster by cluster. -/
import Derived.Test.YtlapjkbefkmohaaGreatSdSpan2
import Derived.Test.YtlapjkbefkmohaaGreatSdBlk3
import Derived.BigRegionIn
set_option linter.unusedVariables false
namespace Go.Proofs.YtlapjkbefkmohaaGreat
open Go.RowKit Go.Shelf
attribute [local go_sem] bs_mk bs_append bs_extract bs_size bs_toList bs_get Oper.semAt_some
def cutEnc (p : Cut) : Array Value := #[.agg #[.int .i64 p.1, .int .i64 p.2.1, .int .i64 p.2.2]]
def cutCells (l : List Cut) : List Value := l.flatMap fun p => [.int .i64 p.1, .int .i64 p.2.1, .int .i64 p.2.2]
theorem cutCells_snoc (l : List Cut) (p : Cut) : cutCells l ++ [.int .i64 p.1, .int .i64 p.2.1, .int .i64 p.2.2] = cutCells (l ++ [p]) := by simp [cutCells]
theorem cutCells_length (l : List Cut) : (cutCells l).length = l.length * 3 := by
 induction l with
 | nil => rfl
 | cons x l ih => simp only [cutCells, List.flatMap_cons, List.length_append, List.length_cons, List.length_nil] at ih ⊢; omega
theorem cutCells_get (l : List Cut) (i : Nat) (h : i < l.length) : (cutCells l)[i * 3]? = some (.int .i64 l[i].1) ∧ (cutCells l)[i * 3 + 1]? = some (.int .i64 l[i].2.1) ∧ (cutCells l)[i * 3 + 2]? = some (.int .i64 l[i].2.2) := by
 induction l generalizing i with
 | nil => simp at h
 | cons x l ih =>
  have e : cutCells (x :: l) = .int .i64 x.1 :: .int .i64 x.2.1 :: .int .i64 x.2.2 :: cutCells l := rfl
  cases i with
  | zero => rw [e]; exact ⟨rfl, rfl, rfl⟩
  | succ i =>
   have := ih i (by simpa using h)
   rw [e, show (i + 1) * 3 = i * 3 + 1 + 1 + 1 by omega]
   simpa using this
theorem Cells.cut {w : World} {A : Option Addr} {l : List Cut} (h : Cells w A (cutCells l)) {i : Nat} (hi : i < l.length) :
 ∃ b off, A = some ⟨b, off, none⟩ ∧ ∀ j (hj : j < l.length), w.cell? ⟨b, off + j * 3, none⟩ = some (.int .i64 l[j].1) ∧ w.cell? ⟨b, off + j * 3 + 1, none⟩ = some (.int .i64 l[j].2.1) ∧ w.cell? ⟨b, off + j * 3 + 2, none⟩ = some (.int .i64 l[j].2.2) := by
 rcases h with h | ⟨b, off, rfl, h⟩
 · have := congrArg List.length h; rw [cutCells_length] at this; simp at this; omega
 · refine ⟨b, off, rfl, fun j hj => ?_⟩
   obtain ⟨e1, e2, e3⟩ := cutCells_get l j hj
   exact ⟨h _ _ e1, by rw [Nat.add_assoc]; exact h _ _ e2, by rw [Nat.add_assoc]; exact h _ _ e3⟩
theorem cuts_length (a n : Int) : (Im.cuts a n).length ≤ 514 := by
 by_cases h : a < 0 ∨ n < 0 ∨ 1073741824 < a ∨ 65536 < n
 · simp [Im.cuts, h]
 · have := (cuts_tiles h).length (by omega)
   omega
theorem Tryz.infoCut : (Tryz.prog.info? 80).map (fun i => (i.zero, i.size, i.bytes)) = some (some (.agg #[.int .i64 0, .int .i64 0, .int .i64 0]), 3, 24) := by kernel_rfl
set_option maxRecDepth 100000 in
set_option maxHeartbeats 1000000 in
theorem pieces_stops (n : Nat) (hn : 1 ≤ n) (a k : Int) (hak : ¬ (a < 0 ∨ k < 0 ∨ 1073741824 < a ∨ 65536 < k)) (Bs Bf Bn B0 : Nat) (w : World) (h0 : B0 ≤ Bf ∧ B0 ≤ Bn) (hne : Bf ≠ Bn ∧ Bf ≠ Bs ∧ Bn ≠ Bs)
 (bf : Blk w Bf 3 #[.int .i64 a]) (bn : Blk w Bn 3 #[.int .i64 k]) (bs : Blk w Bs 78 #[.slice none 0 0]) :
 SeqT 0 Bs B0 Fence.wide n Tryz.prog 93 #[.pointer (some ⟨Bn, 0, none⟩), .pointer (some ⟨Bf, 0, none⟩)] cutEnc (KeepS Bs) (fun ys _ => ys = Im.cuts a k) (fun _ => True) 1000 w := by
 intro lp J Jx W hW hJ hJx hG _ hY h0J
 have h1 : 1 ≤ n := hn
 have HY := hid hY
 have sW := hW.size
 have lF := bf.lt
 have lN := bn.lt
 have lS := bs.lt
 obtain ⟨g1, g2⟩ := h0
 obtain ⟨n1, n2, n3⟩ := hne
 have n1' : ¬ Bf = Bn := n1
 have n4 : ¬ Bn = Bf := fun e => n1 e.symm
 have iF := bf.below hW bf.lt
 have iN := bn.below hW bn.lt
 have iS : SlOk Bs W.heap.size W := SlOk.none (bs.below hW bs.lt)
 have Hc := hid (show Im.cuts a k = [] ++ Im.cuts a k ∧ Tiles a k (Im.cuts a k) from ⟨rfl, cuts_tiles hak⟩)
 have Hl := hid (cuts_length a k)
 have HG := hid (fun (pre : List Cut) (X : World) (v : Value) (g : Nat) (hg : g = Bf ∨ g = Bn) (cs : Array Value) (hx : J pre X) (hb : Blk X g 3 cs) (hs : SlOk Bs W.heap.size X) => hG pre X (X.setCell ⟨g, 0, none⟩ v) g _ hx (grownBy_cell X g 0 v) (by rcases hg with h | h <;> omega) hb rfl (by rcases hg with h | h <;> rw [h] <;> assumption) (hs.ne (by rcases hg with h | h <;> omega)))
 clear hY bf bn bs hW
 refine callsIn_of_wp Tryz.func93 rfl trivial ?_ rfl
 simp only [Tryz.ntmps93, List.size_toArray, List.length_cons, List.length_nil, Nat.reduceAdd, Nat.reduceSub, Array.replicate_succ, Array.replicate_zero, List.push_toArray, List.append_toArray, List.nil_append, List.cons_append]
 gi_wp2_with fail
 gi_loopw [5] (fun x V => ∃ (u q : Nat) (pre rest : List Cut), Hid (Im.cuts a k = pre ++ rest ∧ Tiles u q rest) ∧ u + q ≤ 1073807360 ∧ J pre V ∧ Blk V Bf 3 #[.int .i64 u] ∧ Blk V Bn 3 #[.int .i64 q] ∧ Hid (SlOk Bs W.heap.size V ∧ W.heap.size ≤ V.heap.size)) (fun x V => match V.cell? ⟨Bn, 0, none⟩ with | some v => (intOf v).toNat | .none => 0)
 case atStart => exact ⟨a.toNat, k.toNat, [], _, hid (by rw [show ((a.toNat : Nat) : Int) = a by omega, show ((k.toNat : Nat) : Int) = k by omega]; exact Hc.out), by omega, h0J, by rw [show ((a.toNat : Nat) : Int) = a by omega]; exact iF, by rw [show ((k.toNat : Nat) : Int) = k by omega]; exact iN, hid ⟨iS, Nat.le_refl _⟩⟩
 case round =>
  obtain ⟨u, q, pre, rest, ht, huq, hJm, kF, kN, hinv⟩ := hrel
  have c1 := blk1 kF
  have c2 := blk1 kN
  clear iF iN iS Hc h0J
  by_cases hq : 0 < q
  · obtain ⟨hc1, hc2⟩ := ht.out
    obtain ⟨rest', hr, hT⟩ := hc2.next (by omega)
    obtain ⟨i3, i4⟩ := hinv.out
    obtain ⟨Aq, hA⟩ : ∃ m, u / 128 = m := ⟨_, rfl⟩
    obtain ⟨R, hR⟩ : ∃ m, u % 128 = m := ⟨_, rfl⟩
    obtain ⟨s, hs⟩ : ∃ s : Nat, min q (128 - R) = s := ⟨_, rfl⟩
    have hR2 : R < 128 := by omega
    have hsz : 0 < s ∧ s ≤ q ∧ s ≤ 128 := by omega
    have tA : (u : Int).tdiv 128 = (Aq : Int) := by rw [Int.tdiv_eq_ediv_of_nonneg (by omega), ← hA]; rfl
    have tR : (u : Int).tmod 128 = (R : Int) := by rw [Int.tmod_eq_emod_of_nonneg (by omega), ← hR]; rfl
    have tS : min (q : Int) (128 - (R : Int)) = (s : Int) := by omega
    have Hcut := hid (show Im.cuts a k = (pre ++ [((Aq : Int), (R : Int), (s : Int))]) ++ rest' ∧ Tiles ((u + s : Nat) : Int) ((q - s : Nat) : Int) rest' by
     have e1 : (u : Int) / 128 = (Aq : Int) := by rw [← hA]; rfl
     have e2 : (u : Int) % 128 = (R : Int) := by rw [← hR]; rfl
     rw [e1, e2, tS] at hr
     rw [e2, tS] at hT
     rw [hc1, hr]
     exact ⟨by simp, by rw [show ((u + s : Nat) : Int) = (u : Int) + s by omega, show ((q - s : Nat) : Int) = (q : Int) - s by omega]; exact hT⟩)
    have Hlen := hid (show pre.length < 1000 by
     have := Hl.out
     rw [hc1, List.length_append] at this
     omega)
    have wA := i64w (x := (Aq : Int)) (by omega)
    have wR := i64w (x := (R : Int)) (by omega)
    have wS := i64w (x := 128 - (R : Int)) (by omega)
    have wU := i64w (x := (u : Int) + s) (by omega)
    have wQ := i64w (x := (q : Int) - s) (by omega)
    have hB1 := (Below.refl wr.heap.size wr).alloc (Nat.le_refl _) (.cells #[.int .i64 Aq, .int .i64 R, .int .i64 s] 80)
    have jF := kF.alloc (.cells #[.int .i64 Aq, .int .i64 R, .int .i64 s] 80)
    have jN := kN.alloc (.cells #[.int .i64 Aq, .int .i64 R, .int .i64 s] 80)
    have x1 := Blk.new wr 80 #[.int .i64 Aq, .int .i64 R, .int .i64 s]
    have Hnx := hid (show slB (wr.alloc (.cells #[.int .i64 Aq, .int .i64 R, .int .i64 s] 80)) Bs ≠ some wr.heap.size by rw [slB_eq (Below.heap_alloc _ _ _ (by omega))]; exact i3.ne2 (Nat.le_refl _))
    have j3 := i3.below hB1 (by omega)
    have hszV : (wr.alloc (.cells #[.int .i64 Aq, .int .i64 R, .int .i64 s] 80)).heap.size = wr.heap.size + 1 := by simp
    have HJ1 := hid (hJ.alloc (.cells #[.int .i64 Aq, .int .i64 R, .int .i64 s] 80) hJm)
    have k1 := blk1 jF
    have k2 := blk1 jN
    have kx := blk3 x1
    have q0 := blk1 (kN.alloc (.cells #[.int .i64 Aq, .int .i64 R, .int .i64 0] 80))
    have x0 := blk3 (Blk.new wr 80 #[.int .i64 Aq, .int .i64 R, .int .i64 0])
    have f0 := (Blk.new wr 80 #[.int .i64 Aq, .int .i64 R, .int .i64 0]).frozen
    have Hsz := hid hsz
    clear hc1 hc2 hr hT hA hR hs hJm ht hinv hsz
    obtain ⟨fn, tmps, assign, body, hy, hR⟩ := HY.out pre ((Aq : Int), (R : Int), (s : Int)) _ HJ1.out Hlen.out (by omega)
    simp only [cutEnc] at hy
    gi_wp2_with fail
    refine hR.mono ?_
    rintro e W3 (⟨rfl, hJ3, hkf, _, hk3⟩ | ⟨rfl, hJx3, _⟩)
    · have F3 := hk3.blk jF n2 (j3.ne (by omega))
      have N3 := hk3.blk jN n3 (j3.ne (by omega))
      have P3 := hk3.blk x1 (by omega) Hnx.out
      have s3 := j3.keep hk3 (by omega)
      have hz3 := hk3.size
      have HJ3 := hid (HG.out _ _ (.int .i64 ((q : Int) - s)) Bn (.inr rfl) _ (HG.out _ _ (.int .i64 ((u : Int) + s)) Bf (.inl rfl) _ hJ3 F3 s3) (N3.other (a := ⟨Bf, 0, none⟩) n4 _) (s3.set (a := ⟨Bf, 0, none⟩) n2 _))
      have k3 := blk1 F3
      have k4 := blk1 N3
      have k5 := blk3 P3
      have f3 := F3.frozen
      have f4 := N3.frozen
      have Hc2 := hid c2
      have N4 := (N3.other (a := ⟨Bf, 0, none⟩) n4 (.int .i64 ((u : Int) + s))).set 0 (.int .i64 ((q : Int) - s))
      have F4 := (F3.set 0 (.int .i64 ((u : Int) + s))).other (a := ⟨Bn, 0, none⟩) n1 (.int .i64 ((q : Int) - s))
      have s4 := (s3.set (a := ⟨Bf, 0, none⟩) n2 (.int .i64 ((u : Int) + s))).set (a := ⟨Bn, 0, none⟩) n3 (.int .i64 ((q : Int) - s))
      have HN := hid N4
      have HF := hid F4
      have HS := hid s4
      clear hJ3 hR hy k1 k2 kx x1 jF jN j3 c1 c2 kF kN q0 x0 f0 N4 F4 s4
      gi_wp2_with fail
      have m1 : ¬ wr.heap.size = Bf := by omega
      have m2 : ¬ Bf = wr.heap.size := by omega
      have m3 : ¬ wr.heap.size = Bn := by omega
      have m4 : ¬ Bn = wr.heap.size := by omega
      gi_region
      go_roundw
      case rel =>
       refine ⟨_, _, _, _, _, _, _, _, _, _, _, _, _, _, _, _, _, _, _, _, _, _, _, _, _, _, ⟨u + s, q - s, _, _, Hcut, by have := Hsz.out; omega, hJ _ _ _ none HJ3.out ⟨rfl, rfl, rfl, Nat.le_refl _, fun _ _ _ => rfl⟩ (fun r e => by cases e), HF.out.drew, ?_, hid ⟨HS.out, by simp; omega⟩⟩, rfl⟩
       rw [show ((q - s : Nat) : Int) = (q : Int) - s by have := Hsz.out; omega]
       exact HN.out.drew
      case measure =>
       have e1 := (HN.out.drew).cell 0
       have e2 := Hc2.out
       have := Hsz.out
       simp only [List.setIfInBounds_toArray, List.set_cons_zero] at e1
       rw [e1, e2]
       simp [intOf]
       omega
    · have HJx := hid hJx3
      clear hJx3 hR hy k1 k2 kx x1 jF jN j3 c1 c2 kF kN q0 x0 f0
      gi_wp2_with fail
      refine bodyPost_ret (results_none rfl _ _ _) rfl ?_
      exact ⟨⟨_, rfl⟩, .inr ⟨_, trivial, HJx.out⟩⟩
  · obtain rfl : q = 0 := by omega
    obtain ⟨hc1, hc2⟩ := ht.out
    have e9 : pre = Im.cuts a k := by rw [hc1, hc2.done (by omega), List.append_nil]
    have HJx := hid hJm
    replace e9 := hid e9
    clear hJm hc1 hc2
    gi_wp2_with fail
    go_end0
    first | exact ⟨⟨_, rfl⟩, .inl ⟨_, e9.out, HJx.out⟩⟩ | (rw [← e9.out]; exact ⟨⟨_, rfl⟩, .inl HJx.out⟩)
set_option maxRecDepth 100000 in
set_option maxHeartbeats 1000000 in
theorem ct_appendSeq (gf : Nat) (lb : Array Value) (eg : ∀ args w, (callFunc gf args).run Tryz.prog w = .ok (.enter gf args) w) (Y : List Cut) (N : Nat) (hN : N ≤ 1000001) (B0 : Nat) (w : World) (h0 : B0 ≤ w.heap.size)
 (hseq : SeqT 0 w.heap.size B0 Fence.wide 5 Tryz.prog gf lb cutEnc (KeepS w.heap.size) (fun ys _ => ys = Y) (fun _ => True) N (w.alloc (.cells #[.slice none 0 0] 78))) :
 Calls Tryz.prog 92 #[.slice none 0 0, .func (.func gf) #[] lb] w fun e w' => (∃ v, e = .returned v ∧ w'.ownsRow w.heap.size 80 3 v Y.length (cutCells Y)) ∧ Below B0 w w' := by
 have n1 : 1 ≤ 6 := by omega
 obtain ⟨i0, hi, hz0, hz1, hz2⟩ := info_parts Tryz.infoCut
 refine (callsIn_wide (n := 6)).1 (callsIn_of_wp_marks Tryz.func92 rfl trivial (wpIn_wide.2 ?_) rfl)
 simp only [Tryz.ntmps92, List.size_toArray, List.length_cons, List.length_nil, Nat.reduceAdd, Nat.reduceSub, Array.replicate_succ, Array.replicate_zero, List.push_toArray, List.append_toArray, List.nil_append, List.cons_append]
 go_wp2_with fail
 have lb0 := Blk.new w 78 #[.slice none 0 0]
 have hB := (Below.refl B0 w).alloc h0 (.cells #[.slice none 0 0] 78)
 have hVs : w.heap.size < (w.alloc (.cells #[.slice none 0 0] 78)).heap.size := by simp
 generalize hV : w.alloc (.cells #[.slice none 0 0] 78) = V at *
 refine (wpIn_wide (n := 6)).1 ?_
 refine range_t (cn := 0) (Bs := w.heap.size) (B0 := B0) rfl n1 (gf := gf) (lb := lb) rfl trivial eg hseq KeepS.trans (fun W l o o' q1 q2 q3 q4 => KeepS.putObj (by omega) q2 q3) (Below.refl _ _) (fun _ => rfl)
  (fun pre W => (∃ v, Boxed W w.heap.size 78 v ∧ W.ownsRow V.heap.size 80 3 v pre.length (cutCells pre) ∧ True) ∧ Below B0 w W ∧ V.heap.size ≤ W.heap.size)
  (fun c pre W => False) ?hI (fun c s X Y row h _ _ => h) ?h0 ?hG (fun c s X Y g o h _ _ _ _ _ _ => h) (fun s X Y row h _ _ => h)
  (fun y a' W => ∃ g, Blk W g 80 #[.int .i64 y.1, .int .i64 y.2.1, .int .i64 y.2.2] ∧ a' = { tmps := #[.slice none 0 0, .func (.func gf) #[] lb, .pointer (some ⟨w.heap.size, 0, none⟩), undef, .slice none 0 0, .pointer (some ⟨g, 0, none⟩), .func (.func gf) #[] lb, .agg #[.int .i64 y.1, .int .i64 y.2.1, .int .i64 y.2.2], undef, undef, undef, undef, undef], defers := [] })
  (fun x a' s X Y row hs hy hr => by obtain ⟨g, h2, h3⟩ := hs; exact ⟨g, (Own.from (blk_own _ _ (fun _ : Unit => _)) _) () X Y row h2 hy hr, h3⟩)
  ?assign ?body ?done (fun _ _ _ _ _ _ h _ => h.elim)
 case hI =>
  rintro pre X Z row ⟨h1, h3, h4⟩ hy hr
  exact ⟨(Own.from (holdsRow_own V.heap.size w.heap.size 78 80 3 (fun pre : List Cut => pre.length) (fun pre => cutCells pre) (fun _ _ => True)) _) pre X Z row h1 hy hr, h3.grown hy (by have := h3.size; omega) (fun j e => by have := (hr j e).1; omega), Nat.le_trans h4 hy.size⟩
 case hG =>
  rintro pre X Z g o ⟨⟨v, h1, h2, _⟩, h3, h4⟩ hy hg ho hc hn hs
  have e1 : slB X w.heap.size = v.ownBlock := by unfold slB; rw [Boxed.cell h1]
  rw [e1] at hs
  exact ⟨⟨v, h1.kept hy (by intro e; injection e with e; exact hn e.symm), h2.kept hy (.inr hs), trivial⟩, h3.grown hy (by have := h3.size; omega) (fun j e => by injection e with e; omega), Nat.le_trans h4 hy.size⟩
 case h0 => exact ⟨⟨_, lb0, World.ownsRow_nil _ _ _ _, trivial⟩, hB, Nat.le_refl _⟩
 case assign =>
  rintro l pre y W K ⟨⟨v, h1, h2, _⟩, h3, h4⟩ hK
  dsimp only [cutEnc]
  gi_wp2
  refine hK _ _ ((KeepsOthers.alloc W _).from _) (StaysC.zero (by simp)) (KeepS.alloc (by omega) _) ⟨⟨v, Boxed.alloc h1 _, h2.alloc _, trivial⟩, h3.alloc (by omega) _, by simp; omega⟩ ⟨W.heap.size, Blk.new W _ _, rfl⟩
 case body =>
  rintro l pre y a' W ⟨⟨v, h1, h2, _⟩, h3, h4⟩ ⟨g, hg, rfl⟩ hpl hsz
  have kl := h1.cell
  have fl := h1.frozen
  have hsz2 : V.heap.size ≤ W.heap.size := h4
  obtain ⟨ya, yb, yc⟩ := y
  have Hmap := hid (show cutCells pre ++ [Value.int .i64 ya, Value.int .i64 yb, Value.int .i64 yc] = cutCells (pre ++ [(ya, yb, yc)]) from cutCells_snoc pre (ya, yb, yc))
  have kx := blk3 hg
  have fx := hg.frozen
  gi_wp2_with (gi_at_builtin; refine wpListIn_append_at _ rfl _ _ 78 rfl V.heap.size 80 i0 (.agg #[.int .i64 0, .int .i64 0, .int .i64 0]) 3 24 Tryz.underlying78 hi hz0 hz1 hz2 rfl (by decide) _ _ _ rfl (h2.alloc _) ⟨W.heap.size, 0, none⟩ 1 1 [.int .i64 ya, .int .i64 yb, .int .i64 yc] (by decide) rfl rfl (World.news_of_block (Blk.new W 80 #[.int .i64 ya, .int .i64 yb, .int .i64 yc])) (by simp [Value.oneCell']) (by unfold maxLen; omega) (by omega) (by simp; omega) ?_; intro v' w1 hown' hgrow hat; obtain ⟨g', cap', rfl⟩ := ownsRow_succ hown'; obtain ⟨q1, q2, q3, q4, q5, q6⟩ := appended_at h1 (by decide) h2 hsz2 hown' hgrow; have q7 := appended_keeps h1 (by decide) h2 hsz2 hown' hgrow hat; have kl1 := blk1 q1; have fl1 := q1.frozen 0)
  refine ⟨q4.from _, ⟨StaysC.zero q7.size, q7⟩, ⟨_, q2, ?_⟩, h3.trans (q5 B0 (by omega) (by omega)), by have := q7.size; omega⟩
  have e : (pre ++ [(ya, yb, yc)]).length = pre.length + 1 := by simp
  rw [← Hmap.out, e]; first | exact q3 | exact ⟨q3, trivial⟩
 case done =>
  rintro Dd ys U hDd rfl ⟨⟨v, h1, h2, _⟩, h3, h4⟩ hK
  have kl := h1.cell
  go_wp2_with fail
  refine ⟨by simp, .inl ⟨_, _, rfl, run_takeDeferred hK, ?_⟩⟩
  refine ⟨v, by simp [results, Tryz.results92, go_sem], ⟨v, rfl, ?_⟩, ?_⟩
  · exact own_base (ownsRow_putObj h2 (.deferred none) hK rfl) (by omega)
  · exact h3.trans (belowK_b (w := w) h0 _ Dd _ _ (by omega) hK rfl rfl)
set_option maxRecDepth 100000 in
set_option maxHeartbeats 1000000 in
theorem w_cut (a k : Int) (w : World) :
 Calls Tryz.prog 61 #[.int .i64 a, .int .i64 k] w fun e w' => (∃ v, e = .returned v ∧ w'.ownsRow w.heap.size 80 3 v (Im.cuts a k).length (cutCells (Im.cuts a k))) ∧ Below w.heap.size w w' := by
 by_cases hak : a < 0 ∨ k < 0 ∨ 1073741824 < a ∨ 65536 < k
 · have Hc := hid (show Im.cuts a k = [] by simp [Im.cuts, hak])
   have hn : (decide (a < 0) || (decide (k < 0) || (decide (1073741824 < a) || decide (65536 < k)))) = true := by simpa using hak
   go_enter Tryz.func61, Tryz.ntmps61
   by_cases c1 : a < 0
   · go_wp2_with fail
     go_ret
     rw [Hc.out]
     exact ⟨⟨_, rfl, World.ownsRow_nil _ _ _ _⟩, Below.refl _ _⟩
   by_cases c2 : k < 0
   · go_wp2_with fail
     go_ret
     rw [Hc.out]
     exact ⟨⟨_, rfl, World.ownsRow_nil _ _ _ _⟩, Below.refl _ _⟩
   by_cases c3 : 1073741824 < a
   · go_wp2_with fail
     go_ret
     rw [Hc.out]
     exact ⟨⟨_, rfl, World.ownsRow_nil _ _ _ _⟩, Below.refl _ _⟩
   have c4 : 65536 < k := by omega
   go_wp2_with fail
   go_ret
   rw [Hc.out]
   exact ⟨⟨_, rfl, World.ownsRow_nil _ _ _ _⟩, Below.refl _ _⟩
 · have hpi : Calls Tryz.prog 82 #[.int .i64 a, .int .i64 k] w fun e w' => e = .returned (.func (.func 93) #[] #[.pointer (some ⟨w.heap.size + 1, 0, none⟩), .pointer (some ⟨w.heap.size, 0, none⟩)]) ∧ w' = (w.alloc (.cells #[.int .i64 a] 3)).alloc (.cells #[.int .i64 k] 3) := by
    go_enter Tryz.func82, Tryz.ntmps82
    go_wp2_with fail
    go_ret
    exact ⟨rfl, rfl⟩
   have hcol : Calls Tryz.prog 81 #[.func (.func 93) #[] #[.pointer (some ⟨w.heap.size + 1, 0, none⟩), .pointer (some ⟨w.heap.size, 0, none⟩)]] ((w.alloc (.cells #[.int .i64 a] 3)).alloc (.cells #[.int .i64 k] 3)) fun e w' => (∃ v, e = .returned v ∧ w'.ownsRow w.heap.size 80 3 v (Im.cuts a k).length (cutCells (Im.cuts a k))) ∧ Below w.heap.size w w' := by
    have hB := ((Below.refl w.heap.size w).alloc (Nat.le_refl _) (.cells #[.int .i64 a] 3)).alloc (by simp) (.cells #[.int .i64 k] 3)
    have bf := (Blk.new w 3 #[.int .i64 a]).alloc (.cells #[.int .i64 k] 3)
    have bn := Blk.new (w.alloc (.cells #[.int .i64 a] 3)) 3 #[.int .i64 k]
    simp only [World.size_alloc] at bn
    have hs : w.heap.size + 1 < ((w.alloc (.cells #[.int .i64 a] 3)).alloc (.cells #[.int .i64 k] 3)).heap.size := by simp
    generalize hV : (w.alloc (.cells #[.int .i64 a] 3)).alloc (.cells #[.int .i64 k] 3) = V at *
    have happ := ct_appendSeq 93 #[.pointer (some ⟨w.heap.size + 1, 0, none⟩), .pointer (some ⟨w.heap.size, 0, none⟩)] (enters_of Tryz.func93 (by kernel_rfl) rfl) (Im.cuts a k) 1000 (by omega) w.heap.size V (by omega)
     (pieces_stops 5 (by omega) a k hak V.heap.size w.heap.size (w.heap.size + 1) w.heap.size _ ⟨by omega, by omega⟩ ⟨by omega, by omega, by omega⟩ (bf.alloc _) (bn.alloc _) (Blk.new V _ _))
    go_enter Tryz.func81, Tryz.ntmps81
    go_wp2_with fail
    go_at_call 92
    refine happ.mono ?_
    rintro e W ⟨⟨v, rfl, hv⟩, hb⟩
    go_wp2_with fail
    go_ret
    exact ⟨⟨_, rfl, own_base hv (by omega)⟩, hB.trans hb⟩
   have c1 : ¬ a < 0 := by omega
   have c2 : ¬ k < 0 := by omega
   have c3 : ¬ 1073741824 < a := by omega
   have c4 : ¬ 65536 < k := by omega
   clear hak
   go_enter Tryz.func61, Tryz.ntmps61
   go_wp2_with fail
   go_at_call 82
   refine hpi.mono ?_
   rintro e W ⟨rfl, rfl⟩
   go_wp2_with fail
   go_at_call 81
   refine hcol.mono ?_
   rintro e W ⟨⟨v, rfl, hv⟩, hb⟩
   go_wp2_with fail
   go_ret
   exact ⟨⟨_, rfl, hv⟩, hb⟩
end Go.Proofs.YtlapjkbefkmohaaGreat
