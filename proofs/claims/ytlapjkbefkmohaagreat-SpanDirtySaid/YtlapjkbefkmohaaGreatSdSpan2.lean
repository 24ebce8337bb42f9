/- Package span: extents that are joined. -/
import Derived.Test.YtlapjkbefkmohaaGreatSdSpan1
import Derived.Test.YtlapjkbefkmohaaGreatSdRangeS
import Derived.Test.YtlapjkbefkmohaaGreatSdRegs
import Derived.WalkMore
set_option linter.unusedVariables false
namespace Go.Proofs.YtlapjkbefkmohaaGreat
open Go.RowKit Go.Shelf
attribute [local go_sem] bs_mk bs_append bs_extract bs_size bs_toList bs_get Oper.semAt_some
def xtEnc (x : Xt) : Array Value := #[.agg #[.int .i64 x.1, .int .i64 x.2]]
theorem joinStep_length (s : List Xt × Xt) (x : Xt) : (joinStep s x).1.length ≤ s.1.length + 1 := by
 unfold joinStep
 split
 · omega
 split
 · exact Nat.le_succ _
 split
 · simp
 · exact Nat.le_succ _
theorem joinSt_length (l : List Xt) (m : Nat) (hm : m ≤ l.length) : (joinSt (l.take m)).1.length ≤ m := by
 induction m with
 | zero => simp [joinSt]
 | succ m ih =>
  rw [List.take_succ_eq_append_getElem (by omega), joinSt_snoc]
  have := joinStep_length (joinSt (l.take m)) l[m]
  have := ih (by omega)
  omega
set_option maxRecDepth 100000 in
set_option maxHeartbeats 1000000 in
theorem joined_stops (n : Nat) (hn : 1 ≤ n) (l : List Xt) (A : Option Addr) (c : Nat) (hl : l.length ≤ 1000000) (h64 : ∀ x ∈ l, -9223372036854775808 ≤ x.1 ∧ x.1 ≤ 9223372036854775807) (Bs Bl B0 : Nat) (w : World) (h0 : B0 ≤ w.heap.size)
 (hA : Cells w A (entCells l)) (hAo : Off Bs A (entCells l).length) (bl : Blk w Bl 36 #[.slice A l.length c]) (bs : Blk w Bs 36 #[.slice none 0 0]) (hne : Bl ≠ Bs) :
 SeqT 0 Bs B0 Fence.wide n Tryz.prog 65 #[.pointer (some ⟨Bl, 0, none⟩)] xtEnc (KeepS Bs) (fun ys _ => ys = join l) (fun _ => True) (l.length + 1) w := by
 intro lp J Jx W hW hJ hJx hG _ hY h0J
 have h1 : 1 ≤ n := hn
 have HY := hid hY
 have sW := hW.size
 have lB := bl.lt
 have lS := bs.lt
 have HAo := hid hAo
 have HAl := hid (Cells.lt (hA.below hW))
 have HAw := hid (show Off W.heap.size A (entCells l).length by
  by_cases h : entCells l = []
  · exact .inl (by rw [h]; rfl)
  · exact .inr fun b off e => by have := Cells.lt (hA.below hW) b off e h; omega)
 have iB := bl.below hW bl.lt
 have iA := hA.below hW
 have iS : SlOk Bs (W.heap.size + 1) W := SlOk.none (bs.below hW bs.lt)
 have H64 := hid h64
 have nB : Bl ≠ W.heap.size := by omega
 have nS : W.heap.size ≠ Bs := by omega
 clear hY hA hAo h64 bl bs hW
 refine callsIn_of_wp Tryz.func65 rfl trivial ?_ rfl
 simp only [Tryz.ntmps65, List.size_toArray, List.length_cons, List.length_nil, Nat.reduceAdd, Nat.reduceSub, Array.replicate_succ, Array.replicate_zero, List.push_toArray, List.append_toArray, List.nil_append, List.cons_append]
 have z0 := blk1 (iB.alloc (.cells #[.int .i64 0, .int .i64 0] 41))
 gi_wp2_with fail
 gi_loopw [9] (fun x V => ∃ m : Nat, m ≤ l.length ∧ x = .int .i64 m ∧ ∃ pre, Hid (pre = (joinSt (l.take m)).1) ∧ J pre V ∧ Blk V W.heap.size 41 #[.int .i64 (joinSt (l.take m)).2.1, .int .i64 (joinSt (l.take m)).2.2] ∧
  Hid (Blk V Bl 36 #[.slice A l.length c] ∧ Cells V A (entCells l) ∧ SlOk Bs (W.heap.size + 1) V ∧ W.heap.size + 1 ≤ V.heap.size)) (fun x _ => l.length - (intOf x).toNat)
 case atStart => exact ⟨0, Nat.zero_le _, rfl, [], hid rfl, hJ.alloc _ h0J, Blk.new W _ _, hid ⟨iB.alloc _, iA.below ((Below.refl _ _).alloc (Nat.le_refl _) _), iS.below ((Below.refl _ _).alloc (Nat.le_refl _) _) (by omega), by simp⟩⟩
 case round =>
  obtain ⟨m, hm, rfl, pre, hpre, hJm, hrun, hinv⟩ := hrel
  clear z0 h0J iB iA iS
  have Hol := hid (joinSt_length l m hm)
  have Hrr := hid (joinOk (l.take m)).run
  by_cases hlt : m < l.length
  · obtain ⟨i1, i2, i3, i4⟩ := hinv.out
    obtain ⟨gA, oA, e1, hc⟩ := i2.ent hlt
    replace hc := hc m hlt
    obtain ⟨⟨xl, xf⟩, hx⟩ : ∃ x, l[m] = x := ⟨_, rfl⟩
    have hxr := H64.out _ (List.getElem_mem hlt)
    obtain ⟨⟨o, rl, rf⟩, hs⟩ : ∃ s, joinSt (l.take m) = s := ⟨_, rfl⟩
    have Hn := hid (show joinSt (l.take (m + 1)) = joinStep (o, (rl, rf)) (xl, xf) by rw [List.take_succ_eq_append_getElem hlt, joinSt_snoc, hs, hx])
    rw [hx] at hc hxr
    have hrr := Hrr.out
    rw [hs] at hrun hpre hrr Hol
    simp only [most40] at hc hxr hrun hrr
    clear hx hs Hrr hinv
    subst e1
    have hB1 := (Below.refl wr.heap.size wr).alloc (Nat.le_refl _) (.cells #[.int .i64 xl, .int .i64 xf] 41)
    have r1 := hrun.alloc (.cells #[.int .i64 xl, .int .i64 xf] 41)
    have x1 := Blk.new wr 41 #[.int .i64 xl, .int .i64 xf]
    have Hnx := hid (show slB (wr.alloc (.cells #[.int .i64 xl, .int .i64 xf] 41)) Bs ≠ some wr.heap.size by rw [slB_eq (Below.heap_alloc _ _ _ (by omega))]; exact i3.ne2 (Nat.le_refl _))
    have j1 := i1.alloc (.cells #[.int .i64 xl, .int .i64 xf] 41)
    have j2 := i2.below hB1
    have j3 := i3.below hB1 (by omega)
    have hsz : (wr.alloc (.cells #[.int .i64 xl, .int .i64 xf] 41)).heap.size = wr.heap.size + 1 := by simp
    have HJ1 := hid (hJ.alloc (.cells #[.int .i64 xl, .int .i64 xf] 41) hJm)
    have HG := hid (fun (pre : List Xt) (X : World) (v : Value) (k : Nat) (cs : Array Value) (hx : J pre X) (hb : Blk X W.heap.size 41 cs) (hs : SlOk Bs (W.heap.size + 1) X) => hG pre X (X.setCell ⟨W.heap.size, k, none⟩ v) W.heap.size _ hx (grownBy_cell X W.heap.size k v) (by omega) hb rfl nS (hs.ne (by omega)))
    have k1 := blk2 r1
    have f1 := r1.frozen
    have kx := blk2 x1
    have nx : ¬ W.heap.size = wr.heap.size := by omega
    have nx' : ¬ wr.heap.size = W.heap.size := by omega
    clear i1 i2 i3 hJm
    obtain ⟨nn, hnn⟩ : ∃ nn, min xl 1099511627776 = nn := ⟨_, rfl⟩
    have hnr : nn ≤ 1099511627776 ∧ -9223372036854775808 ≤ nn := by omega
    by_cases c1 : nn < 1
    · have Hn1 := hid (show joinSt (l.take (m + 1)) = (o, (rl, rf)) by rw [Hn.out, joinStep, if_pos (by show min xl most40 < 1; unfold most40; omega)])
      gi_wp2_with fail
      go_roundw
      case rel => exact ⟨m + 1, by omega, by go_num, pre, hid (by rw [Hn1.out]; exact hpre.out), HJ1.out, by rw [Hn1.out]; exact r1, hid ⟨j1, j2, j3, by omega⟩⟩
      case measure => simp [intOf]; omega
    · have c1' : ¬ min xl most40 < 1 := by unfold most40; omega
      by_cases c2 : 0 < rl
      · by_cases c3 : rf = xf
        · have Hn1 := hid (show joinSt (l.take (m + 1)) = (o, (min (rl + nn) 1099511627776, rf)) by
           rw [Hn.out, joinStep, if_neg c1', if_pos ⟨c2, c3⟩]; show (o, (min (rl + min xl most40) most40, rf)) = _; unfold most40; rw [hnn])
          have wz := i64w (x := rl + nn) (by omega)
          have c3' : (rf == xf) = true := by rw [c3]; simp
          replace c3 := hid c3
          gi_wp2_with fail
          go_roundw
          case rel => exact ⟨m + 1, by omega, by go_num, pre, hid (by rw [Hn1.out]; exact hpre.out), HG.out _ _ _ _ _ HJ1.out r1 j3, by rw [Hn1.out]; exact r1.set 0 _, hid ⟨j1.other (a := ⟨W.heap.size, 0, none⟩) nB _, j2.off (p := ⟨W.heap.size, 0, none⟩) HAw.out (fun h => List.length_eq_zero_iff.1 h) _, j3.set (a := ⟨W.heap.size, 0, none⟩) nS _, by simp; omega⟩⟩
          case measure => simp [intOf]; omega
        · have Hn1 := hid (show joinSt (l.take (m + 1)) = (o ++ [(rl, rf)], (nn, xf)) by
           rw [Hn.out, joinStep, if_neg c1', if_neg (fun h => c3 h.2), if_pos c2]; show (o ++ [(rl, rf)], (min xl most40, xf)) = _; unfold most40; rw [hnn])
          have c3' : (rf == xf) = false := by simpa using c3
          obtain ⟨fn, tmps, assign, body, hy, hR⟩ := HY.out pre (rl, rf) _ HJ1.out (by rw [hpre.out]; have h9 : o.length ≤ _ := Hol.out; show o.length < _; omega) (by omega)
          simp only [xtEnc] at hy
          replace c3 := hid c3
          gi_wp2_with fail
          refine hR.mono ?_
          rintro e W3 (⟨rfl, hJ3, hkf, _, hk3⟩ | ⟨rfl, hJx3, _⟩)
          · have r3 := hk3.blk r1 nS (j3.ne (by omega))
            have x3 := hk3.blk x1 (by omega) Hnx.out
            have b3 := hk3.blk j1 hne (j3.ne (by omega))
            have a3 := hk3.cells j3 j2 HAo.out (fun b off e h => by have := HAl.out b off e h; omega)
            have s3 := j3.keep hk3 (by omega)
            have HJ3 := hid (HG.out _ _ (.int .i64 xf) 1 _ (HG.out _ _ (.int .i64 nn) 0 _ hJ3 r3 s3) (r3.set 0 (.int .i64 nn)) (s3.set (a := ⟨W.heap.size, 0, none⟩) nS _))
            have hz3 := hk3.size
            have k3 := blk2 r3
            have k4 := blk2 x3
            have f3 := r3.frozen
            clear hJ3 hR hy k1 kx f1 r1 x1 j1 j2 j3
            gi_wp2_with fail
            go_roundw
            case rel => exact ⟨m + 1, by omega, by go_num, _, hid (by rw [Hn1.out, hpre.out]), HJ3.out, by rw [Hn1.out]; exact (r3.set 0 _).set 1 _, hid ⟨(b3.other (a := ⟨W.heap.size, 0, none⟩) nB _).other (a := ⟨W.heap.size, 1, none⟩) nB _, (a3.off (p := ⟨W.heap.size, 0, none⟩) HAw.out (fun h => List.length_eq_zero_iff.1 h) _).off (p := ⟨W.heap.size, 1, none⟩) HAw.out (fun h => List.length_eq_zero_iff.1 h) _, (s3.set (a := ⟨W.heap.size, 0, none⟩) nS _).set (a := ⟨W.heap.size, 1, none⟩) nS _, by simp; omega⟩⟩
            case measure => simp [intOf]; omega
          · have HJx := hid hJx3
            clear hJx3 hR hy
            gi_wp2_with fail
            refine bodyPost_ret (results_none rfl _ _ _) rfl ?_
            exact ⟨⟨_, rfl⟩, .inr ⟨_, trivial, HJx.out⟩⟩
      · have Hn1 := hid (show joinSt (l.take (m + 1)) = (o, (nn, xf)) by
         rw [Hn.out, joinStep, if_neg c1', if_neg (fun h => c2 h.1), if_neg c2]; show (o, (min xl most40, xf)) = _; unfold most40; rw [hnn])
        have HJ3 := hid (HG.out _ _ (.int .i64 xf) 1 _ (HG.out _ _ (.int .i64 nn) 0 _ HJ1.out r1 j3) (r1.set 0 (.int .i64 nn)) (j3.set (a := ⟨W.heap.size, 0, none⟩) nS _))
        gi_wp2_with fail
        refine ⟨fun _ h => (nomatch h), ?_⟩
        gi_wp2_with fail
        go_roundw
        case rel => exact ⟨m + 1, by omega, by go_num, _, hid (by rw [Hn1.out, hpre.out]), HJ3.out, by rw [Hn1.out]; exact (r1.set 0 _).set 1 _, hid ⟨(j1.other (a := ⟨W.heap.size, 0, none⟩) nB _).other (a := ⟨W.heap.size, 1, none⟩) nB _, (j2.off (p := ⟨W.heap.size, 0, none⟩) HAw.out (fun h => List.length_eq_zero_iff.1 h) _).off (p := ⟨W.heap.size, 1, none⟩) HAw.out (fun h => List.length_eq_zero_iff.1 h) _, (j3.set (a := ⟨W.heap.size, 0, none⟩) nS _).set (a := ⟨W.heap.size, 1, none⟩) nS _, by simp; omega⟩⟩
        case measure => simp [intOf]; omega
  · obtain rfl : m = l.length := by omega
    rw [List.take_length] at hpre hrun Hol Hrr
    obtain ⟨⟨o, rl, rf⟩, hs⟩ : ∃ s, joinSt l = s := ⟨_, rfl⟩
    have Hj := hid (show join l = joinAll (o, (rl, rf)) by rw [join, hs])
    rw [hs] at hrun hpre Hol
    simp only at hrun
    clear hs Hrr
    have k1 := blk2 hrun
    by_cases c2 : 0 < rl
    · have Hn1 := hid (show o ++ [(rl, rf)] = join l by rw [Hj.out, joinAll, if_pos c2])
      obtain ⟨fn, tmps, assign, body, hy, hR⟩ := HY.out pre (rl, rf) _ hJm (by rw [hpre.out]; have h9 : o.length ≤ _ := Hol.out; show o.length < _; omega) (by have := hinv.out.2.2.2; omega)
      simp only [xtEnc] at hy
      gi_wp2_with fail
      refine hR.mono ?_
      rintro e W3 (⟨rfl, hJ3, hkf, _, hk3⟩ | ⟨rfl, hJx3, _⟩)
      · have HJx := hid hJ3
        clear hJ3 hR hy
        gi_wp2_with fail
        go_end0
        exact ⟨⟨_, rfl⟩, .inl ⟨_, by rw [hpre.out]; exact Hn1.out, HJx.out⟩⟩
      · have HJx := hid hJx3
        clear hJx3 hR hy
        gi_wp2_with fail
        go_end0
        exact ⟨⟨_, rfl⟩, .inr ⟨_, trivial, HJx.out⟩⟩
    · have Hn1 := hid (show o = join l by rw [Hj.out, joinAll, if_neg c2])
      have HJx := hid hJm
      clear hJm
      gi_wp2_with fail
      go_end0
      have e9 := hpre.out.trans Hn1.out
      first | exact ⟨⟨_, rfl⟩, .inl ⟨_, e9, HJx.out⟩⟩ | (rw [← e9]; exact ⟨⟨_, rfl⟩, .inl HJx.out⟩)
theorem Tryz.infoXt : (Tryz.prog.info? 41).map (fun i => (i.zero, i.size, i.bytes)) = some (some (.agg #[.int .i64 0, .int .i64 0]), 2, 16) := by kernel_rfl
set_option maxRecDepth 100000 in
set_option maxHeartbeats 1000000 in
theorem xt_appendSeq (gf : Nat) (lb : Array Value) (eg : ∀ args w, (callFunc gf args).run Tryz.prog w = .ok (.enter gf args) w) (Y : List Xt) (N : Nat) (hN : N ≤ 1000001) (B0 : Nat) (w : World) (h0 : B0 ≤ w.heap.size)
 (hseq : SeqT 0 w.heap.size B0 Fence.wide 5 Tryz.prog gf lb xtEnc (KeepS w.heap.size) (fun ys _ => ys = Y) (fun _ => True) N (w.alloc (.cells #[.slice none 0 0] 36))) :
 Calls Tryz.prog 64 #[.slice none 0 0, .func (.func gf) #[] lb] w fun e w' => (∃ v, e = .returned v ∧ w'.ownsRow w.heap.size 41 2 v Y.length (entCells Y)) ∧ Below B0 w w' := by
 have n1 : 1 ≤ 6 := by omega
 obtain ⟨i0, hi, hz0, hz1, hz2⟩ := info_parts Tryz.infoXt
 refine (callsIn_wide (n := 6)).1 (callsIn_of_wp_marks Tryz.func64 rfl trivial (wpIn_wide.2 ?_) rfl)
 simp only [Tryz.ntmps64, List.size_toArray, List.length_cons, List.length_nil, Nat.reduceAdd, Nat.reduceSub, Array.replicate_succ, Array.replicate_zero, List.push_toArray, List.append_toArray, List.nil_append, List.cons_append]
 go_wp2_with fail
 have lb0 := Blk.new w 36 #[.slice none 0 0]
 have hB := (Below.refl B0 w).alloc h0 (.cells #[.slice none 0 0] 36)
 have hVs : w.heap.size < (w.alloc (.cells #[.slice none 0 0] 36)).heap.size := by simp
 generalize hV : w.alloc (.cells #[.slice none 0 0] 36) = V at *
 refine (wpIn_wide (n := 6)).1 ?_
 refine range_t (cn := 0) (Bs := w.heap.size) (B0 := B0) rfl n1 (gf := gf) (lb := lb) rfl trivial eg hseq KeepS.trans (fun W l o o' q1 q2 q3 q4 => KeepS.putObj (by omega) q2 q3) (Below.refl _ _) (fun _ => rfl)
  (fun pre W => (∃ v, Boxed W w.heap.size 36 v ∧ W.ownsRow V.heap.size 41 2 v pre.length (entCells pre) ∧ True) ∧ Below B0 w W ∧ V.heap.size ≤ W.heap.size)
  (fun c pre W => False) ?hI (fun c s X Y row h _ _ => h) ?h0 ?hG (fun c s X Y g o h _ _ _ _ _ _ => h) (fun s X Y row h _ _ => h)
  (fun y a' W => ∃ g, Blk W g 41 #[.int .i64 y.1, .int .i64 y.2] ∧ a' = { tmps := #[.slice none 0 0, .func (.func gf) #[] lb, .pointer (some ⟨w.heap.size, 0, none⟩), undef, .slice none 0 0, .pointer (some ⟨g, 0, none⟩), .func (.func gf) #[] lb, .agg #[.int .i64 y.1, .int .i64 y.2], undef, undef, undef, undef, undef], defers := [] })
  (fun x a' s X Y row hs hy hr => by obtain ⟨g, h2, h3⟩ := hs; exact ⟨g, (Own.from (blk_own _ _ (fun _ : Unit => _)) _) () X Y row h2 hy hr, h3⟩)
  ?assign ?body ?done (fun _ _ _ _ _ _ h _ => h.elim)
 case hI =>
  rintro pre X Z row ⟨h1, h3, h4⟩ hy hr
  exact ⟨(Own.from (holdsRow_own V.heap.size w.heap.size 36 41 2 (fun pre : List Xt => pre.length) (fun pre => entCells pre) (fun _ _ => True)) _) pre X Z row h1 hy hr, h3.grown hy (by have := h3.size; omega) (fun j e => by have := (hr j e).1; omega), Nat.le_trans h4 hy.size⟩
 case hG =>
  rintro pre X Z g o ⟨⟨v, h1, h2, _⟩, h3, h4⟩ hy hg ho hc hn hs
  have e1 : slB X w.heap.size = v.ownBlock := by unfold slB; rw [Boxed.cell h1]
  rw [e1] at hs
  exact ⟨⟨v, h1.kept hy (by intro e; injection e with e; exact hn e.symm), h2.kept hy (.inr hs), trivial⟩, h3.grown hy (by have := h3.size; omega) (fun j e => by injection e with e; omega), Nat.le_trans h4 hy.size⟩
 case h0 => exact ⟨⟨_, lb0, World.ownsRow_nil _ _ _ _, trivial⟩, hB, Nat.le_refl _⟩
 case assign =>
  rintro l pre y W K ⟨⟨v, h1, h2, _⟩, h3, h4⟩ hK
  dsimp only [xtEnc]
  gi_wp2
  refine hK _ _ ((KeepsOthers.alloc W _).from _) (StaysC.zero (by simp)) (KeepS.alloc (by omega) _) ⟨⟨v, Boxed.alloc h1 _, h2.alloc _, trivial⟩, h3.alloc (by omega) _, by simp; omega⟩ ⟨W.heap.size, Blk.new W _ _, rfl⟩
 case body =>
  rintro l pre y a' W ⟨⟨v, h1, h2, _⟩, h3, h4⟩ ⟨g, hg, rfl⟩ hpl hsz
  have kl := h1.cell
  have fl := h1.frozen
  have hsz2 : V.heap.size ≤ W.heap.size := h4
  obtain ⟨yl, yf⟩ := y
  have Hmap := hid (show entCells pre ++ [Value.int .i64 yl, Value.int .i64 yf] = entCells (pre ++ [(yl, yf)]) from entCells_snoc _ _ _)
  have kx := blk2 hg
  have fx := hg.frozen
  gi_wp2_with (gi_at_builtin; refine wpListIn_append_at _ rfl _ _ 36 rfl V.heap.size 41 i0 (.agg #[.int .i64 0, .int .i64 0]) 2 16 Tryz.underlying36 hi hz0 hz1 hz2 rfl (by decide) _ _ _ rfl (h2.alloc _) ⟨W.heap.size, 0, none⟩ 1 1 [.int .i64 yl, .int .i64 yf] (by decide) rfl rfl (World.news_of_block (Blk.new W 41 #[.int .i64 yl, .int .i64 yf])) (by simp [Value.oneCell']) (by unfold maxLen; omega) (by omega) (by simp; omega) ?_; intro v' w1 hown' hgrow hat; obtain ⟨g', cap', rfl⟩ := ownsRow_succ hown'; obtain ⟨q1, q2, q3, q4, q5, q6⟩ := appended_at h1 (by decide) h2 hsz2 hown' hgrow; have q7 := appended_keeps h1 (by decide) h2 hsz2 hown' hgrow hat; have kl1 := blk1 q1; have fl1 := q1.frozen 0)
  refine ⟨q4.from _, ⟨StaysC.zero q7.size, q7⟩, ⟨_, q2, ?_⟩, h3.trans (q5 B0 (by omega) (by omega)), by have := q7.size; omega⟩
  have e : (pre ++ [(yl, yf)]).length = pre.length + 1 := by simp
  rw [← Hmap.out, e]; first | exact q3 | exact ⟨q3, trivial⟩
 case done =>
  rintro Dd ys U hDd rfl ⟨⟨v, h1, h2, _⟩, h3, h4⟩ hK
  have kl := h1.cell
  go_wp2_with fail
  refine ⟨by simp, .inl ⟨_, _, rfl, run_takeDeferred hK, ?_⟩⟩
  refine ⟨v, by simp [results, Tryz.results64, go_sem], ⟨v, rfl, ?_⟩, ?_⟩
  · exact own_base (ownsRow_putObj h2 (.deferred none) hK rfl) (by omega)
  · exact h3.trans (belowK_b (w := w) h0 _ Dd _ _ (by omega) hK rfl rfl)
set_option maxRecDepth 100000 in
set_option maxHeartbeats 1000000 in
theorem sp_join (l : List Xt) (A : Option Addr) (c : Nat) (hl : l.length ≤ 1000000) (h64 : ∀ x ∈ l, -9223372036854775808 ≤ x.1 ∧ x.1 ≤ 9223372036854775807) (w : World) (hA : Cells w A (entCells l)) :
 Calls Tryz.prog 14 #[.slice A l.length c] w fun e w' => (∃ v, e = .returned v ∧ w'.ownsRow w.heap.size 41 2 v (join l).length (entCells (join l))) ∧ Below w.heap.size w w' := by
 have hcol : Calls Tryz.prog 30 #[.func (.func 65) #[] #[.pointer (some ⟨w.heap.size, 0, none⟩)]] (w.alloc (.cells #[.slice A l.length c] 36)) fun e w' => (∃ v, e = .returned v ∧ w'.ownsRow w.heap.size 41 2 v (join l).length (entCells (join l))) ∧ Below w.heap.size w w' := by
  have hB := (Below.refl w.heap.size w).alloc (Nat.le_refl _) (.cells #[.slice A l.length c] 36)
  have bl := Blk.new w 36 #[.slice A l.length c]
  have hA1 := hA.below hB
  have hAl := Cells.lt hA
  have hs : (w.alloc (.cells #[.slice A l.length c] 36)).heap.size = w.heap.size + 1 := by simp
  generalize hV : w.alloc (.cells #[.slice A l.length c] 36) = V at *
  have happ := xt_appendSeq 65 #[.pointer (some ⟨w.heap.size, 0, none⟩)] (enters_of Tryz.func65 (by kernel_rfl) rfl) (join l) (l.length + 1) (by omega) V.heap.size V (Nat.le_refl _)
   (joined_stops 5 (by omega) l A c hl h64 V.heap.size w.heap.size V.heap.size _ (by simp) (hA1.below ((Below.refl _ _).alloc (Nat.le_refl _) _)) (by
    by_cases h : entCells l = []
    · exact .inl (by rw [h]; rfl)
    · exact .inr fun b off e => by have := hAl b off e h; omega) (bl.alloc _) (Blk.new V _ _) (by omega))
  go_enter Tryz.func30, Tryz.ntmps30
  go_wp2_with fail
  go_at_call 64
  refine happ.mono ?_
  rintro e W ⟨⟨v, rfl, hv⟩, hb⟩
  go_wp2_with fail
  go_ret
  exact ⟨⟨_, rfl, own_base hv (by omega)⟩, hB.trans (hb.mono (by omega))⟩
 have hjo : Calls Tryz.prog 31 #[.slice A l.length c] w fun e w' => e = .returned (.func (.func 65) #[] #[.pointer (some ⟨w.heap.size, 0, none⟩)]) ∧ w' = w.alloc (.cells #[.slice A l.length c] 36) := by
  go_enter Tryz.func31, Tryz.ntmps31
  go_wp2_with fail
  go_ret
  exact ⟨rfl, rfl⟩
 go_enter Tryz.func14, Tryz.ntmps14
 go_wp2_with fail
 go_at_call 31
 refine hjo.mono ?_
 rintro e W ⟨rfl, rfl⟩
 go_wp2_with fail
 go_at_call 30
 refine hcol.mono ?_
 rintro e W ⟨⟨v, rfl, hv⟩, hb⟩
 go_wp2_with fail
 go_ret
 exact ⟨⟨_, rfl, hv⟩, hb⟩
end Go.Proofs.YtlapjkbefkmohaaGreat
