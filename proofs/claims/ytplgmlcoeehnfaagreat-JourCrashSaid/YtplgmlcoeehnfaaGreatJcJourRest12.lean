/- JourCrash: the walk behind the second plan, whose error is 12. -/
import Derived.Test.YtplgmlcoeehnfaaGreatJcJourRest
import Derived.Deep.DeepCutAuto
import Derived.Deep.RegionWith
set_option linter.unusedVariables false
namespace Go.Proofs.YtplgmlcoeehnfaaGreat.jourCrash
open Go.RowKit Go.Shelf Go.WideShapes Go.ChangeShapes Go.ChangeAt
open Go.ChangeMaps (open_string shut_string)
attribute [local go_sem] bs_mk bs_append bs_extract bs_size bs_toList bs_get
set_option maxRecDepth 100000 in
set_option maxHeartbeats 40000000 in
theorem rest12 {dat : List UInt8} {fus : Int} {L M : Pn} {nf ng : Int} {K R : List Bool} {AK AR : Option Addr} {cK cR : Nat} {w : World} {A1 A2 B1 B2 C1 C2 : Option Addr} {a1 a2 b1 b2 c1 c2 : Nat} {w4 w6 wc : World} {D1 C0 : Dk} {s1 s7 : Nat} {t1 t7 : Int} {p1 q1 p7 q7 : Pl} {gc gj : Nat}
    {u21 u29 u30 u31 u32 u33 u34 u35 u36 u37 u38 u39 u40 u41 u42 u43 u44 u45 u46 u47 u48 u49 u50 u51 u52 u53 u54 u55 u56 u57 u58 u59 u60 u61 u62 u63 u64 u65 u66 u67 u68 u69 u70 u71 u72 u73 u74 u75 u76 u77 u78 u79 u80 u81 u82 u83 u84 u85 u86 u87 u88 u89 u90 u91 u92 u93 u94 u95 u96 u97 u98 u99 u100 u101 u102 u103 u104 u105 u106 u107 u108 u109 u110 u111 u112 u113 u114 u115 u116 u117 u118 u119 u120 u121 u122 u123 u124 u125 u126 u127 u128 u129 u130 u131 u132 u133 u134 u135 u136 u137 u138 u139 u140 u141 u142 u143 u144 u145 u146 u147 u148 u149 u150 u151 u152 u153 u154 u155 u156 u157 u158 u159 u162 u163 u164 u165 u166 u167 u168 u169 u170 u171 u172 u173 u174 u175 u176 u177 u178 u179 u180 u181 u182 u183 u184 u185 u186 u187 u188 u189 u190 u191 u192 u193 u194 u195 u196 u197 u198 u199 u200 u201 u202 u203 u204 u205 u206 u207 u208 u209 u210 u211 : Value}
    (hnf : okInt nf) (hng : okInt ng) (hKl : K.length ≤ 9223372036854775807) (hRl : R.length ≤ 9223372036854775807) (Hq : Hid (Quiet (⟨dat, [], fus, false, []⟩ : Dk))) (HK : Hid (Cells w AK (boolCells K))) (HR : Hid (Cells w AR (boolCells R)))
    (HL : Hid (IsPn w L ⟨B1, b1⟩ ⟨B2, b2⟩)) (HM : Hid (IsPn w M ⟨C1, c1⟩ ⟨C2, c2⟩)) (HO1 : Hid (Outside (⟨dat, [], fus, false, []⟩ : Dk).sz L ∧ L.Fit)) (HO2 : Hid (Outside (⟨dat, [], fus, false, []⟩ : Dk).sz M ∧ M.Fit)) (HF : Hid (First (⟨dat, [], fus, false, []⟩ : Dk) D1 L ⟨s1, t1⟩)) (lx : w.heap.size + 1 + 1 < w4.heap.size)
    (hs1 : s1 < 18446744073709551616) (ht1 : -9223372036854775808 ≤ t1 ∧ t1 ≤ 9223372036854775807) (hox : DkOff w.heap.size D1 p1 q1) (hob : DkOff w4.heap.size D1 p1 q1)
    (y : Blk w6 (w.heap.size + 1 + 1) 28 #[.slice C1 M.targets.length c1, .slice C2 M.data.length c2]) (b : Blk w6 w4.heap.size 72 #[.int .u64 s1, .int .i64 t1]) (i1 : IsDk w6 D1 p1 q1) (HCf : Hid (C0.fit = true))
    (HMid : Hid (MidAt (⟨dat, [], fus, false, []⟩ : Dk) (C0.crash fun i => K.getD i false) L M ⟨s1, t1⟩ 12)) (hcj : gc ≠ gj) (gc0 : w6.heap.size ≤ gc) (gj0 : w6.heap.size ≤ gj)
    (c : Blk wc gc 25 #[.string (bs C0.data), .slice p7.a C0.cache.length p7.c, .int .i64 C0.fuse, .bool C0.off, .slice q7.a C0.bad.length q7.c]) (jj : Blk wc gj 72 #[.int .u64 s7, .int .i64 t7]) (i7 : IsDk wc C0 p7 q7) (oc : DkOff gc C0 p7 q7)
    (HBc : Below w.heap.size w wc) (xx : Blk wc w.heap.size 25 #[.string (bs D1.data), .slice p1.a D1.cache.length p1.c, .int .i64 D1.fuse, .bool D1.off, .slice q1.a D1.bad.length q1.c]) (bb : Blk wc w4.heap.size 72 #[.int .u64 s1, .int .i64 t1])
    (zz : Blk wc (w.heap.size + 1) 28 #[.slice B1 L.targets.length b1, .slice B2 L.data.length b2]) (yy : Blk wc (w.heap.size + 1 + 1) 28 #[.slice C1 M.targets.length c1, .slice C2 M.data.length c2]) (i1c : IsDk wc D1 p1 q1) :
    Code.wp Tryz.prog restCode (bodyPost Tryz.prog Tryz.f12 fun e w' => e = .returned (.bool true) ∧ Below w.heap.size w w') ⟨#[dval (⟨dat, [], fus, false, []⟩ : Dk) ⟨A1, a1⟩ ⟨A2, a2⟩, pval L ⟨B1, b1⟩ ⟨B2, b2⟩, pval M ⟨C1, c1⟩ ⟨C2, c2⟩, .int .i64 nf, .slice AK K.length cK, .int .i64 ng, .slice AR R.length cR, .pointer (some ⟨w.heap.size, 0, none⟩), .pointer (some ⟨w.heap.size + 1, 0, none⟩), .pointer (some ⟨w.heap.size + 1 + 1, 0, none⟩), undef, undef, undef, undef, .bool false, .pointer (some ⟨w4.heap.size, 0, none⟩), .int .i64 0, .pointer (some ⟨gc, 0, none⟩), .pointer (some ⟨gj, 0, none⟩), .int .i64 12, undef, u21, undef, undef, undef, undef, undef, undef, undef, u29, u30, u31, u32, u33, u34, u35, u36, u37, u38, u39, u40, u41, u42, u43, u44, u45, u46, u47, u48, u49, u50, u51, u52, u53, u54, u55, u56, u57, u58, u59, u60, u61, u62, u63, u64, u65, u66, u67, u68, u69, u70, u71, u72, u73, u74, u75, u76, u77, u78, u79, u80, u81, u82, u83, u84, u85, u86, u87, u88, u89, u90, u91, u92, u93, u94, u95, u96, u97, u98, u99, u100, u101, u102, u103, u104, u105, u106, u107, u108, u109, u110, u111, u112, u113, u114, u115, u116, u117, u118, u119, u120, u121, u122, u123, u124, u125, u126, u127, u128, u129, u130, u131, u132, u133, u134, u135, u136, u137, u138, u139, u140, u141, u142, u143, u144, u145, u146, u147, u148, u149, u150, u151, u152, u153, u154, u155, u156, u157, u158, u159, undef, undef, u162, u163, u164, u165, u166, u167, u168, u169, u170, u171, u172, u173, u174, u175, u176, u177, u178, u179, u180, u181, u182, u183, u184, u185, u186, u187, u188, u189, u190, u191, u192, u193, u194, u195, u196, u197, u198, u199, u200, u201, u202, u203, u204, u205, u206, u207, u208, u209, u210, u211], []⟩ wc := by
  unfold restCode
  conv => arg 2; whnf
  have hcr := fun (W : World) (hW : Below w.heap.size w W) (hi : IsDk W C0 p7 q7) => d_crash_at C0 p7 q7 W hi HCf.out K AK cK (HK.out.below hW) hKl
  obtain ⟨Cc, hCc⟩ : ∃ X, C0.crash (fun i => K.getD i false) = X := ⟨_, rfl⟩
  have HM2 : Hid (MidAt (⟨dat, [], fus, false, []⟩ : Dk) Cc L M ⟨s1, t1⟩ 12) := hid (by rw [← hCc]; exact HMid.out)
  have ocC : DkOff gc Cc ⟨none, 0⟩ q7 := ⟨.inr (fun b off h => nomatch h), by rw [← hCc]; exact oc.2⟩
  rw [hCc] at hcr
  have hgcw : w.heap.size ≤ gc := by have := y.lt; omega
  have hlb : w4.heap.size < gc := by have := b.lt; omega
  have hly : w.heap.size + 1 + 1 < gc := by have := y.lt; omega
  have hgl : gc < wc.heap.size := c.lt
  have hoi1 := i1.apart gc0
  have hdat : ∀ X : Dk, X.fit = true → X.data.length ≤ 140737488355328 := fun X h => by obtain ⟨_, a, b, _⟩ := Dk.fit_parts h; omega
  have hfit2 := fun (W : World) (h : IsDk W Cc ⟨none, 0⟩ q7) => r1_fit Cc ⟨none, 0⟩ q7 W h (by rw [HM2.out.cache]; decide)
  rw [HM2.out.quiet.fit] at hfit2
  have hsz2 := fun (W : World) => r1_size Cc ⟨none, 0⟩ q7 (hdat _ HM2.out.quiet.fit) W
  have hszd := fun (W : World) => r1_size D1 p1 q1 (hdat _ HF.out.quiet.fit) W
  have Hsz := hid (show Cc.sz = D1.sz from HM2.out.sz.trans HF.out.sz.symm)
  rw [Hsz.out] at hsz2
  obtain ⟨n, hn⟩ : ∃ n, D1.sz = n := ⟨_, rfl⟩
  rw [hn] at hsz2 hszd
  have Hn := hid hn
  have hch := fun (W : World) (h : IsDk W Cc ⟨none, 0⟩ q7) (ht : Blk W wc.heap.size 92 #[.int .u64 1, .slice B1 L.targets.length b1, .slice B2 L.data.length b2, .int .u64 s1, .slice C1 M.targets.length c1, .slice C2 M.data.length c2]) (hb : Below w.heap.size w W) => chance07 Cc ⟨none, 0⟩ q7 [⟨0, ⟨1, L⟩, ⟨B1, b1⟩, ⟨B2, b2⟩⟩, ⟨0, ⟨s1, M⟩, ⟨C1, c1⟩, ⟨C2, c2⟩⟩] (some ⟨wc.heap.size, 0, none⟩) 2 wc.heap.size W h HM2.out.quiet.fit (fun _ => rfl) (tx_two ht (HL.out.below hb) (HM.out.below hb)) (show 2 ≤ 1000 by decide) (two_small HO1.out.2 HO2.out.2)
  clear HMid hCc hn b y i1
  have hQ := HBc
  have xxk := blk5 xx
  have bbk := blk2 bb
  have zzk := blk2 zz
  have yyk := blk2 yy
  have ck := blk5 c
  have ckf := c.frozen
  have tt := Blk.new wc 92 #[.int .u64 1, .slice B1 L.targets.length b1, .slice B2 L.data.length b2, .int .u64 s1, .slice C1 M.targets.length c1, .slice C2 M.data.length c2]
  have ttk := blk6 tt
  have hQ_1 := hQ.alloc hQ.size (.cells #[.int .u64 1, .slice B1 L.targets.length b1, .slice B2 L.data.length b2, .int .u64 s1, .slice C1 M.targets.length c1, .slice C2 M.data.length c2] 92)
  have xx_2 := xx.alloc (.cells #[.int .u64 1, .slice B1 L.targets.length b1, .slice B2 L.data.length b2, .int .u64 s1, .slice C1 M.targets.length c1, .slice C2 M.data.length c2] 92)
  have xxk_2 := blk5 xx_2
  have bb_3 := bb.alloc (.cells #[.int .u64 1, .slice B1 L.targets.length b1, .slice B2 L.data.length b2, .int .u64 s1, .slice C1 M.targets.length c1, .slice C2 M.data.length c2] 92)
  have bbk_3 := blk2 bb_3
  have zz_4 := zz.alloc (.cells #[.int .u64 1, .slice B1 L.targets.length b1, .slice B2 L.data.length b2, .int .u64 s1, .slice C1 M.targets.length c1, .slice C2 M.data.length c2] 92)
  have zzk_4 := blk2 zz_4
  have yy_5 := yy.alloc (.cells #[.int .u64 1, .slice B1 L.targets.length b1, .slice B2 L.data.length b2, .int .u64 s1, .slice C1 M.targets.length c1, .slice C2 M.data.length c2] 92)
  have yyk_5 := blk2 yy_5
  have c_6 := c.alloc (.cells #[.int .u64 1, .slice B1 L.targets.length b1, .slice B2 L.data.length b2, .int .u64 s1, .slice C1 M.targets.length c1, .slice C2 M.data.length c2] 92)
  have ck_6 := blk5 c_6
  have ckf_6 := c_6.frozen
  have i7_7 := i7.below ((Below.refl _ _).alloc (Nat.le_refl _) (.cells #[.int .u64 1, .slice B1 L.targets.length b1, .slice B2 L.data.length b2, .int .u64 s1, .slice C1 M.targets.length c1, .slice C2 M.data.length c2] 92))
  have i1c_8 := i1c.below ((Below.refl _ _).alloc (Nat.le_refl _) (.cells #[.int .u64 1, .slice B1 L.targets.length b1, .slice B2 L.data.length b2, .int .u64 s1, .slice C1 M.targets.length c1, .slice C2 M.data.length c2] 92))
  go_wp2_with fail
  go_at_call 50
  refine ((hcr _ hQ_1 i7_7)).mono ?_
  rintro e w8 ⟨⟨rfl, ic⟩, hb8⟩
  replace hQ := bt hQ_1 hb8
  replace xx := xx_2.below hb8 xx_2.lt
  replace xxk := blk5 xx
  replace bb := bb_3.below hb8 bb_3.lt
  replace bbk := blk2 bb
  replace zz := zz_4.below hb8 zz_4.lt
  replace zzk := blk2 zz
  replace yy := yy_5.below hb8 yy_5.lt
  replace yyk := blk2 yy
  replace c := c_6.below hb8 c_6.lt
  replace ck := blk5 c
  replace ckf := c.frozen
  replace i7 := i7_7.below hb8
  replace i1c := i1c_8.below hb8
  replace tt := tt.below hb8 tt.lt
  replace ttk := blk6 tt
  clear hQ_1 xxk_2 xx_2 bbk_3 bb_3 zzk_4 zz_4 yyk_5 yy_5 ck_6 ckf_6 c_6 i7_7 i1c_8
  have hQ_9 := below_set5 hQ (g := gc) (by omega) (.string (bs Cc.data)) (.slice none Cc.cache.length 0) (.int .i64 Cc.fuse) (.bool Cc.off) (.slice q7.a Cc.bad.length q7.c)
  have xx_10 := blk_off5 xx (g := gc) (by omega) (.string (bs Cc.data)) (.slice none Cc.cache.length 0) (.int .i64 Cc.fuse) (.bool Cc.off) (.slice q7.a Cc.bad.length q7.c)
  have xxk_10 := blk5 xx_10
  have zz_11 := blk_off5 zz (g := gc) (by omega) (.string (bs Cc.data)) (.slice none Cc.cache.length 0) (.int .i64 Cc.fuse) (.bool Cc.off) (.slice q7.a Cc.bad.length q7.c)
  have zzk_11 := blk2 zz_11
  have yy_12 := blk_off5 yy (g := gc) (by omega) (.string (bs Cc.data)) (.slice none Cc.cache.length 0) (.int .i64 Cc.fuse) (.bool Cc.off) (.slice q7.a Cc.bad.length q7.c)
  have yyk_12 := blk2 yy_12
  have c_13 := blk_set5 c (.string (bs Cc.data)) (.slice none Cc.cache.length 0) (.int .i64 Cc.fuse) (.bool Cc.off) (.slice q7.a Cc.bad.length q7.c)
  have ck_13 := blk5 c_13
  have ckf_13 := c_13.frozen
  have i1c_14 := i1c.off5 (g := gc) (by first | assumption | omega) (.string (bs Cc.data)) (.slice none Cc.cache.length 0) (.int .i64 Cc.fuse) (.bool Cc.off) (.slice q7.a Cc.bad.length q7.c)
  have tt_15 := blk_off5 tt (g := gc) (by omega) (.string (bs Cc.data)) (.slice none Cc.cache.length 0) (.int .i64 Cc.fuse) (.bool Cc.off) (.slice q7.a Cc.bad.length q7.c)
  have ttk_15 := blk6 tt_15
  have ic_16 := ic.off5 (g := gc) (by first | assumption | omega) (.string (bs Cc.data)) (.slice none Cc.cache.length 0) (.int .i64 Cc.fuse) (.bool Cc.off) (.slice q7.a Cc.bad.length q7.c)
  go_wp2_with fail
  generalize (((((w8.setCell ⟨gc, 0, none⟩ (.string (bs Cc.data))).setCell ⟨gc, 1, none⟩ (.slice none Cc.cache.length 0)).setCell ⟨gc, 2, none⟩ (.int .i64 Cc.fuse)).setCell ⟨gc, 3, none⟩ (.bool Cc.off)).setCell ⟨gc, 4, none⟩ (.slice q7.a Cc.bad.length q7.c)) = V at hQ_9 xx_10 xxk_10 zz_11 zzk_11 yy_12 yyk_12 c_13 ck_13 ckf_13 i1c_14 tt_15 ttk_15 ic_16 ⊢
  clear hQ xx zz yy c i1c tt ic xxk zzk yyk ck ttk ckf
  have hQ := hQ_9
  have xx := xx_10
  have xxk := xxk_10
  have zz := zz_11
  have zzk := zzk_11
  have yy := yy_12
  have yyk := yyk_12
  have c := c_13
  have ck := ck_13
  have ckf := ckf_13
  have i1c := i1c_14
  have tt := tt_15
  have ttk := ttk_15
  have ic := ic_16
  clear hQ_9 xx_10 xxk_10 zz_11 zzk_11 yy_12 yyk_12 c_13 ck_13 ckf_13 i1c_14 tt_15 ttk_15 ic_16
  have X5 := ext5 c
  have X6 := ext5 xx
  have F1 := fun e : Ext V => hfit2 e.world (ic.below e.below)
  have F2 := fun e : Ext V => hsz2 e.world
  have F3 := fun e : Ext V => hszd e.world
  have g1 : ((n : Int) != (n : Int)) = false := by simp
  refine wp_region_ext mixed (by kernel_rfl) ?_
  repeat (go_big_quiet_step (((first | (go_at_call 51; with_reducible exact ext_of (F1 _)) | (go_at_call 52; with_reducible exact ext_of (F2 _)) | (go_at_call 52; with_reducible exact ext_of (F3 _))))))
  refine wpQuiet_nil ?_
  rintro W12 ⟨pq_, hpq_⟩
  have hW12 := pq_.below
  rw [← hpq_] at hW12
  clear hpq_ pq_
  have hQA0 := bt hQ hW12
  have xxA := (xx).below hW12 (xx).lt
  have zzA := (zz).below hW12 (zz).lt
  have yyA := (yy).below hW12 (yy).lt
  have cA := (c).below hW12 (c).lt
  have ttA := (tt).below hW12 (tt).lt
  have icA := (ic).below hW12
  have i1cA := (i1c).below hW12
  have hQA := hQA0
  have xxAk := blk5 xxA
  have zzAk := blk2 zzA
  have yyAk := blk2 yyA
  have cAk := blk5 cA
  have cAkf := cA.frozen
  have ttAk := blk6 ttA
  go_wp2_with fail
  go_at_call 49
  refine ((hch _ icA ttA hQA)).mono ?_
  rintro e w9 ⟨⟨r4, rfl, ho4⟩, hb9⟩
  replace hQA := bt hQA hb9
  replace xxA := xxA.below hb9 xxA.lt
  replace xxAk := blk5 xxA
  replace zzA := zzA.below hb9 zzA.lt
  replace zzAk := blk2 zzA
  replace yyA := yyA.below hb9 yyA.lt
  replace yyAk := blk2 yyA
  replace cA := cA.below hb9 cA.lt
  replace cAk := blk5 cA
  replace cAkf := cA.frozen
  replace ttA := ttA.below hb9 ttA.lt
  replace ttAk := blk6 ttA
  replace icA := icA.below hb9
  replace i1cA := i1cA.below hb9
  replace ho4 := hid ho4
  cases r4 with
  | true =>
    go_wp2_with fail
    go_at_call 32
    refine ((awake07 _)).mono ?_
    rintro e w10 ⟨rfl, hb10⟩
    replace hQA := bt hQA hb10
    replace xxA := xxA.below hb10 xxA.lt
    replace xxAk := blk5 xxA
    replace zzA := zzA.below hb10 zzA.lt
    replace zzAk := blk2 zzA
    replace yyA := yyA.below hb10 yyA.lt
    replace yyAk := blk2 yyA
    replace cA := cA.below hb10 cA.lt
    replace cAk := blk5 cA
    replace cAkf := cA.frozen
    replace ttA := ttA.below hb10 ttA.lt
    replace ttAk := blk6 ttA
    replace icA := icA.below hb10
    replace i1cA := i1cA.below hb10
    go_wp2_with fail
    go_ret
    exact ⟨rfl, hQA⟩
  | false =>
    have HS := hid (show ∀ x ∈ (jrScan Cc).1, x.2 = ⟨1, L⟩ ∨ x.2 = ⟨s1, M⟩ from fun x hx => by
      obtain ⟨t, ht, e⟩ := (ho4.out rfl).2 x hx
      rcases List.mem_cons.1 ht with rfl | ht
      · exact .inl e
      · rw [List.mem_singleton.1 ht] at e; exact .inr e)
    clear ho4 hfit2 hsz2 hch
    obtain ⟨Z, ⟨zs, zt⟩, hz, hzf, hzs, hzo, hzn⟩ := allOrNone HF.out Hq.out HO1.out.2 HO2.out.2 HO1.out.1 HO2.out.1 HM2.out HS.out (max ng (-1)) (fun i => R.getD i false)
    have hnn2 : -9223372036854775808 ≤ max ng (-1) ∧ max ng (-1) ≤ 9223372036854775807 := max_ok hng
    have harm2 := fun (W : World) (h : IsDk W Cc ⟨none, 0⟩ q7) => d_arm Cc ⟨none, 0⟩ q7 W h (max ng (-1)) hnn2
    have hfa : (Cc.arm (max ng (-1))).fit = true := Dk.fit_of HM2.out.quiet.fit rfl rfl rfl
    have ocA : DkOff gc (Cc.arm (max ng (-1))) ⟨none, 0⟩ q7 := ocC
    have hE0 := jrReplay_fit hfa
    obtain ⟨CA, hCA⟩ : ∃ X, Cc.arm (max ng (-1)) = X := ⟨_, rfl⟩
    rw [hCA] at harm2 hfa ocA hE0 hz
    have hrep := fun (W : World) (h : IsDk W CA ⟨none, 0⟩ q7) => j_replay CA ⟨none, 0⟩ q7 W h hfa
    obtain ⟨⟨E, ⟨es, et⟩, ee⟩, hE⟩ : ∃ X, jrReplay CA = X := ⟨_, rfl⟩
    rw [hE] at hE0 hz hrep
    replace hE0 : E.fit = true := hE0
    have hFf := Dk.crash_fit hE0 (fun i => R.getD i false)
    have hcr2 := fun (W : World) (h : Below w.heap.size w W) (p8 q8 : Pl) (hi : IsDk W E p8 q8) => d_crash_at E p8 q8 W hi hE0 R AR cR (HR.out.below h) hRl
    obtain ⟨F, hF2⟩ : ∃ X, E.crash (fun i => R.getD i false) = X := ⟨_, rfl⟩
    replace hz : jrReplay (E.crash fun i => R.getD i false) = (Z, ⟨zs, zt⟩, 0) := hz
    have hFb : F.bad = E.bad := by rw [← hF2]; rfl
    rw [hF2] at hcr2 hz hFf
    obtain ⟨e0, he0, hz⟩ : ∃ e0 : Int, (e0 != 0) = false ∧ jrReplay F = (Z, ⟨zs, zt⟩, e0) := ⟨0, rfl, hz⟩
    have HFb := hid hFb
    have hrep2 := fun (W : World) (p q : Pl) (h : IsDk W F p q) => j_replay F p q W h hFf
    rw [hz] at hrep2
    have hzl := hdat Z hzf
    have Hzf := hid hzf
    have Hzs := hid (show Z.sz = n by rw [hzs, ← HF.out.sz]; exact Hn.out)
    have Hzo := hid hzo
    have Hzn := hid hzn
    clear hz hzf hzs hzo hzn hE hCA hFf hE0 hfa hnn2 HS hF2 hFb HM2
    go_wp2_with fail
    go_at_call 47
    refine ((harm2 _ icA)).mono ?_
    rintro e w11 ⟨⟨rfl, iA⟩, hb11⟩
    replace hQA := bt hQA hb11
    replace xxA := xxA.below hb11 xxA.lt
    replace xxAk := blk5 xxA
    replace zzA := zzA.below hb11 zzA.lt
    replace zzAk := blk2 zzA
    replace yyA := yyA.below hb11 yyA.lt
    replace yyAk := blk2 yyA
    replace cA := cA.below hb11 cA.lt
    replace cAk := blk5 cA
    replace cAkf := cA.frozen
    replace ttA := ttA.below hb11 ttA.lt
    replace ttAk := blk6 ttA
    replace icA := icA.below hb11
    replace i1cA := i1cA.below hb11
    have gl := (cA).lt
    go_wp2_with fail
    go_at_call 42
    refine ((hrep _ iA)).mono ?_
    rintro e w12 ⟨⟨p8, q8, rfl, i8, o8⟩, hb12⟩
    replace hQA := bt hQA hb12
    replace xxA := xxA.below hb12 xxA.lt
    replace xxAk := blk5 xxA
    replace zzA := zzA.below hb12 zzA.lt
    replace zzAk := blk2 zzA
    replace yyA := yyA.below hb12 yyA.lt
    replace yyAk := blk2 yyA
    replace cA := cA.below hb12 cA.lt
    replace cAk := blk5 cA
    replace cAkf := cA.frozen
    replace i1cA := i1cA.below hb12
    replace iA := iA.below hb12
    have o8c := o8 gc gl ocA
    clear o8
    have hQA_1 := below_set5 hQA (g := gc) (by omega) (.string (bs E.data)) (.slice p8.a E.cache.length p8.c) (.int .i64 E.fuse) (.bool E.off) (.slice q8.a E.bad.length q8.c)
    have xxA_2 := blk_off5 xxA (g := gc) (by omega) (.string (bs E.data)) (.slice p8.a E.cache.length p8.c) (.int .i64 E.fuse) (.bool E.off) (.slice q8.a E.bad.length q8.c)
    have xxAk_2 := blk5 xxA_2
    have zzA_3 := blk_off5 zzA (g := gc) (by omega) (.string (bs E.data)) (.slice p8.a E.cache.length p8.c) (.int .i64 E.fuse) (.bool E.off) (.slice q8.a E.bad.length q8.c)
    have zzAk_3 := blk2 zzA_3
    have yyA_4 := blk_off5 yyA (g := gc) (by omega) (.string (bs E.data)) (.slice p8.a E.cache.length p8.c) (.int .i64 E.fuse) (.bool E.off) (.slice q8.a E.bad.length q8.c)
    have yyAk_4 := blk2 yyA_4
    have cA_5 := blk_set5 cA (.string (bs E.data)) (.slice p8.a E.cache.length p8.c) (.int .i64 E.fuse) (.bool E.off) (.slice q8.a E.bad.length q8.c)
    have cAk_5 := blk5 cA_5
    have cAkf_5 := cA_5.frozen
    have i1cA_6 := i1cA.off5 (g := gc) (by first | assumption | omega) (.string (bs E.data)) (.slice p8.a E.cache.length p8.c) (.int .i64 E.fuse) (.bool E.off) (.slice q8.a E.bad.length q8.c)
    have i8_7 := i8.off5 (g := gc) (by first | assumption | omega) (.string (bs E.data)) (.slice p8.a E.cache.length p8.c) (.int .i64 E.fuse) (.bool E.off) (.slice q8.a E.bad.length q8.c)
    go_wp2_with fail
    go_at_call 50
    refine ((hcr2 _ hQA_1 p8 q8 i8_7)).mono ?_
    rintro e w13 ⟨⟨rfl, i9⟩, hb13⟩
    replace hQA := bt hQA_1 hb13
    replace xxA := xxA_2.below hb13 xxA_2.lt
    replace xxAk := blk5 xxA
    replace zzA := zzA_3.below hb13 zzA_3.lt
    replace zzAk := blk2 zzA
    replace yyA := yyA_4.below hb13 yyA_4.lt
    replace yyAk := blk2 yyA
    replace cA := cA_5.below hb13 cA_5.lt
    replace cAk := blk5 cA
    replace cAkf := cA.frozen
    replace i1cA := i1cA_6.below hb13
    replace i8 := i8_7.below hb13
    clear hQA_1 xxAk_2 xxA_2 zzAk_3 zzA_3 yyAk_4 yyA_4 cAk_5 cAkf_5 cA_5 i1cA_6 i8_7
    have o9c : DkOff gc F ⟨none, 0⟩ q8 := ⟨.inr (fun b off h => nomatch h), by rw [HFb.out]; exact o8c.2⟩
    have hQA_8 := below_set5 hQA (g := gc) (by omega) (.string (bs F.data)) (.slice none F.cache.length 0) (.int .i64 F.fuse) (.bool F.off) (.slice q8.a F.bad.length q8.c)
    have xxA_9 := blk_off5 xxA (g := gc) (by omega) (.string (bs F.data)) (.slice none F.cache.length 0) (.int .i64 F.fuse) (.bool F.off) (.slice q8.a F.bad.length q8.c)
    have xxAk_9 := blk5 xxA_9
    have zzA_10 := blk_off5 zzA (g := gc) (by omega) (.string (bs F.data)) (.slice none F.cache.length 0) (.int .i64 F.fuse) (.bool F.off) (.slice q8.a F.bad.length q8.c)
    have zzAk_10 := blk2 zzA_10
    have yyA_11 := blk_off5 yyA (g := gc) (by omega) (.string (bs F.data)) (.slice none F.cache.length 0) (.int .i64 F.fuse) (.bool F.off) (.slice q8.a F.bad.length q8.c)
    have yyAk_11 := blk2 yyA_11
    have cA_12 := blk_set5 cA (.string (bs F.data)) (.slice none F.cache.length 0) (.int .i64 F.fuse) (.bool F.off) (.slice q8.a F.bad.length q8.c)
    have cAk_12 := blk5 cA_12
    have cAkf_12 := cA_12.frozen
    have i1cA_13 := i1cA.off5 (g := gc) (by first | assumption | omega) (.string (bs F.data)) (.slice none F.cache.length 0) (.int .i64 F.fuse) (.bool F.off) (.slice q8.a F.bad.length q8.c)
    have i9_14 := i9.off5 (g := gc) (by first | assumption | omega) (.string (bs F.data)) (.slice none F.cache.length 0) (.int .i64 F.fuse) (.bool F.off) (.slice q8.a F.bad.length q8.c)
    have gl2 := (cA_12).lt
    go_wp2_with fail
    go_at_call 42
    refine ((hrep2 _ ⟨none, 0⟩ q8 i9_14)).mono ?_
    rintro e w14 ⟨⟨p9, q9, rfl, i10, o10⟩, hb14⟩
    replace hQA := bt hQA_8 hb14
    replace xxA := xxA_9.below hb14 xxA_9.lt
    replace xxAk := blk5 xxA
    replace zzA := zzA_10.below hb14 zzA_10.lt
    replace zzAk := blk2 zzA
    replace yyA := yyA_11.below hb14 yyA_11.lt
    replace yyAk := blk2 yyA
    replace cA := cA_12.below hb14 cA_12.lt
    replace cAk := blk5 cA
    replace cAkf := cA.frozen
    replace i1cA := i1cA_13.below hb14
    replace i9 := i9_14.below hb14
    clear hQA_8 xxAk_9 xxA_9 zzAk_10 zzA_10 yyAk_11 yyA_11 cAk_12 cAkf_12 cA_12 i1cA_13 i9_14
    have o10c := o10 gc gl2 o9c
    clear o10
    have gl4 := (cA).lt
    have h14 := (hQA).size
    have hQA_15 := below_set5 hQA (g := gc) (by omega) (.string (bs Z.data)) (.slice p9.a Z.cache.length p9.c) (.int .i64 Z.fuse) (.bool Z.off) (.slice q9.a Z.bad.length q9.c)
    have xxA_16 := blk_off5 xxA (g := gc) (by omega) (.string (bs Z.data)) (.slice p9.a Z.cache.length p9.c) (.int .i64 Z.fuse) (.bool Z.off) (.slice q9.a Z.bad.length q9.c)
    have xxAk_16 := blk5 xxA_16
    have zzA_17 := blk_off5 zzA (g := gc) (by omega) (.string (bs Z.data)) (.slice p9.a Z.cache.length p9.c) (.int .i64 Z.fuse) (.bool Z.off) (.slice q9.a Z.bad.length q9.c)
    have zzAk_17 := blk2 zzA_17
    have yyA_18 := blk_off5 yyA (g := gc) (by omega) (.string (bs Z.data)) (.slice p9.a Z.cache.length p9.c) (.int .i64 Z.fuse) (.bool Z.off) (.slice q9.a Z.bad.length q9.c)
    have yyAk_18 := blk2 yyA_18
    have cA_19 := blk_set5 cA (.string (bs Z.data)) (.slice p9.a Z.cache.length p9.c) (.int .i64 Z.fuse) (.bool Z.off) (.slice q9.a Z.bad.length q9.c)
    have cAk_19 := blk5 cA_19
    have cAkf_19 := cA_19.frozen
    have i1cA_20 := i1cA.off5 (g := gc) (by first | assumption | omega) (.string (bs Z.data)) (.slice p9.a Z.cache.length p9.c) (.int .i64 Z.fuse) (.bool Z.off) (.slice q9.a Z.bad.length q9.c)
    have i10_21 := i10.off5 (g := gc) (by first | assumption | omega) (.string (bs Z.data)) (.slice p9.a Z.cache.length p9.c) (.int .i64 Z.fuse) (.bool Z.off) (.slice q9.a Z.bad.length q9.c)
    have hQA_22 := hQA_15.alloc hQA_15.size (.cells #[.int .u64 zs, .int .i64 zt] 72)
    have xxA_23 := xxA_16.alloc (.cells #[.int .u64 zs, .int .i64 zt] 72)
    have xxAk_23 := blk5 xxA_23
    have zzA_24 := zzA_17.alloc (.cells #[.int .u64 zs, .int .i64 zt] 72)
    have zzAk_24 := blk2 zzA_24
    have yyA_25 := yyA_18.alloc (.cells #[.int .u64 zs, .int .i64 zt] 72)
    have yyAk_25 := blk2 yyA_25
    have cA_26 := cA_19.alloc (.cells #[.int .u64 zs, .int .i64 zt] 72)
    have cAk_26 := blk5 cA_26
    have cAkf_26 := cA_26.frozen
    have i1cA_27 := i1cA_20.below ((Below.refl _ _).alloc (Nat.le_refl _) (.cells #[.int .u64 zs, .int .i64 zt] 72))
    have i10_28 := i10_21.below ((Below.refl _ _).alloc (Nat.le_refl _) (.cells #[.int .u64 zs, .int .i64 zt] 72))
    go_wp2_with fail
    generalize ((((((w14.setCell ⟨gc, 0, none⟩ (.string (bs Z.data))).setCell ⟨gc, 1, none⟩ (.slice p9.a Z.cache.length p9.c)).setCell ⟨gc, 2, none⟩ (.int .i64 Z.fuse)).setCell ⟨gc, 3, none⟩ (.bool Z.off)).setCell ⟨gc, 4, none⟩ (.slice q9.a Z.bad.length q9.c)).alloc (.cells #[.int .u64 zs, .int .i64 zt] 72)) = V19 at hQA_22 xxA_23 xxAk_23 zzA_24 zzAk_24 yyA_25 yyAk_25 cA_26 cAk_26 cAkf_26 i1cA_27 i10_28 ⊢
    clear hQA_15 xxAk_16 xxA_16 zzAk_17 zzA_17 yyAk_18 yyA_18 cAk_19 cAkf_19 cA_19 i1cA_20 i10_21 hQA xxA zzA yyA cA i1cA i10 xxAk zzAk yyAk cAk cAkf
    have hQA := hQA_22
    have xxA := xxA_23
    have xxAk := xxAk_23
    have zzA := zzA_24
    have zzAk := zzAk_24
    have yyA := yyA_25
    have yyAk := yyAk_25
    have cA := cA_26
    have cAk := cAk_26
    have cAkf := cAkf_26
    have i1cA := i1cA_27
    have i10 := i10_28
    clear hQA_22 xxA_23 xxAk_23 zzA_24 zzAk_24 yyA_25 yyAk_25 cA_26 cAk_26 cAkf_26 i1cA_27 i10_28
    have X7 := ext5 cA
    have X8 := ext5 xxA
    have hfitZ := fun (W : World) (h : IsDk W Z p9 q9) => r1_fit Z p9 q9 W h (by obtain ⟨_, _, _, h4, _⟩ := Dk.fit_parts Hzf.out; omega)
    rw [Hzf.out] at hfitZ
    have hszZ := fun (W : World) => r1_size Z p9 q9 hzl W
    rw [Hzs.out] at hszZ
    have F4 := fun e : Ext V19 => hfitZ e.world (i10.below e.below)
    have F5 := fun e : Ext V19 => hszZ e.world
    have F6 := fun e : Ext V19 => hszd e.world
    refine wp_region_ext mixed (by kernel_rfl) ?_
    repeat (go_big_quiet_step (((first | (go_at_call 51; with_reducible exact ext_of (F4 _)) | (go_at_call 52; with_reducible exact ext_of (F5 _)) | (go_at_call 52; with_reducible exact ext_of (F6 _))))))
    refine wpQuiet_nil ?_
    rintro W19 ⟨pq_, hpq_⟩
    have hW19 := pq_.below
    rw [← hpq_] at hW19
    clear hpq_ pq_
    have hQB0 := bt hQA hW19
    have xxB := (xxA).below hW19 (xxA).lt
    have yyB := (yyA).below hW19 (yyA).lt
    have cB := (cA).below hW19 (cA).lt
    have zzB := (zzA).below hW19 (zzA).lt
    have i10B := (i10).below hW19
    have i1cB := (i1cA).below hW19
    have hQB := hQB0
    have xxBk := blk5 xxB
    have yyBk := blk2 yyB
    have cBk := blk5 cB
    have cBkf := cB.frozen
    have zzBk := blk2 zzB
    go_wp2_with fail
    go_at_call 52
    refine ((hszd _)).mono ?_
    rintro e wl ⟨rfl, hbl⟩
    replace hQB := bt hQB hbl
    replace xxB := xxB.below hbl xxB.lt
    replace xxBk := blk5 xxB
    replace yyB := yyB.below hbl yyB.lt
    replace yyBk := blk2 yyB
    replace cB := cB.below hbl cB.lt
    replace cBk := blk5 cB
    replace cBkf := cB.frozen
    replace zzB := zzB.below hbl zzB.lt
    replace zzBk := blk2 zzB
    replace i10B := i10B.below hbl
    replace i1cB := i1cB.below hbl
    obtain ⟨PA, hPA⟩ : ∃ P : Prop, P = ∀ k : Nat, k < n → (k : Int) ∈ M.targets → Z.sees k = M.data.getD (M.targets.idxOf (k : Int)) [] := ⟨_, rfl⟩
    obtain ⟨PB, hPB⟩ : ∃ P : Prop, P = (12 ≠ (0 : Int) ∧ ∀ k : Nat, k < n → (k : Int) ∈ M.targets → Z.sees k = D1.sees k) := ⟨_, rfl⟩
    have hnD : (⟨dat, [], fus, false, []⟩ : Dk).sz = n := by rw [← HF.out.sz]; exact Hn.out
    have Hor := hid (show PA ∨ PB by rw [hPA, hPB, ← hnD]; exact Hzn.out)
    have Hsame := hid (show ∀ k : Nat, k < n → ¬ (6 ≤ k ∧ k < 87) → (k : Int) ∉ M.targets → Z.sees k = D1.sees k by rw [← hnD]; exact Hzo.out)
    have HPA := hid hPA
    have HPB := hid hPB
    have Hn24 := hid (show n ≤ 1024 by rw [← Hn.out]; exact (Dk.fit_parts HF.out.quiet.fit).2.1)
    have Hl1 := hid (show D1.data.length = D1.sz * 64 from (Dk.fit_parts HF.out.quiet.fit).2.2.1)
    have Hlz := hid (show Z.data.length = Z.sz * 64 from (Dk.fit_parts Hzf.out).2.2.1)
    have xxL := xxB
    have ccL := cB
    have yyL := yyB
    have i1L := i1cB
    have izL := i10B
    have HBL := hid hQB
    have HMd := hid (fun (W : World) (hW : Below wl.heap.size wl W) => (HM.out.below (bt HBL.out hW)).data)
    have hfind := fun (W : World) (hW : Below wl.heap.size wl W) (k : Int) => r5_find M ⟨C1, c1⟩ ⟨C2, c2⟩ k W (HM.out.below (bt HBL.out hW)) (by have := HO2.out.2.2.1; omega)
    clear hPA hPB hnD Hzn Hzo xxB xxBk cB cBk cBkf yyB yyBk i1cB i10B hQB zzB zzBk
    go_wp2_with fail
    go_loopw [23, 24, 161] (fun o f k W => ∃ i : Nat, i ≤ n ∧ k = .int .i64 i ∧ ∃ a b : Bool, o = .bool a ∧ f = .bool b ∧ Hid (PA → b = true) ∧ Hid (PB → a = true) ∧ Below wl.heap.size wl W) (fun _ _ k _ => n - (intOf k).toNat)
    case atStart => exact ⟨0, Nat.zero_le _, rfl, true, true, rfl, rfl, hid (fun _ => rfl), hid (fun _ => rfl), Below.refl _ _⟩
    case round =>
      obtain ⟨i, hi, rfl, a, b, rfl, rfl, hA, hB', hb⟩ := hrel
      by_cases hlt : i < n
      · have hbW := bt HBL.out hb
        have hi24 : (i : Int) < 1024 := by have := Hn24.out; omega
        have xw := xxL.below hb xxL.lt
        have cw := ccL.below hb ccL.lt
        have yw := yyL.below hb yyL.lt
        have xwk := blk5 xw
        have cwk := blk5 cw
        have ywk := blk2 yw
        have i1w := i1L.below hb
        have izw := izL.below hb
        by_cases h6 : (6 : Int) ≤ (i : Int)
        · have d6 : decide ((6 : Int) ≤ (i : Int)) = true := decide_eq_true h6
          by_cases h87 : (i : Int) < 87
          · have d87 : decide ((i : Int) < 87) = true := decide_eq_true h87
            go_wp2_with fail
            go_roundw
            case rel => exact ⟨i + 1, by omega, by go_num, a, b, rfl, rfl, hA, hB', hb⟩
            case measure => simp [intOf]; omega
          · have d87 : decide ((i : Int) < 87) = false := decide_eq_false h87
            have hj : ¬ (6 ≤ i ∧ i < 87) := by omega
            have hth1 : D1.there (i : Int) = true := by rw [there_iff', Hn.out]; omega
            have hthz : Z.there (i : Int) = true := by rw [there_iff', Hzs.out]; omega
            have S1 := fun e : Ext wr => r1_sees D1 p1 q1 e.world (i1w.below e.below) (i : Int) hth1 Hl1.out
            have S2 := fun e : Ext wr => r1_sees Z p9 q9 e.world (izw.below e.below) (i : Int) hthz Hlz.out
            have Hsi := hid (Hsame.out i hlt hj)
            have HPAi := hid (fun (h : PA) => (HPA.out ▸ h) i hlt)
            have HPBi := hid (fun (h : PB) => (HPB.out ▸ h).2 i hlt)
            clear hj hth1 hthz
            generalize D1.sees (i : Int) = s at *
            generalize Z.sees (i : Int) = r at *
            have X9 := ext5 xw
            have X10 := ext5 cw
            go_wp2_with fail
            refine wp_region_ext mixed (by kernel_rfl) ?_
            repeat (go_big_quiet_step (((first | (go_at_call 53; with_reducible exact ext_of (S1 _)) | (go_at_call 53; with_reducible exact ext_of (S2 _))))))
            refine wpQuiet_nil ?_
            rintro W26 ⟨pq_, hpq_⟩
            have h26 := pq_.below
            rw [← hpq_] at h26
            clear hpq_ pq_
            have hb26 := bt hb h26
            have yw2 := yw.below h26 yw.lt
            have yw2k := blk2 yw2
            have hfi := hfind W26 hb26 (i : Int)
            clear S1 S2 X9 X10 xw cw xwk cwk i1w izw yw ywk
            by_cases hm : (i : Int) ∈ M.targets
            · obtain ⟨j, hj, hfe, _, hix⟩ := Pn.find_in hm
              rw [hfe] at hfi
              have hjd : j < M.data.length := by have := HO2.out.2.1; omega
              have HFr := hid (fun (h : PA) => show r = M.data[j] by rw [HPAi.out h hm, hix, List.getD_eq_getElem?_getD, List.getElem?_eq_getElem hjd]; rfl)
              have HO := hid (fun (h : PB) => HPBi.out h hm)
              have dj : decide ((j : Int) < 0) = false := decide_eq_false (by omega)
              go_wp2_with fail
              go_at_call 31
              refine hfi.mono ?_
              rintro e W27 ⟨rfl, h27⟩
              have hb30 := bt hb26 h27
              have yw3 := yw2.below h27 yw2.lt
              have yw3k := blk2 yw3
              have X11 := ext2 yw3
              obtain ⟨db, dof, e1, ct⟩ := (HMd.out _ hb30).str hjd
              have e1' : C2 = some ⟨db, dof, none⟩ := e1
              subst e1'
              replace ct := ct j hjd
              have X12 : ∀ e : Ext W27, e.world.cell? _ = _ := fun e => e.cell ct
              have hjl : ¬ M.data.length ≤ j := by omega
              have hjl2 : (0 : Int) ≤ (j : Int) := by omega
              have hjl3 : (j : Int) < (M.data.length : Int) := by omega
              clear e1 hfe hix yw2 yw2k hfi HPAi HPBi Hsi hm
              generalize M.data[j] = t at *
              rcases a with _ | _ <;> rcases b with _ | _
              · have hab := trivial
                go_wp2_with fail
                refine wp_region_ext mixed (by kernel_rfl) ?_
                repeat (go_big_quiet_step ((fail)))
                refine wpQuiet_nil ?_
                rintro W31 ⟨pq_, hpq_⟩
                have h31 := pq_.below
                rw [← hpq_] at h31
                clear hpq_ pq_
                have hb31 := bt hb30 h31
                go_wp2_with fail
                go_roundw
                case rel => exact ⟨i + 1, by omega, by go_num, _, _, rfl, rfl, hid (fun h => Bool.noConfusion (hA.out h)), hid (fun h => Bool.noConfusion (hB'.out h)), hb31⟩
                case measure => simp [intOf]; omega
              · have hab := trivial
                go_wp2_with fail
                refine wp_region_ext mixed (by kernel_rfl) ?_
                repeat (go_big_quiet_step ((fail)))
                refine wpQuiet_nil ?_
                rintro W31 ⟨pq_, hpq_⟩
                have h31 := pq_.below
                rw [← hpq_] at h31
                clear hpq_ pq_
                have hb31 := bt hb30 h31
                go_wp2_with fail
                go_roundw
                case rel => exact ⟨i + 1, by omega, by go_num, _, _, rfl, rfl, hid (fun h => by have := HFr.out h; simpa using this), hid (fun h => Bool.noConfusion (hB'.out h)), hb31⟩
                case measure => simp [intOf]; omega
              · have hab := trivial
                go_wp2_with fail
                refine wp_region_ext mixed (by kernel_rfl) ?_
                repeat (go_big_quiet_step ((fail)))
                refine wpQuiet_nil ?_
                rintro W31 ⟨pq_, hpq_⟩
                have h31 := pq_.below
                rw [← hpq_] at h31
                clear hpq_ pq_
                have hb31 := bt hb30 h31
                go_wp2_with fail
                go_roundw
                case rel => exact ⟨i + 1, by omega, by go_num, _, _, rfl, rfl, hid (fun h => Bool.noConfusion (hA.out h)), hid (fun h => by have := HO.out h; simpa using this), hb31⟩
                case measure => simp [intOf]; omega
              · have hab := trivial
                go_wp2_with fail
                refine wp_region_ext mixed (by kernel_rfl) ?_
                repeat (go_big_quiet_step ((fail)))
                refine wpQuiet_nil ?_
                rintro W31 ⟨pq_, hpq_⟩
                have h31 := pq_.below
                rw [← hpq_] at h31
                clear hpq_ pq_
                have hb31 := bt hb30 h31
                go_wp2_with fail
                go_roundw
                case rel => exact ⟨i + 1, by omega, by go_num, _, _, rfl, rfl, hid (fun h => by have := HFr.out h; simpa using this), hid (fun h => by have := HO.out h; simpa using this), hb31⟩
                case measure => simp [intOf]; omega
            · have hfe := Pn.find_out hm
              rw [hfe] at hfi
              have hsr : r = s := Hsi.out hm
              subst hsr
              clear HPAi HPBi Hsi hm hfe
              go_wp2_with fail
              go_at_call 31
              refine hfi.mono ?_
              rintro e W27 ⟨rfl, h27⟩
              have hb30 := bt hb26 h27
              go_wp2_with fail
              go_roundw
              case rel => exact ⟨i + 1, by omega, by go_num, a, b, rfl, rfl, hA, hB', hb30⟩
              case measure => simp [intOf]; omega
        · have d6 : decide ((6 : Int) ≤ (i : Int)) = false := decide_eq_false h6
          have hj : ¬ (6 ≤ i ∧ i < 87) := by omega
          have hth1 : D1.there (i : Int) = true := by rw [there_iff', Hn.out]; omega
          have hthz : Z.there (i : Int) = true := by rw [there_iff', Hzs.out]; omega
          have S1 := fun e : Ext wr => r1_sees D1 p1 q1 e.world (i1w.below e.below) (i : Int) hth1 Hl1.out
          have S2 := fun e : Ext wr => r1_sees Z p9 q9 e.world (izw.below e.below) (i : Int) hthz Hlz.out
          have Hsi := hid (Hsame.out i hlt hj)
          have HPAi := hid (fun (h : PA) => (HPA.out ▸ h) i hlt)
          have HPBi := hid (fun (h : PB) => (HPB.out ▸ h).2 i hlt)
          clear hj hth1 hthz
          generalize D1.sees (i : Int) = s at *
          generalize Z.sees (i : Int) = r at *
          have X9 := ext5 xw
          have X10 := ext5 cw
          go_wp2_with fail
          refine wp_region_ext mixed (by kernel_rfl) ?_
          repeat (go_big_quiet_step (((first | (go_at_call 53; with_reducible exact ext_of (S1 _)) | (go_at_call 53; with_reducible exact ext_of (S2 _))))))
          refine wpQuiet_nil ?_
          rintro W26 ⟨pq_, hpq_⟩
          have h26 := pq_.below
          rw [← hpq_] at h26
          clear hpq_ pq_
          have hb26 := bt hb h26
          have yw2 := yw.below h26 yw.lt
          have yw2k := blk2 yw2
          have hfi := hfind W26 hb26 (i : Int)
          clear S1 S2 X9 X10 xw cw xwk cwk i1w izw yw ywk
          by_cases hm : (i : Int) ∈ M.targets
          · obtain ⟨j, hj, hfe, _, hix⟩ := Pn.find_in hm
            rw [hfe] at hfi
            have hjd : j < M.data.length := by have := HO2.out.2.1; omega
            have HFr := hid (fun (h : PA) => show r = M.data[j] by rw [HPAi.out h hm, hix, List.getD_eq_getElem?_getD, List.getElem?_eq_getElem hjd]; rfl)
            have HO := hid (fun (h : PB) => HPBi.out h hm)
            have dj : decide ((j : Int) < 0) = false := decide_eq_false (by omega)
            go_wp2_with fail
            go_at_call 31
            refine hfi.mono ?_
            rintro e W27 ⟨rfl, h27⟩
            have hb30 := bt hb26 h27
            have yw3 := yw2.below h27 yw2.lt
            have yw3k := blk2 yw3
            have X11 := ext2 yw3
            obtain ⟨db, dof, e1, ct⟩ := (HMd.out _ hb30).str hjd
            have e1' : C2 = some ⟨db, dof, none⟩ := e1
            subst e1'
            replace ct := ct j hjd
            have X12 : ∀ e : Ext W27, e.world.cell? _ = _ := fun e => e.cell ct
            have hjl : ¬ M.data.length ≤ j := by omega
            have hjl2 : (0 : Int) ≤ (j : Int) := by omega
            have hjl3 : (j : Int) < (M.data.length : Int) := by omega
            clear e1 hfe hix yw2 yw2k hfi HPAi HPBi Hsi hm
            generalize M.data[j] = t at *
            rcases a with _ | _ <;> rcases b with _ | _
            · have hab := trivial
              go_wp2_with fail
              refine wp_region_ext mixed (by kernel_rfl) ?_
              repeat (go_big_quiet_step ((fail)))
              refine wpQuiet_nil ?_
              rintro W31 ⟨pq_, hpq_⟩
              have h31 := pq_.below
              rw [← hpq_] at h31
              clear hpq_ pq_
              have hb31 := bt hb30 h31
              go_wp2_with fail
              go_roundw
              case rel => exact ⟨i + 1, by omega, by go_num, _, _, rfl, rfl, hid (fun h => Bool.noConfusion (hA.out h)), hid (fun h => Bool.noConfusion (hB'.out h)), hb31⟩
              case measure => simp [intOf]; omega
            · have hab := trivial
              go_wp2_with fail
              refine wp_region_ext mixed (by kernel_rfl) ?_
              repeat (go_big_quiet_step ((fail)))
              refine wpQuiet_nil ?_
              rintro W31 ⟨pq_, hpq_⟩
              have h31 := pq_.below
              rw [← hpq_] at h31
              clear hpq_ pq_
              have hb31 := bt hb30 h31
              go_wp2_with fail
              go_roundw
              case rel => exact ⟨i + 1, by omega, by go_num, _, _, rfl, rfl, hid (fun h => by have := HFr.out h; simpa using this), hid (fun h => Bool.noConfusion (hB'.out h)), hb31⟩
              case measure => simp [intOf]; omega
            · have hab := trivial
              go_wp2_with fail
              refine wp_region_ext mixed (by kernel_rfl) ?_
              repeat (go_big_quiet_step ((fail)))
              refine wpQuiet_nil ?_
              rintro W31 ⟨pq_, hpq_⟩
              have h31 := pq_.below
              rw [← hpq_] at h31
              clear hpq_ pq_
              have hb31 := bt hb30 h31
              go_wp2_with fail
              go_roundw
              case rel => exact ⟨i + 1, by omega, by go_num, _, _, rfl, rfl, hid (fun h => Bool.noConfusion (hA.out h)), hid (fun h => by have := HO.out h; simpa using this), hb31⟩
              case measure => simp [intOf]; omega
            · have hab := trivial
              go_wp2_with fail
              refine wp_region_ext mixed (by kernel_rfl) ?_
              repeat (go_big_quiet_step ((fail)))
              refine wpQuiet_nil ?_
              rintro W31 ⟨pq_, hpq_⟩
              have h31 := pq_.below
              rw [← hpq_] at h31
              clear hpq_ pq_
              have hb31 := bt hb30 h31
              go_wp2_with fail
              go_roundw
              case rel => exact ⟨i + 1, by omega, by go_num, _, _, rfl, rfl, hid (fun h => by have := HFr.out h; simpa using this), hid (fun h => by have := HO.out h; simpa using this), hb31⟩
              case measure => simp [intOf]; omega
          · have hfe := Pn.find_out hm
            rw [hfe] at hfi
            have hsr : r = s := Hsi.out hm
            subst hsr
            clear HPAi HPBi Hsi hm hfe
            go_wp2_with fail
            go_at_call 31
            refine hfi.mono ?_
            rintro e W27 ⟨rfl, h27⟩
            have hb30 := bt hb26 h27
            go_wp2_with fail
            go_roundw
            case rel => exact ⟨i + 1, by omega, by go_num, a, b, rfl, rfl, hA, hB', hb30⟩
            case measure => simp [intOf]; omega
      · obtain rfl : i = n := by omega
        have HBE := bt HBL.out hb
        cases b with
        | true =>
          go_wp2_with fail
          go_at_call 32
          refine (awake07 _).mono ?_
          rintro e w40 ⟨rfl, hb40⟩
          go_wp2_with fail
          go_ret
          exact ⟨rfl, bt HBE hb40⟩
        | false =>
          have hPB : PB := Hor.out.resolve_left (fun h => Bool.noConfusion (hA.out h))
          have ha := hB'.out hPB
          subst ha
          clear hPB
          go_wp2_with fail
          go_at_call 32
          refine (awake07 _).mono ?_
          rintro e w40 ⟨rfl, hb40⟩
          go_wp2_with fail
          go_ret
          exact ⟨rfl, bt HBE hb40⟩
end Go.Proofs.YtplgmlcoeehnfaaGreat.jourCrash
