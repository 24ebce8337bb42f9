/- Package super: its reading. -/
import Derived.Test.YtkiokdphjfkocaaDoorSuper3
import Derived.Test.YtkiokdphjfkocaaDoorQTail
set_option linter.unusedVariables false
namespace Go.Proofs.YtkiokdphjfkocaaDoor
open Go.RowKit Go.Shelf
attribute [local go_sem] bs_mk bs_append bs_extract bs_size bs_toList bs_get
/-- All but block G stands as it stood. -/
def Onl (G : Nat) (W W' : World) : Prop := (∀ B t cs, B ≠ G → Blk W B t cs → Blk W' B t cs) ∧ Below G W W'
theorem Onl.refl (G : Nat) (W : World) : Onl G W W := ⟨fun _ _ _ _ h => h, Below.refl _ _⟩
theorem Onl.trans {G : Nat} {a b c : World} (h : Onl G a b) (k : Onl G b c) : Onl G a c := ⟨fun B t cs hn hb => k.1 B t cs hn (h.1 B t cs hn hb), h.2.trans k.2⟩
theorem Onl.of {G : Nat} {W W' : World} (hG : G < W.heap.size) (h : Below W.heap.size W W') : Onl G W W' := ⟨fun B t cs _ hb => hb.below h hb.lt, h.mono (Nat.le_of_lt hG)⟩
theorem Onl.set2 {G : Nat} {W W' : World} (h : Onl G W W') (u v : Value) : Onl G W ((W'.setCell ⟨G, 0, none⟩ u).setCell ⟨G, 1, none⟩ v) :=
  ⟨fun B t cs hn hb => blk_off2 (h.1 B t cs hn hb) hn u v, below_set2 h.2 (Nat.le_refl _) u v⟩
theorem s_num (s : List UInt8) (hs : s.length = 64) (k : Nat) (hk : k ≤ 60) (B : Nat) (t : TypeId) (w : World) (hB : Blk w B t #[.string (bs s)]) :
    Calls Tryd.prog 33 #[.int .i64 k, .pointer (some ⟨B, 0, none⟩)] w fun x w' => x = .returned (.int .i64 (un ((s.drop k).take 2) : Nat)) ∧ Below w.heap.size w w' := by
  have y0 := blk1 hB
  have h64 : (s.length : Int) = 64 := by omega
  have e64 : s.take 64 = s := List.take_of_length_le (by omega)
  have hT1 := fun W => take_ok (s.drop k) (by rw [List.length_drop]; unfold maxLen; omega) 2 (by omega) (by omega) (by rw [List.length_drop]; omega) W
  have hgl := un_bound (s.drop k) 2 (by omega)
  rw [show (2 : Int).toNat = 2 from rfl] at hT1
  have hwr := i64w (x := (un ((s.drop k).take 2) : Nat)) (by omega)
  generalize un ((s.drop k).take 2) = n at *
  generalize (s.drop k).drop 2 = r1 at *
  rw [show s.drop k = (s.take 64).drop k by rw [e64]] at hT1
  clear e64
  go_enter Tryd.func33, Tryd.ntmps33
  go_wp2_with fail
  go_at_call 34
  refine (hT1 _).mono ?_
  rintro e w1 ⟨rfl, hb1⟩
  go_wp2_with fail
  go_ret
  exact ⟨rfl, hb1⟩
theorem s_c5 (s : List UInt8) (hs : s.length = 64) (B : Nat) (t : TypeId) (w : World) (hB : Blk w B t #[.string (bs s)]) :
    Calls Tryd.prog 39 #[.pointer (some ⟨B, 0, none⟩)] w fun x w' => x = .returned (.bool (ck3 s)) ∧ Below w.heap.size w w' := by
  have h64 : (s.length : Int) = 64 := by omega
  have l8 : (s.take 8).length ≤ 140737488355328 := by rw [List.length_take]; omega
  have hO := fun e : Ext w => crc_of (s.take 8) l8 e.world
  have hC := fun e : Ext w => crc_bytes (crcOf (s.take 8)) (crcMore_lt _ _) e.world
  have K1 := ext1 hB
  have e3 : (be 4 (crcOf (s.take 8)) == (s.take 12).drop 8) = ck3 s := by rw [beq_dec]; rfl
  generalize ck3 s = b at *
  go_enter Tryd.func39, Tryd.ntmps39
  go_wp2_with fail
  refine wp_region_ext mixed (by kernel_rfl) ?_
  repeat (go_big_quiet_step ((first | (go_at_call 26; with_reducible exact ext_of (hO _)) | (go_at_call 25; with_reducible exact ext_of (hC _)))))
  refine wpQuiet_nil ?_
  rintro w1 ⟨pq_, hpq_⟩
  have hb1 := pq_.below
  rw [← hpq_] at hb1
  clear hpq_ pq_
  go_wp2_with fail
  go_ret
  exact ⟨rfl, hb1⟩
theorem s_c6 (s : List UInt8) (hs : s.length = 64) (B F G : Nat) (t tf : TypeId) (a b : Value) (w : World) (hB : Blk w B t #[.string (bs s)]) (hF : Blk w F tf #[.func (.func 33) #[] #[.pointer (some ⟨B, 0, none⟩)]]) (hG : Blk w G 23 #[a, b]) :
    Calls Tryd.prog 40 #[.pointer (some ⟨F, 0, none⟩), .pointer (some ⟨G, 0, none⟩)] w fun x w' => x = .returned (.bool (ck4 s)) ∧ Onl G w w' ∧ Blk w' G 23 #[.int .i64 (gOf s), .int .i64 (hOf s)] := by
  have n4 := fun e : Ext w => s_num s hs 4 (by omega) B t e.world (hB.below e.below hB.lt)
  have n6 := fun e : Ext w => s_num s hs 6 (by omega) B t e.world (hB.below e.below hB.lt)
  have hgo : un ((s.drop 4).take 2) = gOf s := rfl
  have hho : un ((s.drop 6).take 2) = hOf s := rfl
  rw [hgo] at n4
  rw [hho] at n6
  have hf := fun W => s_fit (gOf s) (hOf s) W
  have h4 : geomOk (gOf s) (hOf s) = ck4 s := rfl
  rw [h4] at hf
  clear hgo hho h4
  generalize ck4 s = c at *
  generalize gOf s = g at *
  generalize hOf s = h at *
  have K1 := ext1 hF
  go_enter Tryd.func40, Tryd.ntmps40
  go_wp2_with fail
  refine wp_region_ext_tail 5 mixed (by kernel_rfl) (fun _ _ _ d _ h => by cases d <;> exact h) ?_
  simp only [List.take_succ_cons, List.take_zero, List.drop_succ_cons, List.drop_zero]
  repeat (go_big_quiet_step ((first | (go_at_call 33; with_reducible exact ext_of (n4 _)) | (go_at_call 33; with_reducible exact ext_of (n6 _)))))
  refine wpQuiet_nil ?_
  rintro w1 ⟨pq_, hpq_⟩
  have hb1 := pq_.below
  rw [← hpq_] at hb1
  clear hpq_ pq_
  have g1 := hG.below hb1 hG.lt
  have f1 := g1.frozen
  have xk1 := blk2 g1
  have o2 := (Onl.of hG.lt hb1).set2 (.int .i64 g) (.int .i64 h)
  have g2 := blk_set2 g1 (.int .i64 g) (.int .i64 h)
  have xk2 := blk2 g2
  have g2l := g2.lt
  go_wp2_with fail
  go_at_call 10
  refine (hf _).mono ?_
  rintro e w3 ⟨rfl, hb3⟩
  go_wp2_with fail
  go_ret
  exact ⟨rfl, o2.trans (Onl.of g2l hb3), g2.below hb3 g2l⟩
theorem s_c7 (s : List UInt8) (hs : s.length = 64) (B : Nat) (t : TypeId) (w : World) (hB : Blk w B t #[.string (bs s)]) :
    Calls Tryd.prog 41 #[.pointer (some ⟨B, 0, none⟩)] w fun x w' => x = .returned (.bool (ck5 s)) ∧ Below w.heap.size w w' := by
  have h64 : (s.length : Int) = 64 := by omega
  have y0 := blk1 hB
  have e64 : s.take 64 = s := List.take_of_length_le (by omega)
  have hT := fun W => Tryd.strings_Trim_one (bs (s.drop 12)) 0 (by decide) W (by rw [bs_size, List.length_drop]; omega)
  rw [bs_list] at hT
  have e5 : (Lib.trimB (s.drop 12) 0 == []) = ck5 s := by rw [beq_dec]; rfl
  have e5' : (Lib.trimB (s.drop 12) 0).isEmpty = ck5 s := by rw [← e5]; cases Lib.trimB (s.drop 12) 0 <;> rfl
  generalize Lib.trimB (s.drop 12) 0 = r at *
  generalize ck5 s = b at *
  rw [show s.drop 12 = (s.take 64).drop 12 by rw [e64]] at hT
  clear e64
  go_enter Tryd.func41, Tryd.ntmps41
  go_wp2_with fail
  go_at_call 42
  refine (hT _).mono ?_
  rintro e w1 ⟨rfl, hw1⟩
  have hb1 : Below w.heap.size w w1 := by
    rcases hw1 with rfl | rfl
    · exact Below.refl _ _
    · exact (Below.refl _ _).drew
  clear hw1
  go_wp2_with fail
  go_ret
  exact ⟨rfl, hb1⟩
theorem s_k1 (s : List UInt8) (hs : s.length ≤ 9223372036854775807) (B P E : Nat) (tb tp te : TypeId) (er : Int) (w : World) (hB : Blk w B tb #[.string (bs s)])
    (hP : Blk w P tp #[.func (.func 36) #[] #[.pointer (some ⟨B, 0, none⟩)]]) (hE : Blk w E te #[.int .i64 er]) :
    Calls Tryd.prog 32 #[.pointer (some ⟨P, 0, none⟩), .pointer (some ⟨E, 0, none⟩)] w fun x w' => x = .returned (.int .i64 (if ck1 s then 0 else er)) ∧ Below w.heap.size w w' := by
  have hf := s_c3 s hs B tb w hB
  have hck : decide (s.length = 64) = ck1 s := rfl
  rw [hck] at hf
  clear hck
  have y0 := blk1 hP
  cases hk : ck1 s with
  | true =>
    rw [hk] at hf
    clear hk
    go_enter Tryd.func32, Tryd.ntmps32
    go_wp2_with fail
    refine hf.mono ?_
    rintro e w1 ⟨rfl, hb1⟩
    go_wp2_with fail
    go_ret
    exact ⟨rfl, hb1⟩
  | false =>
    rw [hk] at hf
    clear hk
    go_enter Tryd.func32, Tryd.ntmps32
    go_wp2_with fail
    refine hf.mono ?_
    rintro e w1 ⟨rfl, hb1⟩
    have y1 := blk1 (hE.below hb1 hE.lt)
    go_wp2_with fail
    go_ret
    exact ⟨rfl, hb1⟩
theorem s_k2 (s : List UInt8) (hs : s.length ≤ 9223372036854775807) (B P E : Nat) (tb tp te : TypeId) (er : Int) (w : World) (hB : Blk w B tb #[.string (bs s)])
    (hP : Blk w P tp #[.func (.func 37) #[] #[.pointer (some ⟨B, 0, none⟩)]]) (hE : Blk w E te #[.int .i64 er]) :
    Calls Tryd.prog 32 #[.pointer (some ⟨P, 0, none⟩), .pointer (some ⟨E, 0, none⟩)] w fun x w' => x = .returned (.int .i64 (if ck2 s then 0 else er)) ∧ Below w.heap.size w w' := by
  have hf := s_c4 s B tb w hB
  have hck : Lib.hasPrefix s magic4 = ck2 s := rfl
  rw [hck] at hf
  clear hck
  have y0 := blk1 hP
  cases hk : ck2 s with
  | true =>
    rw [hk] at hf
    clear hk
    go_enter Tryd.func32, Tryd.ntmps32
    go_wp2_with fail
    refine hf.mono ?_
    rintro e w1 ⟨rfl, hb1⟩
    go_wp2_with fail
    go_ret
    exact ⟨rfl, hb1⟩
  | false =>
    rw [hk] at hf
    clear hk
    go_enter Tryd.func32, Tryd.ntmps32
    go_wp2_with fail
    refine hf.mono ?_
    rintro e w1 ⟨rfl, hb1⟩
    have y1 := blk1 (hE.below hb1 hE.lt)
    go_wp2_with fail
    go_ret
    exact ⟨rfl, hb1⟩
theorem s_k3 (s : List UInt8) (hs : s.length = 64) (B P E : Nat) (tb tp te : TypeId) (er : Int) (w : World) (hB : Blk w B tb #[.string (bs s)])
    (hP : Blk w P tp #[.func (.func 39) #[] #[.pointer (some ⟨B, 0, none⟩)]]) (hE : Blk w E te #[.int .i64 er]) :
    Calls Tryd.prog 32 #[.pointer (some ⟨P, 0, none⟩), .pointer (some ⟨E, 0, none⟩)] w fun x w' => x = .returned (.int .i64 (if ck3 s then 0 else er)) ∧ Below w.heap.size w w' := by
  have hf := s_c5 s hs B tb w hB
  have hck : True := trivial
  skip
  clear hck
  have y0 := blk1 hP
  cases hk : ck3 s with
  | true =>
    rw [hk] at hf
    clear hk
    go_enter Tryd.func32, Tryd.ntmps32
    go_wp2_with fail
    refine hf.mono ?_
    rintro e w1 ⟨rfl, hb1⟩
    go_wp2_with fail
    go_ret
    exact ⟨rfl, hb1⟩
  | false =>
    rw [hk] at hf
    clear hk
    go_enter Tryd.func32, Tryd.ntmps32
    go_wp2_with fail
    refine hf.mono ?_
    rintro e w1 ⟨rfl, hb1⟩
    have y1 := blk1 (hE.below hb1 hE.lt)
    go_wp2_with fail
    go_ret
    exact ⟨rfl, hb1⟩
theorem s_k4 (s : List UInt8) (hs : s.length = 64) (B P E : Nat) (tb tp te : TypeId) (er : Int) (F G : Nat) (tf : TypeId) (a b : Value) (w : World) (hB : Blk w B tb #[.string (bs s)]) (hF : Blk w F tf #[.func (.func 33) #[] #[.pointer (some ⟨B, 0, none⟩)]]) (hG : Blk w G 23 #[a, b]) (hne : E ≠ G)
    (hP : Blk w P tp #[.func (.func 40) #[] #[.pointer (some ⟨F, 0, none⟩), .pointer (some ⟨G, 0, none⟩)]]) (hE : Blk w E te #[.int .i64 er]) :
    Calls Tryd.prog 32 #[.pointer (some ⟨P, 0, none⟩), .pointer (some ⟨E, 0, none⟩)] w fun x w' => x = .returned (.int .i64 (if ck4 s then 0 else er)) ∧ Onl G w w' ∧ Blk w' G 23 #[.int .i64 (gOf s), .int .i64 (hOf s)] := by
  have hf := s_c6 s hs B F G tb tf a b w hB hF hG
  have hck : True := trivial
  skip
  clear hck
  have y0 := blk1 hP
  cases hk : ck4 s with
  | true =>
    rw [hk] at hf
    clear hk
    go_enter Tryd.func32, Tryd.ntmps32
    go_wp2_with fail
    refine hf.mono ?_
    rintro e w1 ⟨rfl, o1, g1⟩
    go_wp2_with fail
    go_ret
    exact ⟨rfl, o1, g1⟩
  | false =>
    rw [hk] at hf
    clear hk
    go_enter Tryd.func32, Tryd.ntmps32
    go_wp2_with fail
    refine hf.mono ?_
    rintro e w1 ⟨rfl, o1, g1⟩
    have y1 := blk1 (o1.1 _ _ _ hne hE)
    go_wp2_with fail
    go_ret
    exact ⟨rfl, o1, g1⟩
theorem s_k5 (s : List UInt8) (hs : s.length = 64) (B P E : Nat) (tb tp te : TypeId) (er : Int) (w : World) (hB : Blk w B tb #[.string (bs s)])
    (hP : Blk w P tp #[.func (.func 41) #[] #[.pointer (some ⟨B, 0, none⟩)]]) (hE : Blk w E te #[.int .i64 er]) :
    Calls Tryd.prog 32 #[.pointer (some ⟨P, 0, none⟩), .pointer (some ⟨E, 0, none⟩)] w fun x w' => x = .returned (.int .i64 (if ck5 s then 0 else er)) ∧ Below w.heap.size w w' := by
  have hf := s_c7 s hs B tb w hB
  have hck : True := trivial
  skip
  clear hck
  have y0 := blk1 hP
  cases hk : ck5 s with
  | true =>
    rw [hk] at hf
    clear hk
    go_enter Tryd.func32, Tryd.ntmps32
    go_wp2_with fail
    refine hf.mono ?_
    rintro e w1 ⟨rfl, hb1⟩
    go_wp2_with fail
    go_ret
    exact ⟨rfl, hb1⟩
  | false =>
    rw [hk] at hf
    clear hk
    go_enter Tryd.func32, Tryd.ntmps32
    go_wp2_with fail
    refine hf.mono ?_
    rintro e w1 ⟨rfl, hb1⟩
    have y1 := blk1 (hE.below hb1 hE.lt)
    go_wp2_with fail
    go_ret
    exact ⟨rfl, hb1⟩
end Go.Proofs.YtkiokdphjfkocaaDoor
