/- PackBack: a number written is read, with what stands behind; a name, too: any number, any texts. The listed variables of unicode/utf8 start as the program's text lays them (a tied card). -/
import Derived.Test.YtnlimkboenciaaaDoorPackName
import Derived.Test.YtnlimkboenciaaaDoorPackAwake
import Derived.Test.YtnlimkboenciaaaDoorOpen
import Derived.Test.YtnlimkboenciaaaDoorCards
import Derived.Test.YtnlimkboenciaaaDoorTie
import Derived.ProofKit
import Derived.LaidMore
import Derived.Stop.Joined
import Derived.SevenTiedAt
import Derived.SizedLaws
set_option linter.unusedVariables false
namespace Go.Proofs.YtnlimkboenciaaaDoor.packBack
open Go.RowKit Go.Shelf Go.WideShapes Go.ChangeShapes Go.ChangeAt Go.Joins
open Go.ChangeMaps (open_string shut_string)
attribute [local go_sem] bs_mk bs_append bs_extract bs_size bs_toList bs_get

/-- A number of k bytes, written ahead of a text, is read. -/
theorem taken (k N : Nat) (h1 : 1 ≤ k) (h2 : k ≤ 8) (hN : N < 256 ^ k) (m : List UInt8) (hm : m.length ≤ 140737488355328) (w : World) :
    Calls Tryd.prog 4 #[.string (bs (be k N ++ m)), .int .i64 k] w fun e w' => e = .returned (.tuple #[.int .u64 N, .string (bs m), .int .i64 0]) ∧ Below w.heap.size w w' := by
  have := take_ok (be k N ++ m) (by rw [List.length_append, be_length]; unfold maxLen; omega) k (by omega) (by omega) (by rw [List.length_append, be_length]; omega) w
  rw [Int.toNat_natCast, take_be, drop_be, un_be, Nat.mod_eq_of_lt hN] at this
  exact this
set_option maxRecDepth 100000 in
set_option maxHeartbeats 4000000 in
theorem walk_k (n : Nat) (z : Int) (m s a b : List UInt8) (ea eb : Int) (K : Nat) (hK : (IntKind.u64.wrap z).tmod 8 = K) (hK8 : K < 8) (hn : n < 18446744073709551616) (hm : m.length ≤ 140737488355328) (hs : s.length ≤ 140737488355328)
    (hn1 : ∀ W, Calls Tryd.prog 6 #[.string (bs s)] W fun e w' => e = .returned (.tuple #[.string (bs a), .int .i64 ea]) ∧ Below W.heap.size W w')
    (hn2 : ∀ W, Calls Tryd.prog 7 #[.string (bs s)] W fun e w' => e = .returned (.tuple #[.string (bs b), .int .i64 eb]) ∧ Below W.heap.size W w')
    (hA : (ea = 0 ∧ a.length = 8 ∧ ∀ W, Calls Tryd.prog 7 #[.string (bs a)] W fun e w' => e = .returned (.tuple #[.string (bs s), .int .i64 0]) ∧ Below W.heap.size W w') ∨ ea = 19)
    (hB : (eb = 0 ∧ ∀ W, Calls Tryd.prog 6 #[.string (bs b)] W fun e w' => e = .returned (.tuple #[.string (bs s), .int .i64 0]) ∧ Below W.heap.size W w') ∨ ¬ eb = 0) (w : World) :
    Calls Tryd.prog 3 #[.int .u64 n, .int .i64 z, .string (bs m), .string (bs s)] w fun e w' => e = .returned (.bool true) ∧ Below w.heap.size w w' := by
  go_enter Tryd.func3, Tryd.ntmps3
  have h8 : K = 0 ∨ K = 1 ∨ K = 2 ∨ K = 3 ∨ K = 4 ∨ K = 5 ∨ K = 6 ∨ K = 7 := by omega
  rcases h8 with rfl | rfl | rfl | rfl | rfl | rfl | rfl | rfl
  · have hmod := hid (show ((n : Int) % 256) = ((n % 256 : Nat) : Int) by omega)
    have hN : n % 256 < 256 := by omega
    have hput := fun W => put_ok (n % 256) 1 (by omega) (by omega) (by omega) W
    have htk := fun W => taken 1 (n % 256) (by omega) (by omega) (by simpa using hN) m hm W
    have hbl := be_length 1 (n % 256)
    go_wp2_with fail
    rw [hmod.out]
    generalize n % 256 = N at *
    go_at_call 5
    refine (hput _).mono ?_
    rintro e w1 ⟨rfl, hb1⟩
    generalize be 1 N = B at *
    go_wp2_with fail
    go_at_call 4
    refine (htk _).mono ?_
    rintro e w2 ⟨rfl, hb2⟩
    have c2 := bt hb1 hb2
    go_wp2_with fail
    go_at_call 6
    refine (hn1 _).mono ?_
    rintro e w3 ⟨rfl, hb3⟩
    have c3 := bt c2 hb3
    rcases hA with ⟨rfl, hla, ht1⟩ | rfl
    · go_wp2_with fail
      go_at_call 7
      refine (ht1 _).mono ?_
      rintro e w4 ⟨rfl, hb4⟩
      have c4 := bt c3 hb4
      go_wp2_with fail
      go_at_call 7
      refine (hn2 _).mono ?_
      rintro e w5 ⟨rfl, hb5⟩
      have c5 := bt c4 hb5
      rcases hB with ⟨rfl, hn3⟩ | hB
      · go_wp2_with fail
        go_at_call 6
        refine (hn3 _).mono ?_
        rintro e w6 ⟨rfl, hb6⟩
        go_wp2_with fail
        go_at_call 8
        refine (awake03 _).mono ?_
        rintro e w7 ⟨rfl, hb7⟩
        go_wp2_with fail
        go_ret
        exact ⟨rfl, bt (bt c5 hb6) hb7⟩
      · go_wp2_with fail
        go_at_call 8
        refine (awake03 _).mono ?_
        rintro e w7 ⟨rfl, hb7⟩
        go_wp2_with fail
        go_ret
        exact ⟨rfl, bt c5 hb7⟩
    · go_wp2_with fail
      go_at_call 7
      refine (hn2 _).mono ?_
      rintro e w5 ⟨rfl, hb5⟩
      have c5 := bt c3 hb5
      rcases hB with ⟨rfl, hn3⟩ | hB
      · go_wp2_with fail
        go_at_call 6
        refine (hn3 _).mono ?_
        rintro e w6 ⟨rfl, hb6⟩
        go_wp2_with fail
        go_at_call 8
        refine (awake03 _).mono ?_
        rintro e w7 ⟨rfl, hb7⟩
        go_wp2_with fail
        go_ret
        exact ⟨rfl, bt (bt c5 hb6) hb7⟩
      · go_wp2_with fail
        go_at_call 8
        refine (awake03 _).mono ?_
        rintro e w7 ⟨rfl, hb7⟩
        go_wp2_with fail
        go_ret
        exact ⟨rfl, bt c5 hb7⟩
  · have hmod := hid (show ((n : Int) % 65536) = ((n % 65536 : Nat) : Int) by omega)
    have hN : n % 65536 < 65536 := by omega
    have hput := fun W => put_ok (n % 65536) 2 (by omega) (by omega) (by omega) W
    have htk := fun W => taken 2 (n % 65536) (by omega) (by omega) (by simpa using hN) m hm W
    have hbl := be_length 2 (n % 65536)
    go_wp2_with fail
    rw [hmod.out]
    generalize n % 65536 = N at *
    go_at_call 5
    refine (hput _).mono ?_
    rintro e w1 ⟨rfl, hb1⟩
    generalize be 2 N = B at *
    go_wp2_with fail
    go_at_call 4
    refine (htk _).mono ?_
    rintro e w2 ⟨rfl, hb2⟩
    have c2 := bt hb1 hb2
    go_wp2_with fail
    go_at_call 6
    refine (hn1 _).mono ?_
    rintro e w3 ⟨rfl, hb3⟩
    have c3 := bt c2 hb3
    rcases hA with ⟨rfl, hla, ht1⟩ | rfl
    · go_wp2_with fail
      go_at_call 7
      refine (ht1 _).mono ?_
      rintro e w4 ⟨rfl, hb4⟩
      have c4 := bt c3 hb4
      go_wp2_with fail
      go_at_call 7
      refine (hn2 _).mono ?_
      rintro e w5 ⟨rfl, hb5⟩
      have c5 := bt c4 hb5
      rcases hB with ⟨rfl, hn3⟩ | hB
      · go_wp2_with fail
        go_at_call 6
        refine (hn3 _).mono ?_
        rintro e w6 ⟨rfl, hb6⟩
        go_wp2_with fail
        go_at_call 8
        refine (awake03 _).mono ?_
        rintro e w7 ⟨rfl, hb7⟩
        go_wp2_with fail
        go_ret
        exact ⟨rfl, bt (bt c5 hb6) hb7⟩
      · go_wp2_with fail
        go_at_call 8
        refine (awake03 _).mono ?_
        rintro e w7 ⟨rfl, hb7⟩
        go_wp2_with fail
        go_ret
        exact ⟨rfl, bt c5 hb7⟩
    · go_wp2_with fail
      go_at_call 7
      refine (hn2 _).mono ?_
      rintro e w5 ⟨rfl, hb5⟩
      have c5 := bt c3 hb5
      rcases hB with ⟨rfl, hn3⟩ | hB
      · go_wp2_with fail
        go_at_call 6
        refine (hn3 _).mono ?_
        rintro e w6 ⟨rfl, hb6⟩
        go_wp2_with fail
        go_at_call 8
        refine (awake03 _).mono ?_
        rintro e w7 ⟨rfl, hb7⟩
        go_wp2_with fail
        go_ret
        exact ⟨rfl, bt (bt c5 hb6) hb7⟩
      · go_wp2_with fail
        go_at_call 8
        refine (awake03 _).mono ?_
        rintro e w7 ⟨rfl, hb7⟩
        go_wp2_with fail
        go_ret
        exact ⟨rfl, bt c5 hb7⟩
  · have hmod := hid (show ((n : Int) % 16777216) = ((n % 16777216 : Nat) : Int) by omega)
    have hN : n % 16777216 < 16777216 := by omega
    have hput := fun W => put_ok (n % 16777216) 3 (by omega) (by omega) (by omega) W
    have htk := fun W => taken 3 (n % 16777216) (by omega) (by omega) (by simpa using hN) m hm W
    have hbl := be_length 3 (n % 16777216)
    go_wp2_with fail
    rw [hmod.out]
    generalize n % 16777216 = N at *
    go_at_call 5
    refine (hput _).mono ?_
    rintro e w1 ⟨rfl, hb1⟩
    generalize be 3 N = B at *
    go_wp2_with fail
    go_at_call 4
    refine (htk _).mono ?_
    rintro e w2 ⟨rfl, hb2⟩
    have c2 := bt hb1 hb2
    go_wp2_with fail
    go_at_call 6
    refine (hn1 _).mono ?_
    rintro e w3 ⟨rfl, hb3⟩
    have c3 := bt c2 hb3
    rcases hA with ⟨rfl, hla, ht1⟩ | rfl
    · go_wp2_with fail
      go_at_call 7
      refine (ht1 _).mono ?_
      rintro e w4 ⟨rfl, hb4⟩
      have c4 := bt c3 hb4
      go_wp2_with fail
      go_at_call 7
      refine (hn2 _).mono ?_
      rintro e w5 ⟨rfl, hb5⟩
      have c5 := bt c4 hb5
      rcases hB with ⟨rfl, hn3⟩ | hB
      · go_wp2_with fail
        go_at_call 6
        refine (hn3 _).mono ?_
        rintro e w6 ⟨rfl, hb6⟩
        go_wp2_with fail
        go_at_call 8
        refine (awake03 _).mono ?_
        rintro e w7 ⟨rfl, hb7⟩
        go_wp2_with fail
        go_ret
        exact ⟨rfl, bt (bt c5 hb6) hb7⟩
      · go_wp2_with fail
        go_at_call 8
        refine (awake03 _).mono ?_
        rintro e w7 ⟨rfl, hb7⟩
        go_wp2_with fail
        go_ret
        exact ⟨rfl, bt c5 hb7⟩
    · go_wp2_with fail
      go_at_call 7
      refine (hn2 _).mono ?_
      rintro e w5 ⟨rfl, hb5⟩
      have c5 := bt c3 hb5
      rcases hB with ⟨rfl, hn3⟩ | hB
      · go_wp2_with fail
        go_at_call 6
        refine (hn3 _).mono ?_
        rintro e w6 ⟨rfl, hb6⟩
        go_wp2_with fail
        go_at_call 8
        refine (awake03 _).mono ?_
        rintro e w7 ⟨rfl, hb7⟩
        go_wp2_with fail
        go_ret
        exact ⟨rfl, bt (bt c5 hb6) hb7⟩
      · go_wp2_with fail
        go_at_call 8
        refine (awake03 _).mono ?_
        rintro e w7 ⟨rfl, hb7⟩
        go_wp2_with fail
        go_ret
        exact ⟨rfl, bt c5 hb7⟩
  · have hmod := hid (show ((n : Int) % 4294967296) = ((n % 4294967296 : Nat) : Int) by omega)
    have hN : n % 4294967296 < 4294967296 := by omega
    have hput := fun W => put_ok (n % 4294967296) 4 (by omega) (by omega) (by omega) W
    have htk := fun W => taken 4 (n % 4294967296) (by omega) (by omega) (by simpa using hN) m hm W
    have hbl := be_length 4 (n % 4294967296)
    go_wp2_with fail
    rw [hmod.out]
    generalize n % 4294967296 = N at *
    go_at_call 5
    refine (hput _).mono ?_
    rintro e w1 ⟨rfl, hb1⟩
    generalize be 4 N = B at *
    go_wp2_with fail
    go_at_call 4
    refine (htk _).mono ?_
    rintro e w2 ⟨rfl, hb2⟩
    have c2 := bt hb1 hb2
    go_wp2_with fail
    go_at_call 6
    refine (hn1 _).mono ?_
    rintro e w3 ⟨rfl, hb3⟩
    have c3 := bt c2 hb3
    rcases hA with ⟨rfl, hla, ht1⟩ | rfl
    · go_wp2_with fail
      go_at_call 7
      refine (ht1 _).mono ?_
      rintro e w4 ⟨rfl, hb4⟩
      have c4 := bt c3 hb4
      go_wp2_with fail
      go_at_call 7
      refine (hn2 _).mono ?_
      rintro e w5 ⟨rfl, hb5⟩
      have c5 := bt c4 hb5
      rcases hB with ⟨rfl, hn3⟩ | hB
      · go_wp2_with fail
        go_at_call 6
        refine (hn3 _).mono ?_
        rintro e w6 ⟨rfl, hb6⟩
        go_wp2_with fail
        go_at_call 8
        refine (awake03 _).mono ?_
        rintro e w7 ⟨rfl, hb7⟩
        go_wp2_with fail
        go_ret
        exact ⟨rfl, bt (bt c5 hb6) hb7⟩
      · go_wp2_with fail
        go_at_call 8
        refine (awake03 _).mono ?_
        rintro e w7 ⟨rfl, hb7⟩
        go_wp2_with fail
        go_ret
        exact ⟨rfl, bt c5 hb7⟩
    · go_wp2_with fail
      go_at_call 7
      refine (hn2 _).mono ?_
      rintro e w5 ⟨rfl, hb5⟩
      have c5 := bt c3 hb5
      rcases hB with ⟨rfl, hn3⟩ | hB
      · go_wp2_with fail
        go_at_call 6
        refine (hn3 _).mono ?_
        rintro e w6 ⟨rfl, hb6⟩
        go_wp2_with fail
        go_at_call 8
        refine (awake03 _).mono ?_
        rintro e w7 ⟨rfl, hb7⟩
        go_wp2_with fail
        go_ret
        exact ⟨rfl, bt (bt c5 hb6) hb7⟩
      · go_wp2_with fail
        go_at_call 8
        refine (awake03 _).mono ?_
        rintro e w7 ⟨rfl, hb7⟩
        go_wp2_with fail
        go_ret
        exact ⟨rfl, bt c5 hb7⟩
  · have hmod := hid (show ((n : Int) % 1099511627776) = ((n % 1099511627776 : Nat) : Int) by omega)
    have hN : n % 1099511627776 < 1099511627776 := by omega
    have hput := fun W => put_ok (n % 1099511627776) 5 (by omega) (by omega) (by omega) W
    have htk := fun W => taken 5 (n % 1099511627776) (by omega) (by omega) (by simpa using hN) m hm W
    have hbl := be_length 5 (n % 1099511627776)
    go_wp2_with fail
    rw [hmod.out]
    generalize n % 1099511627776 = N at *
    go_at_call 5
    refine (hput _).mono ?_
    rintro e w1 ⟨rfl, hb1⟩
    generalize be 5 N = B at *
    go_wp2_with fail
    go_at_call 4
    refine (htk _).mono ?_
    rintro e w2 ⟨rfl, hb2⟩
    have c2 := bt hb1 hb2
    go_wp2_with fail
    go_at_call 6
    refine (hn1 _).mono ?_
    rintro e w3 ⟨rfl, hb3⟩
    have c3 := bt c2 hb3
    rcases hA with ⟨rfl, hla, ht1⟩ | rfl
    · go_wp2_with fail
      go_at_call 7
      refine (ht1 _).mono ?_
      rintro e w4 ⟨rfl, hb4⟩
      have c4 := bt c3 hb4
      go_wp2_with fail
      go_at_call 7
      refine (hn2 _).mono ?_
      rintro e w5 ⟨rfl, hb5⟩
      have c5 := bt c4 hb5
      rcases hB with ⟨rfl, hn3⟩ | hB
      · go_wp2_with fail
        go_at_call 6
        refine (hn3 _).mono ?_
        rintro e w6 ⟨rfl, hb6⟩
        go_wp2_with fail
        go_at_call 8
        refine (awake03 _).mono ?_
        rintro e w7 ⟨rfl, hb7⟩
        go_wp2_with fail
        go_ret
        exact ⟨rfl, bt (bt c5 hb6) hb7⟩
      · go_wp2_with fail
        go_at_call 8
        refine (awake03 _).mono ?_
        rintro e w7 ⟨rfl, hb7⟩
        go_wp2_with fail
        go_ret
        exact ⟨rfl, bt c5 hb7⟩
    · go_wp2_with fail
      go_at_call 7
      refine (hn2 _).mono ?_
      rintro e w5 ⟨rfl, hb5⟩
      have c5 := bt c3 hb5
      rcases hB with ⟨rfl, hn3⟩ | hB
      · go_wp2_with fail
        go_at_call 6
        refine (hn3 _).mono ?_
        rintro e w6 ⟨rfl, hb6⟩
        go_wp2_with fail
        go_at_call 8
        refine (awake03 _).mono ?_
        rintro e w7 ⟨rfl, hb7⟩
        go_wp2_with fail
        go_ret
        exact ⟨rfl, bt (bt c5 hb6) hb7⟩
      · go_wp2_with fail
        go_at_call 8
        refine (awake03 _).mono ?_
        rintro e w7 ⟨rfl, hb7⟩
        go_wp2_with fail
        go_ret
        exact ⟨rfl, bt c5 hb7⟩
  · have hmod := hid (show ((n : Int) % 281474976710656) = ((n % 281474976710656 : Nat) : Int) by omega)
    have hN : n % 281474976710656 < 281474976710656 := by omega
    have hput := fun W => put_ok (n % 281474976710656) 6 (by omega) (by omega) (by omega) W
    have htk := fun W => taken 6 (n % 281474976710656) (by omega) (by omega) (by simpa using hN) m hm W
    have hbl := be_length 6 (n % 281474976710656)
    go_wp2_with fail
    rw [hmod.out]
    generalize n % 281474976710656 = N at *
    go_at_call 5
    refine (hput _).mono ?_
    rintro e w1 ⟨rfl, hb1⟩
    generalize be 6 N = B at *
    go_wp2_with fail
    go_at_call 4
    refine (htk _).mono ?_
    rintro e w2 ⟨rfl, hb2⟩
    have c2 := bt hb1 hb2
    go_wp2_with fail
    go_at_call 6
    refine (hn1 _).mono ?_
    rintro e w3 ⟨rfl, hb3⟩
    have c3 := bt c2 hb3
    rcases hA with ⟨rfl, hla, ht1⟩ | rfl
    · go_wp2_with fail
      go_at_call 7
      refine (ht1 _).mono ?_
      rintro e w4 ⟨rfl, hb4⟩
      have c4 := bt c3 hb4
      go_wp2_with fail
      go_at_call 7
      refine (hn2 _).mono ?_
      rintro e w5 ⟨rfl, hb5⟩
      have c5 := bt c4 hb5
      rcases hB with ⟨rfl, hn3⟩ | hB
      · go_wp2_with fail
        go_at_call 6
        refine (hn3 _).mono ?_
        rintro e w6 ⟨rfl, hb6⟩
        go_wp2_with fail
        go_at_call 8
        refine (awake03 _).mono ?_
        rintro e w7 ⟨rfl, hb7⟩
        go_wp2_with fail
        go_ret
        exact ⟨rfl, bt (bt c5 hb6) hb7⟩
      · go_wp2_with fail
        go_at_call 8
        refine (awake03 _).mono ?_
        rintro e w7 ⟨rfl, hb7⟩
        go_wp2_with fail
        go_ret
        exact ⟨rfl, bt c5 hb7⟩
    · go_wp2_with fail
      go_at_call 7
      refine (hn2 _).mono ?_
      rintro e w5 ⟨rfl, hb5⟩
      have c5 := bt c3 hb5
      rcases hB with ⟨rfl, hn3⟩ | hB
      · go_wp2_with fail
        go_at_call 6
        refine (hn3 _).mono ?_
        rintro e w6 ⟨rfl, hb6⟩
        go_wp2_with fail
        go_at_call 8
        refine (awake03 _).mono ?_
        rintro e w7 ⟨rfl, hb7⟩
        go_wp2_with fail
        go_ret
        exact ⟨rfl, bt (bt c5 hb6) hb7⟩
      · go_wp2_with fail
        go_at_call 8
        refine (awake03 _).mono ?_
        rintro e w7 ⟨rfl, hb7⟩
        go_wp2_with fail
        go_ret
        exact ⟨rfl, bt c5 hb7⟩
  · have hmod := hid (show ((n : Int) % 72057594037927936) = ((n % 72057594037927936 : Nat) : Int) by omega)
    have hN : n % 72057594037927936 < 72057594037927936 := by omega
    have hput := fun W => put_ok (n % 72057594037927936) 7 (by omega) (by omega) (by omega) W
    have htk := fun W => taken 7 (n % 72057594037927936) (by omega) (by omega) (by simpa using hN) m hm W
    have hbl := be_length 7 (n % 72057594037927936)
    go_wp2_with fail
    rw [hmod.out]
    generalize n % 72057594037927936 = N at *
    go_at_call 5
    refine (hput _).mono ?_
    rintro e w1 ⟨rfl, hb1⟩
    generalize be 7 N = B at *
    go_wp2_with fail
    go_at_call 4
    refine (htk _).mono ?_
    rintro e w2 ⟨rfl, hb2⟩
    have c2 := bt hb1 hb2
    go_wp2_with fail
    go_at_call 6
    refine (hn1 _).mono ?_
    rintro e w3 ⟨rfl, hb3⟩
    have c3 := bt c2 hb3
    rcases hA with ⟨rfl, hla, ht1⟩ | rfl
    · go_wp2_with fail
      go_at_call 7
      refine (ht1 _).mono ?_
      rintro e w4 ⟨rfl, hb4⟩
      have c4 := bt c3 hb4
      go_wp2_with fail
      go_at_call 7
      refine (hn2 _).mono ?_
      rintro e w5 ⟨rfl, hb5⟩
      have c5 := bt c4 hb5
      rcases hB with ⟨rfl, hn3⟩ | hB
      · go_wp2_with fail
        go_at_call 6
        refine (hn3 _).mono ?_
        rintro e w6 ⟨rfl, hb6⟩
        go_wp2_with fail
        go_at_call 8
        refine (awake03 _).mono ?_
        rintro e w7 ⟨rfl, hb7⟩
        go_wp2_with fail
        go_ret
        exact ⟨rfl, bt (bt c5 hb6) hb7⟩
      · go_wp2_with fail
        go_at_call 8
        refine (awake03 _).mono ?_
        rintro e w7 ⟨rfl, hb7⟩
        go_wp2_with fail
        go_ret
        exact ⟨rfl, bt c5 hb7⟩
    · go_wp2_with fail
      go_at_call 7
      refine (hn2 _).mono ?_
      rintro e w5 ⟨rfl, hb5⟩
      have c5 := bt c3 hb5
      rcases hB with ⟨rfl, hn3⟩ | hB
      · go_wp2_with fail
        go_at_call 6
        refine (hn3 _).mono ?_
        rintro e w6 ⟨rfl, hb6⟩
        go_wp2_with fail
        go_at_call 8
        refine (awake03 _).mono ?_
        rintro e w7 ⟨rfl, hb7⟩
        go_wp2_with fail
        go_ret
        exact ⟨rfl, bt (bt c5 hb6) hb7⟩
      · go_wp2_with fail
        go_at_call 8
        refine (awake03 _).mono ?_
        rintro e w7 ⟨rfl, hb7⟩
        go_wp2_with fail
        go_ret
        exact ⟨rfl, bt c5 hb7⟩
  · have hput := fun W => put_ok n 8 (by omega) (by omega) (by omega) W
    have htk := fun W => taken 8 n (by omega) (by omega) (by simpa using hn) m hm W
    have hbl := be_length 8 (n)
    go_wp2_with fail
    generalize hNN : n = N at *
    go_at_call 5
    refine (hput _).mono ?_
    rintro e w1 ⟨rfl, hb1⟩
    generalize be 8 N = B at *
    go_wp2_with fail
    go_at_call 4
    refine (htk _).mono ?_
    rintro e w2 ⟨rfl, hb2⟩
    have c2 := bt hb1 hb2
    go_wp2_with fail
    go_at_call 6
    refine (hn1 _).mono ?_
    rintro e w3 ⟨rfl, hb3⟩
    have c3 := bt c2 hb3
    rcases hA with ⟨rfl, hla, ht1⟩ | rfl
    · go_wp2_with fail
      go_at_call 7
      refine (ht1 _).mono ?_
      rintro e w4 ⟨rfl, hb4⟩
      have c4 := bt c3 hb4
      go_wp2_with fail
      go_at_call 7
      refine (hn2 _).mono ?_
      rintro e w5 ⟨rfl, hb5⟩
      have c5 := bt c4 hb5
      rcases hB with ⟨rfl, hn3⟩ | hB
      · go_wp2_with fail
        go_at_call 6
        refine (hn3 _).mono ?_
        rintro e w6 ⟨rfl, hb6⟩
        go_wp2_with fail
        go_at_call 8
        refine (awake03 _).mono ?_
        rintro e w7 ⟨rfl, hb7⟩
        go_wp2_with fail
        go_ret
        exact ⟨rfl, bt (bt c5 hb6) hb7⟩
      · go_wp2_with fail
        go_at_call 8
        refine (awake03 _).mono ?_
        rintro e w7 ⟨rfl, hb7⟩
        go_wp2_with fail
        go_ret
        exact ⟨rfl, bt c5 hb7⟩
    · go_wp2_with fail
      go_at_call 7
      refine (hn2 _).mono ?_
      rintro e w5 ⟨rfl, hb5⟩
      have c5 := bt c3 hb5
      rcases hB with ⟨rfl, hn3⟩ | hB
      · go_wp2_with fail
        go_at_call 6
        refine (hn3 _).mono ?_
        rintro e w6 ⟨rfl, hb6⟩
        go_wp2_with fail
        go_at_call 8
        refine (awake03 _).mono ?_
        rintro e w7 ⟨rfl, hb7⟩
        go_wp2_with fail
        go_ret
        exact ⟨rfl, bt (bt c5 hb6) hb7⟩
      · go_wp2_with fail
        go_at_call 8
        refine (awake03 _).mono ?_
        rintro e w7 ⟨rfl, hb7⟩
        go_wp2_with fail
        go_ret
        exact ⟨rfl, bt c5 hb7⟩
theorem walk (w : World) (n0 : Int) (wn : (Lit.int .u64 n0).wf = true) (z : Int) (_ : (Lit.int .i64 z).wf = true) (m0 : ByteArray) (_ : m0.size ≤ maxLen) (hm : m0.data.toList.length ≤ reachBytes) (s0 : ByteArray) (_ : s0.size ≤ maxLen) (hs : s0.data.toList.length ≤ reachBytes) :
    Calls Tryd.prog 3 #[.int .u64 n0, .int .i64 z, .string m0, .string s0] w fun e w' => e = .returned (.bool true) ∧ Below w.heap.size w w' := by
  obtain ⟨m, rfl⟩ := bs_of m0
  obtain ⟨s, rfl⟩ := bs_of s0
  rw [bs_list] at hm hs
  unfold reachBytes at hm hs
  have q0 := bounds_u64 wn
  obtain ⟨n, rfl⟩ := Int.eq_ofNat_of_zero_le q0.1
  have hz : 0 ≤ IntKind.u64.wrap z := by
    show 0 ≤ z % (18446744073709551616 : Int)
    omega
  obtain ⟨u, hu⟩ := Int.eq_ofNat_of_zero_le hz
  have hK : (IntKind.u64.wrap z).tmod 8 = ((u % 8 : Nat) : Int) := by
    rw [hu]; rfl
  have hA : ((nameR s).2 = 0 ∧ (nameR s).1.length = 8 ∧ ∀ W, Calls Tryd.prog 7 #[.string (bs (nameR s).1)] W fun e w' => e = .returned (.tuple #[.string (bs s), .int .i64 0]) ∧ Below W.heap.size W w') ∨ (nameR s).2 = 19 := by
    by_cases h : nameOk s = true
    · have hl := nameOk_len h
      have e : nameR s = (s ++ List.replicate (8 - s.length) 0, 0) := by rw [nameR, if_pos h]
      have hlen : (s ++ List.replicate (8 - s.length) (0 : UInt8)).length = 8 := by simp; omega
      refine .inl ⟨by rw [e], by rw [e]; exact hlen, fun W => ?_⟩
      rw [e]
      have := toName_any (s ++ List.replicate (8 - s.length) 0) (by rw [hlen]; unfold maxLen; omega) W
      rwa [toName_name h] at this
    · exact .inr (by rw [nameR, if_neg h])
  have hB : ((toNameR s).2 = 0 ∧ ∀ W, Calls Tryd.prog 6 #[.string (bs (toNameR s).1)] W fun e w' => e = .returned (.tuple #[.string (bs s), .int .i64 0]) ∧ Below W.heap.size W w') ∨ ¬ (toNameR s).2 = 0 := by
    by_cases h : (toNameR s).2 = 0
    · obtain ⟨h1, h2⟩ := name_toName h
      refine .inl ⟨h, fun W => ?_⟩
      have := name_ok (toNameR s).1 h1 W
      rwa [h2] at this
    · exact .inr h
  exact walk_k n z m s (nameR s).1 (toNameR s).1 (nameR s).2 (toNameR s).2 (u % 8) hK (by omega) (by omega) (by omega) (by omega)
    (fun W => name_any s (by unfold maxLen; omega) W) (fun W => toName_any s (by unfold maxLen; omega) W) hA hB w
/-! ### The row: the listed variables lie in the witness's world as the condition says -/
theorem own : ownKnob Tryd.prog.godebug = none := by kernel_rfl
/-- Utf8's table of first bytes, cell by cell. -/
def firstCells : Array Value := match Go.Pinned.utf8First with | .agg l => (l.map fun | .lit (.int k m) => Value.int k m | _ => undef).toArray | _ => #[]
/-- The heap that the door's own run leaves, with the pinned table laid. -/
noncomputable def laidWorld (os : Os) : World :=
  let w0 := World.doorLaid Tryd.prog 4000 os
  { w0 with heap := w0.heap.modify 1 fun | .cells _ t fr => .cells firstCells t fr | o => o }
set_option maxRecDepth 100000 in
theorem door_met (os : Os) (args : Array Value) : laidMetH Tryd.prog Rows.packBackRow.laid ((laidWorld os).forCall (fun _ _ => 0) ⟨#[], args, []⟩).memory :=
  laidMetH_of_parts3 (fuel := 8) (laidMet_of_run' 8 (by kernel_rfl) (by kernel_rfl)) (by kernel_rfl) (by kernel_rfl)
set_option maxRecDepth 100000 in
theorem lifted (os : Os) (started : os.Started) (H : Type) (enc : TypeId × Value → H) :
    ReturnsInHanded {} Tryd.checked os 3 .any (fun w args => (Rows.packBackSpec.pre enc Tryd.prog Tryd.f3 [] false w args ∧ laidMetH Tryd.prog Rows.packBackRow.laid w) ∧ sizedMet enc Tryd.prog Tryd.f3 (OpenSpec.ofChange Rows.packBackSpec) false w args)
      (Rows.packBackSpec.post enc Tryd.prog Tryd.f3 false true false false) := by
  refine returnsInHanded_of_change_and (C := Tryd.checked) (X := fun w _ => laidMetH Tryd.prog Rows.packBackRow.laid w) (fun _ _ _ hh h => h.of_heap hh) own started (by kernel_rfl) Tryd.func3
    (ChangeSpec.witness_shaped (enc := enc) (C := Tryd.checked) (os := os) (X := fun w _ => laidMetH Tryd.prog Rows.packBackRow.laid w) false (laidWorld os) #[.int .u64 0, .int .i64 0, .string ByteArray.empty, .string ByteArray.empty] 8 rfl (World.shaped_of_RefB (by kernel_rfl) (by kernel_rfl)) (by kernel_rfl) (by kernel_rfl) (by kernel_rfl) (door_met os _)) ?_
  intro W base args ds gs before hval0 hW _ hsz0 hL _
  have hval : ∀ (j : Nat) t v, Tryd.f3.params[j]? = some t → args[j]? = some v → Value.okWide Tryd.prog W .any base t v := hval0
  have hW' := hW
  obtain ⟨p, q, hA0, hV, rfl, hfz, hnd⟩ := hW
  have hA : DataW.TrodAll enc Tryd.prog W 0 (fun _ => true) true Tryd.f3.params.toList args.toList ds p := hA0
  have hAk := hA
  have hsz : (DataW.weightsEach Tryd.prog (Tryd.f3.params.toList ++ Rows.packBackSpec.plain.varTypes Tryd.prog) (ds ++ gs)).all (· ≤ reachBytes) = true := hsz0
  rw [Tryd.params3] at hA hval hsz
  obtain ⟨v0, vs0, d0, ds0, p0, q0, hargs, rfl, rfl, h0, r0⟩ := trodAll_cons hA
  obtain ⟨v1, vs1, d1, ds1, p1, q1, rfl, rfl, rfl, h1, r1⟩ := trodAll_cons r0
  obtain ⟨v2, vs2, d2, ds2, p2, q2, rfl, rfl, rfl, h2, r2⟩ := trodAll_cons r1
  obtain ⟨v3, vs3, d3, ds3, p3, q3, rfl, rfl, rfl, h3, r3⟩ := trodAll_cons r2
  obtain ⟨rfl, rfl, rfl⟩ := trodAll_nil r3
  obtain rfl : args = #[v0, v1, v2, v3] := by cases args; simp_all
  obtain ⟨rfl, rfl⟩ := trodVars_none hV
  obtain ⟨a0, rfl, rfl, rfl, w0⟩ := open_int Tryd.underlying22 (hval 0 22 v0 rfl rfl) h0
  obtain ⟨a1, rfl, rfl, rfl, w1⟩ := open_int Tryd.underlying3 (hval 1 3 v1 rfl rfl) h1
  obtain ⟨a2, rfl, rfl, rfl, w2⟩ := open_string Tryd.underlying9 (hval 2 9 v2 rfl rfl) h2
  obtain ⟨a3, rfl, rfl, rfl, w3⟩ := open_string Tryd.underlying9 (hval 3 9 v3 rfl rfl) h3
  clear hA0 hval0
  simp only [List.append_nil] at hW'
  refine (walk W a0 w0 a1 w1 a2 w2 (sized_string hsz (j := 2) rfl rfl) a3 w3 (sized_string hsz (j := 3) rfl rfl)).mono fun e W' ⟨he, hb⟩ => ?_
  subst he
  exact ⟨_, rfl, post_of_below (pa := _) (pv := []) hW' (fun _ _ _ => (trodAll_cons_mk (shut_bool Tryd.underlying4 _) trodAll_mk0)) (fun sp hsp => trodAll_stays (by kernel_rfl) hb (by kernel_rfl) hAk (fun x hx => (by simp at hx)) (fun x hx => (by simp at hx))) (fun _ _ => rfl) (by simp) hb (ok_one (by kernel_rfl) rfl (okWide_bool_mk Tryd.underlying4 _))⟩
theorem row_ : Rows.PackBackSaid :=
  OpenClaim.holds_of_wide 3 Tryd.f3 rfl rfl rfl rfl rfl rfl rfl ⟨rfl, rfl, rfl, rfl, rfl⟩ rfl rfl rfl rfl rfl (by kernel_rfl) Tryd.func3 (by kernel_rfl)
    (of_decide_eq_true (by kernel_rfl)) (by unfold Func.isWrapper; first | (rw [if_pos (by decide +kernel)]; kernel_rfl) | (rw [if_neg (by decide +kernel)]; exact ⟨rfl, rfl⟩))
    (fun os started H enc _ => lifted os started H enc)
/-- The statement: the tied card. -/
theorem proved : Rows.PackBackCardSaid :=
  Claim7.holds_tied_plain_at .later [] [.data, .pinned] true (true, "9ae2ba15e3c4e953193f076b4047e4090a1c368a1a2de33e6546b2fdacbf7500") false
    row_ (fun _ h => by cases h) (by kernel_rfl) (fun _ h => by cases h) packBack_row_tie rfl ⟨rfl, rfl⟩ (by kernel_rfl) rfl
    (fun f fn hf hfn => by
      obtain rfl : f = 3 := Option.some.inj ((show Tryd.prog.funcNamed "cofferdam/cofferdamlaw03.PackBack" = some 3 by kernel_rfl).symm.trans hf) |>.symm
      obtain rfl : fn = Tryd.f3 := (Option.some.inj (Tryd.func3.symm.trans hfn)).symm
      exact ⟨by kernel_rfl, fun j t ht => by
        rw [Tryd.params3] at ht
        have hm : t ∈ [22, 3, 9] := by have := Array.mem_of_getElem? ht; simpa using this
        have hall : ([22, 3, 9].all fun u => !Tryd.prog.wantsStandIn u) = true := by kernel_rfl
        exact (show Tryd.prog.wantsStandIn t = false by simpa using List.all_eq_true.1 hall t hm)⟩)
    (by kernel_rfl)
#print axioms proved
end Go.Proofs.YtnlimkboenciaaaDoor.packBack
