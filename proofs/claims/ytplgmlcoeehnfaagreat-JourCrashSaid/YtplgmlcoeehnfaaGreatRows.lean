/-
  No cell of these rows narrows 'for every input' (looked for: loops, veiled, ifaces, maps, wideKeys, modest, calm, conditions, laid).
  DERIVED. THE GIVEN ROWS OF THIS SEAT. 10 by the template 'for every input the law returns true; each argument reads behind the call as it read before'; 0 by the template 'total and deterministic' (their statements: YtplgmlcoeehnfaaGreatTotals.lean).
  GIVEN WITH THE SEED: the statements are not yours to turn. If you find one false, say at which input.
  Laid BY PROGRAM, IN A SANDBOX (cutbox-rows.mjs): the forced cells as the released guide's own fill.sh prints them over the translation 911c6416ee433c44… (all of the seat's roots in one cut). By AI agents, Wed Nov 11 2026. No macro, syntax, notation, axiom, sorry.
-/
import Derived.Test.YtplgmlcoeehnfaaGreatChecked
import GoSem.Claim
import GoSem.ClaimJoined
import GoSem.ClaimMapViews
import Derived.JoinedTies
import Derived.KernelRfl
namespace Go.Proofs.YtplgmlcoeehnfaaGreat
/- THE CELL 'sum', in the pinned program and in every row, IS THE sha256 OF THE DUMP (.gsa) THAT YtplgmlcoeehnfaaGreatProg.lean LOADS. Nothing in Lean hashes anything: it is a label: what it is worth is what the hold of that sum in a sandbox is worth. -/
noncomputable def Tryz.pinned : Pinned := { name := "ytplgmlcoeehnfaagreat", sum := "911c6416ee433c443bfdad61695e8232eec64fc515c49e0a9849db2f1d2b5ed9", checked := Tryz.checked }
namespace Rows
def none {H : Type} : Left H := { results := [], args := [] }

/-- 'cofferdamlaw12.PointTells': WHATEVER THE INPUT: true; the input reads as it did. -/
def pointTellsSpec : ChangeSpec := { name := "pointTells", fn := fun _ => fun
  | [d1, d2, d3, d4, d5, d6] => { results := [.lit (.bool true)], args := [d1, d2, d3, d4, d5, d6] }
  | _ => none }
def pointTellsRow : OpenClaim := { program := "ytplgmlcoeehnfaagreat", sum := "911c6416ee433c443bfdad61695e8232eec64fc515c49e0a9849db2f1d2b5ed9", func := "cofferdam/cofferdamlaw12.PointTells", spec := "pointTells", inPlace := ["internal/abi.NoEscape", "internal/bytealg.MakeNoZero", "sync/atomic.LoadUint32", "(*internal/sync.Mutex).Lock", "internal/race.Disable", "sync/atomic.CompareAndSwapInt32", "internal/race.Enable", "internal/race.Acquire", "(*internal/sync.Mutex).lockSlow", "internal/sync.runtime_canSpin", "internal/sync.runtime_doSpin", "internal/sync.throw", "internal/sync.runtime_nanotime", "internal/sync.runtime_SemacquireMutex", "sync/atomic.AddInt32", "(*internal/sync.Mutex).Unlock", "internal/race.ReleaseMerge", "(*internal/sync.Mutex).unlockSlow", "internal/sync.fatal", "internal/sync.runtime_Semrelease", "sync/atomic.StoreUint32"], unfollowed := true, recurses := true, apart := false }
def PointTellsSaid : Prop := pointTellsRow.holds Tryz.pinned (OpenSpec.ofChange pointTellsSpec)

/-- ITS FALSE NEIGHBOUR: 'it returns false'. Refute it at one input. -/
def pointTellsWrong : ChangeSpec := { name := "pointTells", fn := fun _ => fun
  | [d1, d2, d3, d4, d5, d6] => { results := [.lit (.bool false)], args := [d1, d2, d3, d4, d5, d6] }
  | _ => none }
def PointTellsWrongFalsely : Prop := pointTellsRow.holds Tryz.pinned (OpenSpec.ofChange pointTellsWrong)

/-- 'cofferdamlaw12.PointDoes': WHATEVER THE INPUT: true; the input reads as it did. -/
def pointDoesSpec : ChangeSpec := { name := "pointDoes", fn := fun _ => fun
  | [d1, d2, d3, d4, d5] => { results := [.lit (.bool true)], args := [d1, d2, d3, d4, d5] }
  | _ => none }
def pointDoesRow : OpenClaim := { program := "ytplgmlcoeehnfaagreat", sum := "911c6416ee433c443bfdad61695e8232eec64fc515c49e0a9849db2f1d2b5ed9", func := "cofferdam/cofferdamlaw12.PointDoes", spec := "pointDoes", inPlace := ["internal/abi.NoEscape", "internal/bytealg.MakeNoZero", "sync/atomic.LoadUint32", "(*internal/sync.Mutex).Lock", "internal/race.Disable", "sync/atomic.CompareAndSwapInt32", "internal/race.Enable", "internal/race.Acquire", "(*internal/sync.Mutex).lockSlow", "internal/sync.runtime_canSpin", "internal/sync.runtime_doSpin", "internal/sync.throw", "internal/sync.runtime_nanotime", "internal/sync.runtime_SemacquireMutex", "sync/atomic.AddInt32", "(*internal/sync.Mutex).Unlock", "internal/race.ReleaseMerge", "(*internal/sync.Mutex).unlockSlow", "internal/sync.fatal", "internal/sync.runtime_Semrelease", "sync/atomic.StoreUint32"], unfollowed := true, recurses := true, apart := false }
def PointDoesSaid : Prop := pointDoesRow.holds Tryz.pinned (OpenSpec.ofChange pointDoesSpec)

/-- ITS FALSE NEIGHBOUR: 'it returns false'. Refute it at one input. -/
def pointDoesWrong : ChangeSpec := { name := "pointDoes", fn := fun _ => fun
  | [d1, d2, d3, d4, d5] => { results := [.lit (.bool false)], args := [d1, d2, d3, d4, d5] }
  | _ => none }
def PointDoesWrongFalsely : Prop := pointDoesRow.holds Tryz.pinned (OpenSpec.ofChange pointDoesWrong)

/-- 'cofferdamlaw12.PointReaches': WHATEVER THE INPUT: true; the input reads as it did. -/
def pointReachesSpec : ChangeSpec := { name := "pointReaches", fn := fun _ => fun
  | [d1, d2, d3, d4] => { results := [.lit (.bool true)], args := [d1, d2, d3, d4] }
  | _ => none }
def pointReachesRow : OpenClaim := { program := "ytplgmlcoeehnfaagreat", sum := "911c6416ee433c443bfdad61695e8232eec64fc515c49e0a9849db2f1d2b5ed9", func := "cofferdam/cofferdamlaw12.PointReaches", spec := "pointReaches", inPlace := ["internal/abi.NoEscape", "internal/bytealg.MakeNoZero", "sync/atomic.LoadUint32", "(*internal/sync.Mutex).Lock", "internal/race.Disable", "sync/atomic.CompareAndSwapInt32", "internal/race.Enable", "internal/race.Acquire", "(*internal/sync.Mutex).lockSlow", "internal/sync.runtime_canSpin", "internal/sync.runtime_doSpin", "internal/sync.throw", "internal/sync.runtime_nanotime", "internal/sync.runtime_SemacquireMutex", "sync/atomic.AddInt32", "(*internal/sync.Mutex).Unlock", "internal/race.ReleaseMerge", "(*internal/sync.Mutex).unlockSlow", "internal/sync.fatal", "internal/sync.runtime_Semrelease", "sync/atomic.StoreUint32"], unfollowed := true, recurses := true, apart := false }
def PointReachesSaid : Prop := pointReachesRow.holds Tryz.pinned (OpenSpec.ofChange pointReachesSpec)

/-- ITS FALSE NEIGHBOUR: 'it returns false'. Refute it at one input. -/
def pointReachesWrong : ChangeSpec := { name := "pointReaches", fn := fun _ => fun
  | [d1, d2, d3, d4] => { results := [.lit (.bool false)], args := [d1, d2, d3, d4] }
  | _ => none }
def PointReachesWrongFalsely : Prop := pointReachesRow.holds Tryz.pinned (OpenSpec.ofChange pointReachesWrong)

/-- 'cofferdamlaw12.PointShares': WHATEVER THE INPUT: true; the input reads as it did. -/
def pointSharesSpec : ChangeSpec := { name := "pointShares", fn := fun _ => fun
  | [d1, d2, d3, d4] => { results := [.lit (.bool true)], args := [d1, d2, d3, d4] }
  | _ => none }
def pointSharesRow : OpenClaim := { program := "ytplgmlcoeehnfaagreat", sum := "911c6416ee433c443bfdad61695e8232eec64fc515c49e0a9849db2f1d2b5ed9", func := "cofferdam/cofferdamlaw12.PointShares", spec := "pointShares", inPlace := ["internal/abi.NoEscape", "internal/bytealg.MakeNoZero", "sync/atomic.LoadUint32", "(*internal/sync.Mutex).Lock", "internal/race.Disable", "sync/atomic.CompareAndSwapInt32", "internal/race.Enable", "internal/race.Acquire", "(*internal/sync.Mutex).lockSlow", "internal/sync.runtime_canSpin", "internal/sync.runtime_doSpin", "internal/sync.throw", "internal/sync.runtime_nanotime", "internal/sync.runtime_SemacquireMutex", "sync/atomic.AddInt32", "(*internal/sync.Mutex).Unlock", "internal/race.ReleaseMerge", "(*internal/sync.Mutex).unlockSlow", "internal/sync.fatal", "internal/sync.runtime_Semrelease", "sync/atomic.StoreUint32"], unfollowed := true, recurses := true, apart := false }
def PointSharesSaid : Prop := pointSharesRow.holds Tryz.pinned (OpenSpec.ofChange pointSharesSpec)

/-- ITS FALSE NEIGHBOUR: 'it returns false'. Refute it at one input. -/
def pointSharesWrong : ChangeSpec := { name := "pointShares", fn := fun _ => fun
  | [d1, d2, d3, d4] => { results := [.lit (.bool false)], args := [d1, d2, d3, d4] }
  | _ => none }
def PointSharesWrongFalsely : Prop := pointSharesRow.holds Tryz.pinned (OpenSpec.ofChange pointSharesWrong)

/-- 'cofferdamlaw12.PointAdds': WHATEVER THE INPUT: true; the input reads as it did. -/
def pointAddsSpec : ChangeSpec := { name := "pointAdds", fn := fun _ => fun
  | [d1, d2, d3, d4] => { results := [.lit (.bool true)], args := [d1, d2, d3, d4] }
  | _ => none }
def pointAddsRow : OpenClaim := { program := "ytplgmlcoeehnfaagreat", sum := "911c6416ee433c443bfdad61695e8232eec64fc515c49e0a9849db2f1d2b5ed9", func := "cofferdam/cofferdamlaw12.PointAdds", spec := "pointAdds", inPlace := ["internal/abi.NoEscape", "internal/bytealg.MakeNoZero", "sync/atomic.LoadUint32", "(*internal/sync.Mutex).Lock", "internal/race.Disable", "sync/atomic.CompareAndSwapInt32", "internal/race.Enable", "internal/race.Acquire", "(*internal/sync.Mutex).lockSlow", "internal/sync.runtime_canSpin", "internal/sync.runtime_doSpin", "internal/sync.throw", "internal/sync.runtime_nanotime", "internal/sync.runtime_SemacquireMutex", "sync/atomic.AddInt32", "(*internal/sync.Mutex).Unlock", "internal/race.ReleaseMerge", "(*internal/sync.Mutex).unlockSlow", "internal/sync.fatal", "internal/sync.runtime_Semrelease", "sync/atomic.StoreUint32"], unfollowed := true, recurses := true, apart := false }
def PointAddsSaid : Prop := pointAddsRow.holds Tryz.pinned (OpenSpec.ofChange pointAddsSpec)

/-- ITS FALSE NEIGHBOUR: 'it returns false'. Refute it at one input. -/
def pointAddsWrong : ChangeSpec := { name := "pointAdds", fn := fun _ => fun
  | [d1, d2, d3, d4] => { results := [.lit (.bool false)], args := [d1, d2, d3, d4] }
  | _ => none }
def PointAddsWrongFalsely : Prop := pointAddsRow.holds Tryz.pinned (OpenSpec.ofChange pointAddsWrong)

/-- 'cofferdamlaw07.JourPlaces': WHATEVER THE INPUT: true; the input reads as it did. -/
def jourPlacesSpec : ChangeSpec := { name := "jourPlaces", fn := fun _ => fun
  | [d1, d2, d3] => { results := [.lit (.bool true)], args := [d1, d2, d3] }
  | _ => none }
def jourPlacesRow : OpenClaim := { program := "ytplgmlcoeehnfaagreat", sum := "911c6416ee433c443bfdad61695e8232eec64fc515c49e0a9849db2f1d2b5ed9", func := "cofferdam/cofferdamlaw07.JourPlaces", spec := "jourPlaces", inPlace := ["internal/abi.NoEscape", "internal/bytealg.MakeNoZero", "sync/atomic.LoadUint32", "(*internal/sync.Mutex).Lock", "internal/race.Disable", "sync/atomic.CompareAndSwapInt32", "internal/race.Enable", "internal/race.Acquire", "(*internal/sync.Mutex).lockSlow", "internal/sync.runtime_canSpin", "internal/sync.runtime_doSpin", "internal/sync.throw", "internal/sync.runtime_nanotime", "internal/sync.runtime_SemacquireMutex", "sync/atomic.AddInt32", "(*internal/sync.Mutex).Unlock", "internal/race.ReleaseMerge", "(*internal/sync.Mutex).unlockSlow", "internal/sync.fatal", "internal/sync.runtime_Semrelease", "sync/atomic.StoreUint32"], unfollowed := true, recurses := true, apart := false }
def JourPlacesSaid : Prop := jourPlacesRow.holds Tryz.pinned (OpenSpec.ofChange jourPlacesSpec)

/-- ITS FALSE NEIGHBOUR: 'it returns false'. Refute it at one input. -/
def jourPlacesWrong : ChangeSpec := { name := "jourPlaces", fn := fun _ => fun
  | [d1, d2, d3] => { results := [.lit (.bool false)], args := [d1, d2, d3] }
  | _ => none }
def JourPlacesWrongFalsely : Prop := jourPlacesRow.holds Tryz.pinned (OpenSpec.ofChange jourPlacesWrong)

/-- 'cofferdamlaw07.JourTells': WHATEVER THE INPUT: true; the input reads as it did. -/
def jourTellsSpec : ChangeSpec := { name := "jourTells", fn := fun _ => fun
  | [d1, d2, d3] => { results := [.lit (.bool true)], args := [d1, d2, d3] }
  | _ => none }
def jourTellsRow : OpenClaim := { program := "ytplgmlcoeehnfaagreat", sum := "911c6416ee433c443bfdad61695e8232eec64fc515c49e0a9849db2f1d2b5ed9", func := "cofferdam/cofferdamlaw07.JourTells", spec := "jourTells", inPlace := ["internal/abi.NoEscape", "internal/bytealg.MakeNoZero", "sync/atomic.LoadUint32", "(*internal/sync.Mutex).Lock", "internal/race.Disable", "sync/atomic.CompareAndSwapInt32", "internal/race.Enable", "internal/race.Acquire", "(*internal/sync.Mutex).lockSlow", "internal/sync.runtime_canSpin", "internal/sync.runtime_doSpin", "internal/sync.throw", "internal/sync.runtime_nanotime", "internal/sync.runtime_SemacquireMutex", "sync/atomic.AddInt32", "(*internal/sync.Mutex).Unlock", "internal/race.ReleaseMerge", "(*internal/sync.Mutex).unlockSlow", "internal/sync.fatal", "internal/sync.runtime_Semrelease", "sync/atomic.StoreUint32"], unfollowed := true, recurses := true, apart := false }
def JourTellsSaid : Prop := jourTellsRow.holds Tryz.pinned (OpenSpec.ofChange jourTellsSpec)

/-- ITS FALSE NEIGHBOUR: 'it returns false'. Refute it at one input. -/
def jourTellsWrong : ChangeSpec := { name := "jourTells", fn := fun _ => fun
  | [d1, d2, d3] => { results := [.lit (.bool false)], args := [d1, d2, d3] }
  | _ => none }
def JourTellsWrongFalsely : Prop := jourTellsRow.holds Tryz.pinned (OpenSpec.ofChange jourTellsWrong)

/-- 'cofferdamlaw07.JourDoes': WHATEVER THE INPUT: true; the input reads as it did. -/
def jourDoesSpec : ChangeSpec := { name := "jourDoes", fn := fun _ => fun
  | [d1, d2, d3] => { results := [.lit (.bool true)], args := [d1, d2, d3] }
  | _ => none }
def jourDoesRow : OpenClaim := { program := "ytplgmlcoeehnfaagreat", sum := "911c6416ee433c443bfdad61695e8232eec64fc515c49e0a9849db2f1d2b5ed9", func := "cofferdam/cofferdamlaw07.JourDoes", spec := "jourDoes", inPlace := ["internal/abi.NoEscape", "internal/bytealg.MakeNoZero", "sync/atomic.LoadUint32", "(*internal/sync.Mutex).Lock", "internal/race.Disable", "sync/atomic.CompareAndSwapInt32", "internal/race.Enable", "internal/race.Acquire", "(*internal/sync.Mutex).lockSlow", "internal/sync.runtime_canSpin", "internal/sync.runtime_doSpin", "internal/sync.throw", "internal/sync.runtime_nanotime", "internal/sync.runtime_SemacquireMutex", "sync/atomic.AddInt32", "(*internal/sync.Mutex).Unlock", "internal/race.ReleaseMerge", "(*internal/sync.Mutex).unlockSlow", "internal/sync.fatal", "internal/sync.runtime_Semrelease", "sync/atomic.StoreUint32"], unfollowed := true, recurses := true, apart := false }
def JourDoesSaid : Prop := jourDoesRow.holds Tryz.pinned (OpenSpec.ofChange jourDoesSpec)

/-- ITS FALSE NEIGHBOUR: 'it returns false'. Refute it at one input. -/
def jourDoesWrong : ChangeSpec := { name := "jourDoes", fn := fun _ => fun
  | [d1, d2, d3] => { results := [.lit (.bool false)], args := [d1, d2, d3] }
  | _ => none }
def JourDoesWrongFalsely : Prop := jourDoesRow.holds Tryz.pinned (OpenSpec.ofChange jourDoesWrong)

/-- 'cofferdamlaw07.JourTwice': WHATEVER THE INPUT: true; the input reads as it did. -/
def jourTwiceSpec : ChangeSpec := { name := "jourTwice", fn := fun _ => fun
  | [d] => { results := [.lit (.bool true)], args := [d] }
  | _ => none }
def jourTwiceRow : OpenClaim := { program := "ytplgmlcoeehnfaagreat", sum := "911c6416ee433c443bfdad61695e8232eec64fc515c49e0a9849db2f1d2b5ed9", func := "cofferdam/cofferdamlaw07.JourTwice", spec := "jourTwice", inPlace := ["internal/abi.NoEscape", "internal/bytealg.MakeNoZero", "sync/atomic.LoadUint32", "(*internal/sync.Mutex).Lock", "internal/race.Disable", "sync/atomic.CompareAndSwapInt32", "internal/race.Enable", "internal/race.Acquire", "(*internal/sync.Mutex).lockSlow", "internal/sync.runtime_canSpin", "internal/sync.runtime_doSpin", "internal/sync.throw", "internal/sync.runtime_nanotime", "internal/sync.runtime_SemacquireMutex", "sync/atomic.AddInt32", "(*internal/sync.Mutex).Unlock", "internal/race.ReleaseMerge", "(*internal/sync.Mutex).unlockSlow", "internal/sync.fatal", "internal/sync.runtime_Semrelease", "sync/atomic.StoreUint32"], unfollowed := true, recurses := true, apart := false }
def JourTwiceSaid : Prop := jourTwiceRow.holds Tryz.pinned (OpenSpec.ofChange jourTwiceSpec)

/-- ITS FALSE NEIGHBOUR: 'it returns false'. Refute it at one input. -/
def jourTwiceWrong : ChangeSpec := { name := "jourTwice", fn := fun _ => fun
  | [d] => { results := [.lit (.bool false)], args := [d] }
  | _ => none }
def JourTwiceWrongFalsely : Prop := jourTwiceRow.holds Tryz.pinned (OpenSpec.ofChange jourTwiceWrong)

/-- 'cofferdamlaw07.JourCrash': WHATEVER THE INPUT: true; the input reads as it did. -/
def jourCrashSpec : ChangeSpec := { name := "jourCrash", fn := fun _ => fun
  | [d1, d2, d3, d4, d5, d6, d7] => { results := [.lit (.bool true)], args := [d1, d2, d3, d4, d5, d6, d7] }
  | _ => none }
def jourCrashRow : OpenClaim := { program := "ytplgmlcoeehnfaagreat", sum := "911c6416ee433c443bfdad61695e8232eec64fc515c49e0a9849db2f1d2b5ed9", func := "cofferdam/cofferdamlaw07.JourCrash", spec := "jourCrash", inPlace := ["internal/abi.NoEscape", "internal/bytealg.MakeNoZero", "sync/atomic.LoadUint32", "(*internal/sync.Mutex).Lock", "internal/race.Disable", "sync/atomic.CompareAndSwapInt32", "internal/race.Enable", "internal/race.Acquire", "(*internal/sync.Mutex).lockSlow", "internal/sync.runtime_canSpin", "internal/sync.runtime_doSpin", "internal/sync.throw", "internal/sync.runtime_nanotime", "internal/sync.runtime_SemacquireMutex", "sync/atomic.AddInt32", "(*internal/sync.Mutex).Unlock", "internal/race.ReleaseMerge", "(*internal/sync.Mutex).unlockSlow", "internal/sync.fatal", "internal/sync.runtime_Semrelease", "sync/atomic.StoreUint32"], unfollowed := true, recurses := true, apart := false }
def JourCrashSaid : Prop := jourCrashRow.holds Tryz.pinned (OpenSpec.ofChange jourCrashSpec)

/-- ITS FALSE NEIGHBOUR: 'it returns false'. Refute it at one input. -/
def jourCrashWrong : ChangeSpec := { name := "jourCrash", fn := fun _ => fun
  | [d1, d2, d3, d4, d5, d6, d7] => { results := [.lit (.bool false)], args := [d1, d2, d3, d4, d5, d6, d7] }
  | _ => none }
def JourCrashWrongFalsely : Prop := jourCrashRow.holds Tryz.pinned (OpenSpec.ofChange jourCrashWrong)

/- THE SECOND FORM. 'bulk': how many values and letters a reading holds, each counted each time it is reached (what is shared counts as often as it is met; a slice's spare places count too). A statement '..UptoSaid' is the law's where the arguments, and the package variables that the reading takes, are together of bulk at most 1048576: NARROWER than '..Said'. Prove '..Said' where nothing that the law and all that it calls make is longer than what came in: it says more and counts as full. Else prove '..UptoSaid'. A law counts once. -/
mutual
def uptoBulk {H : Type} : DataW H → Nat
  | .lit (.string bytes) => bytes.length + 1
  | .lit _ => 1
  | .nil => 1
  | .ptr d => uptoBulk d + 1
  | .slice elems spare => uptoBulkAll elems + uptoBulkAll spare + 1
  | .agg parts => uptoBulkAll parts + 1
  | .iface _ d => uptoBulk d + 1
  | .map entries => uptoBulkEntries entries + 1
  | .held _ => 1
def uptoBulkAll {H : Type} : List (DataW H) → Nat
  | [] => 0
  | d :: r => uptoBulk d + uptoBulkAll r
def uptoBulkEntries {H : Type} : List (Lit × DataW H) → Nat
  | [] => 0
  | x :: r => uptoBulkEntry x + uptoBulkEntries r
def uptoBulkEntry {H : Type} : Lit × DataW H → Nat
  | (.string bytes, d) => bytes.length + uptoBulk d + 1
  | (_, d) => uptoBulk d + 1
 end
def uptoSmall : (H : Type) → List (DataW H) → Bool := fun _ ds => decide (uptoBulkAll ds ≤ 1048576)
def OpenSpec.upto (s : _root_.Go.ChangeSpec) : _root_.Go.OpenSpec := { _root_.Go.OpenSpec.ofChange s with cond := some uptoSmall }

/-- 'cofferdamlaw12.PointTells', WHERE WHAT IT READS IS OF BULK AT MOST 1048576: true; the input reads as it did. -/
def pointTellsUptoRow : OpenClaim := { program := "ytplgmlcoeehnfaagreat", sum := "911c6416ee433c443bfdad61695e8232eec64fc515c49e0a9849db2f1d2b5ed9", func := "cofferdam/cofferdamlaw12.PointTells", spec := "pointTells", inPlace := ["internal/abi.NoEscape", "internal/bytealg.MakeNoZero", "sync/atomic.LoadUint32", "(*internal/sync.Mutex).Lock", "internal/race.Disable", "sync/atomic.CompareAndSwapInt32", "internal/race.Enable", "internal/race.Acquire", "(*internal/sync.Mutex).lockSlow", "internal/sync.runtime_canSpin", "internal/sync.runtime_doSpin", "internal/sync.throw", "internal/sync.runtime_nanotime", "internal/sync.runtime_SemacquireMutex", "sync/atomic.AddInt32", "(*internal/sync.Mutex).Unlock", "internal/race.ReleaseMerge", "(*internal/sync.Mutex).unlockSlow", "internal/sync.fatal", "internal/sync.runtime_Semrelease", "sync/atomic.StoreUint32"], unfollowed := true, recurses := true, apart := false, narrowed := true }
def PointTellsUptoSaid : Prop := pointTellsUptoRow.holds Tryz.pinned (OpenSpec.upto pointTellsSpec)

/-- 'cofferdamlaw12.PointDoes', WHERE WHAT IT READS IS OF BULK AT MOST 1048576: true; the input reads as it did. -/
def pointDoesUptoRow : OpenClaim := { program := "ytplgmlcoeehnfaagreat", sum := "911c6416ee433c443bfdad61695e8232eec64fc515c49e0a9849db2f1d2b5ed9", func := "cofferdam/cofferdamlaw12.PointDoes", spec := "pointDoes", inPlace := ["internal/abi.NoEscape", "internal/bytealg.MakeNoZero", "sync/atomic.LoadUint32", "(*internal/sync.Mutex).Lock", "internal/race.Disable", "sync/atomic.CompareAndSwapInt32", "internal/race.Enable", "internal/race.Acquire", "(*internal/sync.Mutex).lockSlow", "internal/sync.runtime_canSpin", "internal/sync.runtime_doSpin", "internal/sync.throw", "internal/sync.runtime_nanotime", "internal/sync.runtime_SemacquireMutex", "sync/atomic.AddInt32", "(*internal/sync.Mutex).Unlock", "internal/race.ReleaseMerge", "(*internal/sync.Mutex).unlockSlow", "internal/sync.fatal", "internal/sync.runtime_Semrelease", "sync/atomic.StoreUint32"], unfollowed := true, recurses := true, apart := false, narrowed := true }
def PointDoesUptoSaid : Prop := pointDoesUptoRow.holds Tryz.pinned (OpenSpec.upto pointDoesSpec)

/-- 'cofferdamlaw12.PointReaches', WHERE WHAT IT READS IS OF BULK AT MOST 1048576: true; the input reads as it did. -/
def pointReachesUptoRow : OpenClaim := { program := "ytplgmlcoeehnfaagreat", sum := "911c6416ee433c443bfdad61695e8232eec64fc515c49e0a9849db2f1d2b5ed9", func := "cofferdam/cofferdamlaw12.PointReaches", spec := "pointReaches", inPlace := ["internal/abi.NoEscape", "internal/bytealg.MakeNoZero", "sync/atomic.LoadUint32", "(*internal/sync.Mutex).Lock", "internal/race.Disable", "sync/atomic.CompareAndSwapInt32", "internal/race.Enable", "internal/race.Acquire", "(*internal/sync.Mutex).lockSlow", "internal/sync.runtime_canSpin", "internal/sync.runtime_doSpin", "internal/sync.throw", "internal/sync.runtime_nanotime", "internal/sync.runtime_SemacquireMutex", "sync/atomic.AddInt32", "(*internal/sync.Mutex).Unlock", "internal/race.ReleaseMerge", "(*internal/sync.Mutex).unlockSlow", "internal/sync.fatal", "internal/sync.runtime_Semrelease", "sync/atomic.StoreUint32"], unfollowed := true, recurses := true, apart := false, narrowed := true }
def PointReachesUptoSaid : Prop := pointReachesUptoRow.holds Tryz.pinned (OpenSpec.upto pointReachesSpec)

/-- 'cofferdamlaw12.PointShares', WHERE WHAT IT READS IS OF BULK AT MOST 1048576: true; the input reads as it did. -/
def pointSharesUptoRow : OpenClaim := { program := "ytplgmlcoeehnfaagreat", sum := "911c6416ee433c443bfdad61695e8232eec64fc515c49e0a9849db2f1d2b5ed9", func := "cofferdam/cofferdamlaw12.PointShares", spec := "pointShares", inPlace := ["internal/abi.NoEscape", "internal/bytealg.MakeNoZero", "sync/atomic.LoadUint32", "(*internal/sync.Mutex).Lock", "internal/race.Disable", "sync/atomic.CompareAndSwapInt32", "internal/race.Enable", "internal/race.Acquire", "(*internal/sync.Mutex).lockSlow", "internal/sync.runtime_canSpin", "internal/sync.runtime_doSpin", "internal/sync.throw", "internal/sync.runtime_nanotime", "internal/sync.runtime_SemacquireMutex", "sync/atomic.AddInt32", "(*internal/sync.Mutex).Unlock", "internal/race.ReleaseMerge", "(*internal/sync.Mutex).unlockSlow", "internal/sync.fatal", "internal/sync.runtime_Semrelease", "sync/atomic.StoreUint32"], unfollowed := true, recurses := true, apart := false, narrowed := true }
def PointSharesUptoSaid : Prop := pointSharesUptoRow.holds Tryz.pinned (OpenSpec.upto pointSharesSpec)

/-- 'cofferdamlaw12.PointAdds', WHERE WHAT IT READS IS OF BULK AT MOST 1048576: true; the input reads as it did. -/
def pointAddsUptoRow : OpenClaim := { program := "ytplgmlcoeehnfaagreat", sum := "911c6416ee433c443bfdad61695e8232eec64fc515c49e0a9849db2f1d2b5ed9", func := "cofferdam/cofferdamlaw12.PointAdds", spec := "pointAdds", inPlace := ["internal/abi.NoEscape", "internal/bytealg.MakeNoZero", "sync/atomic.LoadUint32", "(*internal/sync.Mutex).Lock", "internal/race.Disable", "sync/atomic.CompareAndSwapInt32", "internal/race.Enable", "internal/race.Acquire", "(*internal/sync.Mutex).lockSlow", "internal/sync.runtime_canSpin", "internal/sync.runtime_doSpin", "internal/sync.throw", "internal/sync.runtime_nanotime", "internal/sync.runtime_SemacquireMutex", "sync/atomic.AddInt32", "(*internal/sync.Mutex).Unlock", "internal/race.ReleaseMerge", "(*internal/sync.Mutex).unlockSlow", "internal/sync.fatal", "internal/sync.runtime_Semrelease", "sync/atomic.StoreUint32"], unfollowed := true, recurses := true, apart := false, narrowed := true }
def PointAddsUptoSaid : Prop := pointAddsUptoRow.holds Tryz.pinned (OpenSpec.upto pointAddsSpec)

/-- 'cofferdamlaw07.JourPlaces', WHERE WHAT IT READS IS OF BULK AT MOST 1048576: true; the input reads as it did. -/
def jourPlacesUptoRow : OpenClaim := { program := "ytplgmlcoeehnfaagreat", sum := "911c6416ee433c443bfdad61695e8232eec64fc515c49e0a9849db2f1d2b5ed9", func := "cofferdam/cofferdamlaw07.JourPlaces", spec := "jourPlaces", inPlace := ["internal/abi.NoEscape", "internal/bytealg.MakeNoZero", "sync/atomic.LoadUint32", "(*internal/sync.Mutex).Lock", "internal/race.Disable", "sync/atomic.CompareAndSwapInt32", "internal/race.Enable", "internal/race.Acquire", "(*internal/sync.Mutex).lockSlow", "internal/sync.runtime_canSpin", "internal/sync.runtime_doSpin", "internal/sync.throw", "internal/sync.runtime_nanotime", "internal/sync.runtime_SemacquireMutex", "sync/atomic.AddInt32", "(*internal/sync.Mutex).Unlock", "internal/race.ReleaseMerge", "(*internal/sync.Mutex).unlockSlow", "internal/sync.fatal", "internal/sync.runtime_Semrelease", "sync/atomic.StoreUint32"], unfollowed := true, recurses := true, apart := false, narrowed := true }
def JourPlacesUptoSaid : Prop := jourPlacesUptoRow.holds Tryz.pinned (OpenSpec.upto jourPlacesSpec)

/-- 'cofferdamlaw07.JourTells', WHERE WHAT IT READS IS OF BULK AT MOST 1048576: true; the input reads as it did. -/
def jourTellsUptoRow : OpenClaim := { program := "ytplgmlcoeehnfaagreat", sum := "911c6416ee433c443bfdad61695e8232eec64fc515c49e0a9849db2f1d2b5ed9", func := "cofferdam/cofferdamlaw07.JourTells", spec := "jourTells", inPlace := ["internal/abi.NoEscape", "internal/bytealg.MakeNoZero", "sync/atomic.LoadUint32", "(*internal/sync.Mutex).Lock", "internal/race.Disable", "sync/atomic.CompareAndSwapInt32", "internal/race.Enable", "internal/race.Acquire", "(*internal/sync.Mutex).lockSlow", "internal/sync.runtime_canSpin", "internal/sync.runtime_doSpin", "internal/sync.throw", "internal/sync.runtime_nanotime", "internal/sync.runtime_SemacquireMutex", "sync/atomic.AddInt32", "(*internal/sync.Mutex).Unlock", "internal/race.ReleaseMerge", "(*internal/sync.Mutex).unlockSlow", "internal/sync.fatal", "internal/sync.runtime_Semrelease", "sync/atomic.StoreUint32"], unfollowed := true, recurses := true, apart := false, narrowed := true }
def JourTellsUptoSaid : Prop := jourTellsUptoRow.holds Tryz.pinned (OpenSpec.upto jourTellsSpec)

/-- 'cofferdamlaw07.JourDoes', WHERE WHAT IT READS IS OF BULK AT MOST 1048576: true; the input reads as it did. -/
def jourDoesUptoRow : OpenClaim := { program := "ytplgmlcoeehnfaagreat", sum := "911c6416ee433c443bfdad61695e8232eec64fc515c49e0a9849db2f1d2b5ed9", func := "cofferdam/cofferdamlaw07.JourDoes", spec := "jourDoes", inPlace := ["internal/abi.NoEscape", "internal/bytealg.MakeNoZero", "sync/atomic.LoadUint32", "(*internal/sync.Mutex).Lock", "internal/race.Disable", "sync/atomic.CompareAndSwapInt32", "internal/race.Enable", "internal/race.Acquire", "(*internal/sync.Mutex).lockSlow", "internal/sync.runtime_canSpin", "internal/sync.runtime_doSpin", "internal/sync.throw", "internal/sync.runtime_nanotime", "internal/sync.runtime_SemacquireMutex", "sync/atomic.AddInt32", "(*internal/sync.Mutex).Unlock", "internal/race.ReleaseMerge", "(*internal/sync.Mutex).unlockSlow", "internal/sync.fatal", "internal/sync.runtime_Semrelease", "sync/atomic.StoreUint32"], unfollowed := true, recurses := true, apart := false, narrowed := true }
def JourDoesUptoSaid : Prop := jourDoesUptoRow.holds Tryz.pinned (OpenSpec.upto jourDoesSpec)

/-- 'cofferdamlaw07.JourTwice', WHERE WHAT IT READS IS OF BULK AT MOST 1048576: true; the input reads as it did. -/
def jourTwiceUptoRow : OpenClaim := { program := "ytplgmlcoeehnfaagreat", sum := "911c6416ee433c443bfdad61695e8232eec64fc515c49e0a9849db2f1d2b5ed9", func := "cofferdam/cofferdamlaw07.JourTwice", spec := "jourTwice", inPlace := ["internal/abi.NoEscape", "internal/bytealg.MakeNoZero", "sync/atomic.LoadUint32", "(*internal/sync.Mutex).Lock", "internal/race.Disable", "sync/atomic.CompareAndSwapInt32", "internal/race.Enable", "internal/race.Acquire", "(*internal/sync.Mutex).lockSlow", "internal/sync.runtime_canSpin", "internal/sync.runtime_doSpin", "internal/sync.throw", "internal/sync.runtime_nanotime", "internal/sync.runtime_SemacquireMutex", "sync/atomic.AddInt32", "(*internal/sync.Mutex).Unlock", "internal/race.ReleaseMerge", "(*internal/sync.Mutex).unlockSlow", "internal/sync.fatal", "internal/sync.runtime_Semrelease", "sync/atomic.StoreUint32"], unfollowed := true, recurses := true, apart := false, narrowed := true }
def JourTwiceUptoSaid : Prop := jourTwiceUptoRow.holds Tryz.pinned (OpenSpec.upto jourTwiceSpec)

/-- 'cofferdamlaw07.JourCrash', WHERE WHAT IT READS IS OF BULK AT MOST 1048576: true; the input reads as it did. -/
def jourCrashUptoRow : OpenClaim := { program := "ytplgmlcoeehnfaagreat", sum := "911c6416ee433c443bfdad61695e8232eec64fc515c49e0a9849db2f1d2b5ed9", func := "cofferdam/cofferdamlaw07.JourCrash", spec := "jourCrash", inPlace := ["internal/abi.NoEscape", "internal/bytealg.MakeNoZero", "sync/atomic.LoadUint32", "(*internal/sync.Mutex).Lock", "internal/race.Disable", "sync/atomic.CompareAndSwapInt32", "internal/race.Enable", "internal/race.Acquire", "(*internal/sync.Mutex).lockSlow", "internal/sync.runtime_canSpin", "internal/sync.runtime_doSpin", "internal/sync.throw", "internal/sync.runtime_nanotime", "internal/sync.runtime_SemacquireMutex", "sync/atomic.AddInt32", "(*internal/sync.Mutex).Unlock", "internal/race.ReleaseMerge", "(*internal/sync.Mutex).unlockSlow", "internal/sync.fatal", "internal/sync.runtime_Semrelease", "sync/atomic.StoreUint32"], unfollowed := true, recurses := true, apart := false, narrowed := true }
def JourCrashUptoSaid : Prop := jourCrashUptoRow.holds Tryz.pinned (OpenSpec.upto jourCrashSpec)

end Rows
end Go.Proofs.YtplgmlcoeehnfaaGreat
