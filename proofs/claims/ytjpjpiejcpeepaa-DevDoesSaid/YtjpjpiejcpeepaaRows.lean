/-
  No cell of these rows narrows 'for every input' (looked for: loops, veiled, ifaces, maps, wideKeys, modest, calm, conditions, laid).
  DERIVED. THE GIVEN ROWS OF THIS SEAT. 10 by the template 'for every input the law returns true; each argument reads behind the call as it read before'; 0 by the template 'total and deterministic' (their statements: YtjpjpiejcpeepaaTotals.lean).
  GIVEN WITH THE SEED: the statements are not yours to turn. If you find one false, say at which input.
  Laid BY PROGRAM, IN A SANDBOX (cutbox-rows.mjs): the forced cells as the released guide's own fill.sh prints them over the translation 4bb1118809a8ea2c… (all of the seat's roots in one cut). By AI agents, Wed Nov 11 2026. No macro, syntax, notation, axiom, sorry.
-/
import Derived.Test.YtjpjpiejcpeepaaChecked
import GoSem.Claim
import GoSem.ClaimJoined
import GoSem.ClaimMapViews
import Derived.JoinedTies
import Derived.KernelRfl
namespace Go.Proofs.Ytjpjpiejcpeepaa
/- THE CELL 'sum', in the pinned program and in every row, IS THE sha256 OF THE DUMP (.gsa) THAT YtjpjpiejcpeepaaProg.lean LOADS. Nothing in Lean hashes anything: it is a label: what it is worth is what the hold of that sum in a sandbox is worth. -/
noncomputable def Try.pinned : Pinned := { name := "ytjpjpiejcpeepaa", sum := "4bb1118809a8ea2c077771e5bb1a76a07109452c7652c9872e2db445f3fab098", checked := Try.checked }
namespace Rows
def none {H : Type} : Left H := { results := [], args := [] }

/-- 'cofferdamlaw05.PlanLooks': WHATEVER THE INPUT: true; the input reads as it did. -/
def planLooksSpec : ChangeSpec := { name := "planLooks", fn := fun _ => fun
  | [d1, d2, d3, d4, d5] => { results := [.lit (.bool true)], args := [d1, d2, d3, d4, d5] }
  | _ => none }
def planLooksRow : OpenClaim := { program := "ytjpjpiejcpeepaa", sum := "4bb1118809a8ea2c077771e5bb1a76a07109452c7652c9872e2db445f3fab098", func := "cofferdam/cofferdamlaw05.PlanLooks", spec := "planLooks", inPlace := ["internal/abi.NoEscape", "internal/bytealg.MakeNoZero"], unfollowed := true, recurses := true, apart := false }
def PlanLooksSaid : Prop := planLooksRow.holds Try.pinned (OpenSpec.ofChange planLooksSpec)

/-- ITS FALSE NEIGHBOUR: 'it returns false'. Refute it at one input. -/
def planLooksWrong : ChangeSpec := { name := "planLooks", fn := fun _ => fun
  | [d1, d2, d3, d4, d5] => { results := [.lit (.bool false)], args := [d1, d2, d3, d4, d5] }
  | _ => none }
def PlanLooksWrongFalsely : Prop := planLooksRow.holds Try.pinned (OpenSpec.ofChange planLooksWrong)

/-- 'cofferdamlaw05.PlanOrder': WHATEVER THE INPUT: true; the input reads as it did. -/
def planOrderSpec : ChangeSpec := { name := "planOrder", fn := fun _ => fun
  | [d1, d2, d3, d4, d5, d6, d7] => { results := [.lit (.bool true)], args := [d1, d2, d3, d4, d5, d6, d7] }
  | _ => none }
def planOrderRow : OpenClaim := { program := "ytjpjpiejcpeepaa", sum := "4bb1118809a8ea2c077771e5bb1a76a07109452c7652c9872e2db445f3fab098", func := "cofferdam/cofferdamlaw05.PlanOrder", spec := "planOrder", inPlace := ["internal/abi.NoEscape", "internal/bytealg.MakeNoZero"], unfollowed := true, recurses := true, apart := false }
def PlanOrderSaid : Prop := planOrderRow.holds Try.pinned (OpenSpec.ofChange planOrderSpec)

/-- ITS FALSE NEIGHBOUR: 'it returns false'. Refute it at one input. -/
def planOrderWrong : ChangeSpec := { name := "planOrder", fn := fun _ => fun
  | [d1, d2, d3, d4, d5, d6, d7] => { results := [.lit (.bool false)], args := [d1, d2, d3, d4, d5, d6, d7] }
  | _ => none }
def PlanOrderWrongFalsely : Prop := planOrderRow.holds Try.pinned (OpenSpec.ofChange planOrderWrong)

/-- 'cofferdamlaw01.DevCrashes': WHATEVER THE INPUT: true; the input reads as it did. -/
def devCrashesSpec : ChangeSpec := { name := "devCrashes", fn := fun _ => fun
  | [d1, d2] => { results := [.lit (.bool true)], args := [d1, d2] }
  | _ => none }
def devCrashesRow : OpenClaim := { program := "ytjpjpiejcpeepaa", sum := "4bb1118809a8ea2c077771e5bb1a76a07109452c7652c9872e2db445f3fab098", func := "cofferdam/cofferdamlaw01.DevCrashes", spec := "devCrashes", inPlace := ["internal/abi.NoEscape", "internal/bytealg.MakeNoZero"], unfollowed := true, recurses := true, apart := false }
def DevCrashesSaid : Prop := devCrashesRow.holds Try.pinned (OpenSpec.ofChange devCrashesSpec)

/-- ITS FALSE NEIGHBOUR: 'it returns false'. Refute it at one input. -/
def devCrashesWrong : ChangeSpec := { name := "devCrashes", fn := fun _ => fun
  | [d1, d2] => { results := [.lit (.bool false)], args := [d1, d2] }
  | _ => none }
def DevCrashesWrongFalsely : Prop := devCrashesRow.holds Try.pinned (OpenSpec.ofChange devCrashesWrong)

/-- 'cofferdamlaw01.DevReads': WHATEVER THE INPUT: true; the input reads as it did. -/
def devReadsSpec : ChangeSpec := { name := "devReads", fn := fun _ => fun
  | [d1, d2, d3, d4, d5] => { results := [.lit (.bool true)], args := [d1, d2, d3, d4, d5] }
  | _ => none }
def devReadsRow : OpenClaim := { program := "ytjpjpiejcpeepaa", sum := "4bb1118809a8ea2c077771e5bb1a76a07109452c7652c9872e2db445f3fab098", func := "cofferdam/cofferdamlaw01.DevReads", spec := "devReads", inPlace := ["internal/abi.NoEscape", "internal/bytealg.MakeNoZero"], unfollowed := true, recurses := true, apart := false }
def DevReadsSaid : Prop := devReadsRow.holds Try.pinned (OpenSpec.ofChange devReadsSpec)

/-- ITS FALSE NEIGHBOUR: 'it returns false'. Refute it at one input. -/
def devReadsWrong : ChangeSpec := { name := "devReads", fn := fun _ => fun
  | [d1, d2, d3, d4, d5] => { results := [.lit (.bool false)], args := [d1, d2, d3, d4, d5] }
  | _ => none }
def DevReadsWrongFalsely : Prop := devReadsRow.holds Try.pinned (OpenSpec.ofChange devReadsWrong)

/-- 'cofferdamlaw05.PlanTells': WHATEVER THE INPUT: true; the input reads as it did. -/
def planTellsSpec : ChangeSpec := { name := "planTells", fn := fun _ => fun
  | [d1, d2] => { results := [.lit (.bool true)], args := [d1, d2] }
  | _ => none }
def planTellsRow : OpenClaim := { program := "ytjpjpiejcpeepaa", sum := "4bb1118809a8ea2c077771e5bb1a76a07109452c7652c9872e2db445f3fab098", func := "cofferdam/cofferdamlaw05.PlanTells", spec := "planTells", inPlace := ["internal/abi.NoEscape", "internal/bytealg.MakeNoZero"], unfollowed := true, recurses := true, apart := false }
def PlanTellsSaid : Prop := planTellsRow.holds Try.pinned (OpenSpec.ofChange planTellsSpec)

/-- ITS FALSE NEIGHBOUR: 'it returns false'. Refute it at one input. -/
def planTellsWrong : ChangeSpec := { name := "planTells", fn := fun _ => fun
  | [d1, d2] => { results := [.lit (.bool false)], args := [d1, d2] }
  | _ => none }
def PlanTellsWrongFalsely : Prop := planTellsRow.holds Try.pinned (OpenSpec.ofChange planTellsWrong)

/-- 'cofferdamlaw01.DevTells': WHATEVER THE INPUT: true; the input reads as it did. -/
def devTellsSpec : ChangeSpec := { name := "devTells", fn := fun _ => fun
  | [d1, d2, d3] => { results := [.lit (.bool true)], args := [d1, d2, d3] }
  | _ => none }
def devTellsRow : OpenClaim := { program := "ytjpjpiejcpeepaa", sum := "4bb1118809a8ea2c077771e5bb1a76a07109452c7652c9872e2db445f3fab098", func := "cofferdam/cofferdamlaw01.DevTells", spec := "devTells", inPlace := ["internal/abi.NoEscape", "internal/bytealg.MakeNoZero"], unfollowed := true, recurses := true, apart := false }
def DevTellsSaid : Prop := devTellsRow.holds Try.pinned (OpenSpec.ofChange devTellsSpec)

/-- ITS FALSE NEIGHBOUR: 'it returns false'. Refute it at one input. -/
def devTellsWrong : ChangeSpec := { name := "devTells", fn := fun _ => fun
  | [d1, d2, d3] => { results := [.lit (.bool false)], args := [d1, d2, d3] }
  | _ => none }
def DevTellsWrongFalsely : Prop := devTellsRow.holds Try.pinned (OpenSpec.ofChange devTellsWrong)

/-- 'cofferdamlaw05.PlanDoes': WHATEVER THE INPUT: true; the input reads as it did. -/
def planDoesSpec : ChangeSpec := { name := "planDoes", fn := fun _ => fun
  | [d1, d2, d3, d4, d5] => { results := [.lit (.bool true)], args := [d1, d2, d3, d4, d5] }
  | _ => none }
def planDoesRow : OpenClaim := { program := "ytjpjpiejcpeepaa", sum := "4bb1118809a8ea2c077771e5bb1a76a07109452c7652c9872e2db445f3fab098", func := "cofferdam/cofferdamlaw05.PlanDoes", spec := "planDoes", inPlace := ["internal/abi.NoEscape", "internal/bytealg.MakeNoZero"], unfollowed := true, recurses := true, apart := false }
def PlanDoesSaid : Prop := planDoesRow.holds Try.pinned (OpenSpec.ofChange planDoesSpec)

/-- ITS FALSE NEIGHBOUR: 'it returns false'. Refute it at one input. -/
def planDoesWrong : ChangeSpec := { name := "planDoes", fn := fun _ => fun
  | [d1, d2, d3, d4, d5] => { results := [.lit (.bool false)], args := [d1, d2, d3, d4, d5] }
  | _ => none }
def PlanDoesWrongFalsely : Prop := planDoesRow.holds Try.pinned (OpenSpec.ofChange planDoesWrong)

/-- 'cofferdamlaw05.PlanLays': WHATEVER THE INPUT: true; the input reads as it did. -/
def planLaysSpec : ChangeSpec := { name := "planLays", fn := fun _ => fun
  | [d1, d2, d3] => { results := [.lit (.bool true)], args := [d1, d2, d3] }
  | _ => none }
def planLaysRow : OpenClaim := { program := "ytjpjpiejcpeepaa", sum := "4bb1118809a8ea2c077771e5bb1a76a07109452c7652c9872e2db445f3fab098", func := "cofferdam/cofferdamlaw05.PlanLays", spec := "planLays", inPlace := ["internal/abi.NoEscape", "internal/bytealg.MakeNoZero"], unfollowed := true, recurses := true, apart := false }
def PlanLaysSaid : Prop := planLaysRow.holds Try.pinned (OpenSpec.ofChange planLaysSpec)

/-- ITS FALSE NEIGHBOUR: 'it returns false'. Refute it at one input. -/
def planLaysWrong : ChangeSpec := { name := "planLays", fn := fun _ => fun
  | [d1, d2, d3] => { results := [.lit (.bool false)], args := [d1, d2, d3] }
  | _ => none }
def PlanLaysWrongFalsely : Prop := planLaysRow.holds Try.pinned (OpenSpec.ofChange planLaysWrong)

/-- 'cofferdamlaw01.DevSpoils': WHATEVER THE INPUT: true; the input reads as it did. -/
def devSpoilsSpec : ChangeSpec := { name := "devSpoils", fn := fun _ => fun
  | [d1, d2, d3] => { results := [.lit (.bool true)], args := [d1, d2, d3] }
  | _ => none }
def devSpoilsRow : OpenClaim := { program := "ytjpjpiejcpeepaa", sum := "4bb1118809a8ea2c077771e5bb1a76a07109452c7652c9872e2db445f3fab098", func := "cofferdam/cofferdamlaw01.DevSpoils", spec := "devSpoils", inPlace := ["internal/abi.NoEscape", "internal/bytealg.MakeNoZero", "slices.overlaps[int]"], unfollowed := true, recurses := true, apart := false }
def DevSpoilsSaid : Prop := devSpoilsRow.holds Try.pinned (OpenSpec.ofChange devSpoilsSpec)

/-- ITS FALSE NEIGHBOUR: 'it returns false'. Refute it at one input. -/
def devSpoilsWrong : ChangeSpec := { name := "devSpoils", fn := fun _ => fun
  | [d1, d2, d3] => { results := [.lit (.bool false)], args := [d1, d2, d3] }
  | _ => none }
def DevSpoilsWrongFalsely : Prop := devSpoilsRow.holds Try.pinned (OpenSpec.ofChange devSpoilsWrong)

/-- 'cofferdamlaw01.DevDoes': WHATEVER THE INPUT: true; the input reads as it did. -/
def devDoesSpec : ChangeSpec := { name := "devDoes", fn := fun _ => fun
  | [d1, d2, d3, d4, d5] => { results := [.lit (.bool true)], args := [d1, d2, d3, d4, d5] }
  | _ => none }
def devDoesRow : OpenClaim := { program := "ytjpjpiejcpeepaa", sum := "4bb1118809a8ea2c077771e5bb1a76a07109452c7652c9872e2db445f3fab098", func := "cofferdam/cofferdamlaw01.DevDoes", spec := "devDoes", inPlace := ["internal/abi.NoEscape", "internal/bytealg.MakeNoZero", "slices.overlaps[int]"], unfollowed := true, recurses := true, apart := false }
def DevDoesSaid : Prop := devDoesRow.holds Try.pinned (OpenSpec.ofChange devDoesSpec)

/-- ITS FALSE NEIGHBOUR: 'it returns false'. Refute it at one input. -/
def devDoesWrong : ChangeSpec := { name := "devDoes", fn := fun _ => fun
  | [d1, d2, d3, d4, d5] => { results := [.lit (.bool false)], args := [d1, d2, d3, d4, d5] }
  | _ => none }
def DevDoesWrongFalsely : Prop := devDoesRow.holds Try.pinned (OpenSpec.ofChange devDoesWrong)

/- THE SECOND FORM. 'bulk': how many values and letters a reading holds, each counted each time it is reached (what is shared counts as often as it is met; a slice's spare places count too). A statement '..UptoSaid' is the law's where the arguments, and the package variables that the reading takes, are together of bulk at most 1048576: NARROWER than '..Said'. Prove '..Said' where nothing that the law and all that it calls make is longer than what came in: it says more and counts as full. Else prove '..UptoSaid'. A law counts once. -/
mutual
def uptoBulk {H : Type} : DataW H → Nat
  | .lit (.string bytes) => bytes.length + 1
  | .lit _ => 1
  | .nil => 1
  | .ptr d => uptoBulk d + 1
  | .slice elems spare => uptoBulkAll elems + uptoBulkAll spare + 1
  | .agg parts => uptoBulkAll parts + 1
  | .iface _ d => uptoBulk d + 1
  | .map entries => uptoBulkEntries entries + 1
  | .held _ => 1
def uptoBulkAll {H : Type} : List (DataW H) → Nat
  | [] => 0
  | d :: r => uptoBulk d + uptoBulkAll r
def uptoBulkEntries {H : Type} : List (Lit × DataW H) → Nat
  | [] => 0
  | x :: r => uptoBulkEntry x + uptoBulkEntries r
def uptoBulkEntry {H : Type} : Lit × DataW H → Nat
  | (.string bytes, d) => bytes.length + uptoBulk d + 1
  | (_, d) => uptoBulk d + 1
 end
def uptoSmall : (H : Type) → List (DataW H) → Bool := fun _ ds => decide (uptoBulkAll ds ≤ 1048576)
def OpenSpec.upto (s : _root_.Go.ChangeSpec) : _root_.Go.OpenSpec := { _root_.Go.OpenSpec.ofChange s with cond := some uptoSmall }

/-- 'cofferdamlaw05.PlanLooks', WHERE WHAT IT READS IS OF BULK AT MOST 1048576: true; the input reads as it did. -/
def planLooksUptoRow : OpenClaim := { program := "ytjpjpiejcpeepaa", sum := "4bb1118809a8ea2c077771e5bb1a76a07109452c7652c9872e2db445f3fab098", func := "cofferdam/cofferdamlaw05.PlanLooks", spec := "planLooks", inPlace := ["internal/abi.NoEscape", "internal/bytealg.MakeNoZero"], unfollowed := true, recurses := true, apart := false, narrowed := true }
def PlanLooksUptoSaid : Prop := planLooksUptoRow.holds Try.pinned (OpenSpec.upto planLooksSpec)

/-- 'cofferdamlaw05.PlanOrder', WHERE WHAT IT READS IS OF BULK AT MOST 1048576: true; the input reads as it did. -/
def planOrderUptoRow : OpenClaim := { program := "ytjpjpiejcpeepaa", sum := "4bb1118809a8ea2c077771e5bb1a76a07109452c7652c9872e2db445f3fab098", func := "cofferdam/cofferdamlaw05.PlanOrder", spec := "planOrder", inPlace := ["internal/abi.NoEscape", "internal/bytealg.MakeNoZero"], unfollowed := true, recurses := true, apart := false, narrowed := true }
def PlanOrderUptoSaid : Prop := planOrderUptoRow.holds Try.pinned (OpenSpec.upto planOrderSpec)

/-- 'cofferdamlaw01.DevCrashes', WHERE WHAT IT READS IS OF BULK AT MOST 1048576: true; the input reads as it did. -/
def devCrashesUptoRow : OpenClaim := { program := "ytjpjpiejcpeepaa", sum := "4bb1118809a8ea2c077771e5bb1a76a07109452c7652c9872e2db445f3fab098", func := "cofferdam/cofferdamlaw01.DevCrashes", spec := "devCrashes", inPlace := ["internal/abi.NoEscape", "internal/bytealg.MakeNoZero"], unfollowed := true, recurses := true, apart := false, narrowed := true }
def DevCrashesUptoSaid : Prop := devCrashesUptoRow.holds Try.pinned (OpenSpec.upto devCrashesSpec)

/-- 'cofferdamlaw01.DevReads', WHERE WHAT IT READS IS OF BULK AT MOST 1048576: true; the input reads as it did. -/
def devReadsUptoRow : OpenClaim := { program := "ytjpjpiejcpeepaa", sum := "4bb1118809a8ea2c077771e5bb1a76a07109452c7652c9872e2db445f3fab098", func := "cofferdam/cofferdamlaw01.DevReads", spec := "devReads", inPlace := ["internal/abi.NoEscape", "internal/bytealg.MakeNoZero"], unfollowed := true, recurses := true, apart := false, narrowed := true }
def DevReadsUptoSaid : Prop := devReadsUptoRow.holds Try.pinned (OpenSpec.upto devReadsSpec)

/-- 'cofferdamlaw05.PlanTells', WHERE WHAT IT READS IS OF BULK AT MOST 1048576: true; the input reads as it did. -/
def planTellsUptoRow : OpenClaim := { program := "ytjpjpiejcpeepaa", sum := "4bb1118809a8ea2c077771e5bb1a76a07109452c7652c9872e2db445f3fab098", func := "cofferdam/cofferdamlaw05.PlanTells", spec := "planTells", inPlace := ["internal/abi.NoEscape", "internal/bytealg.MakeNoZero"], unfollowed := true, recurses := true, apart := false, narrowed := true }
def PlanTellsUptoSaid : Prop := planTellsUptoRow.holds Try.pinned (OpenSpec.upto planTellsSpec)

/-- 'cofferdamlaw01.DevTells', WHERE WHAT IT READS IS OF BULK AT MOST 1048576: true; the input reads as it did. -/
def devTellsUptoRow : OpenClaim := { program := "ytjpjpiejcpeepaa", sum := "4bb1118809a8ea2c077771e5bb1a76a07109452c7652c9872e2db445f3fab098", func := "cofferdam/cofferdamlaw01.DevTells", spec := "devTells", inPlace := ["internal/abi.NoEscape", "internal/bytealg.MakeNoZero"], unfollowed := true, recurses := true, apart := false, narrowed := true }
def DevTellsUptoSaid : Prop := devTellsUptoRow.holds Try.pinned (OpenSpec.upto devTellsSpec)

/-- 'cofferdamlaw05.PlanDoes', WHERE WHAT IT READS IS OF BULK AT MOST 1048576: true; the input reads as it did. -/
def planDoesUptoRow : OpenClaim := { program := "ytjpjpiejcpeepaa", sum := "4bb1118809a8ea2c077771e5bb1a76a07109452c7652c9872e2db445f3fab098", func := "cofferdam/cofferdamlaw05.PlanDoes", spec := "planDoes", inPlace := ["internal/abi.NoEscape", "internal/bytealg.MakeNoZero"], unfollowed := true, recurses := true, apart := false, narrowed := true }
def PlanDoesUptoSaid : Prop := planDoesUptoRow.holds Try.pinned (OpenSpec.upto planDoesSpec)

/-- 'cofferdamlaw05.PlanLays', WHERE WHAT IT READS IS OF BULK AT MOST 1048576: true; the input reads as it did. -/
def planLaysUptoRow : OpenClaim := { program := "ytjpjpiejcpeepaa", sum := "4bb1118809a8ea2c077771e5bb1a76a07109452c7652c9872e2db445f3fab098", func := "cofferdam/cofferdamlaw05.PlanLays", spec := "planLays", inPlace := ["internal/abi.NoEscape", "internal/bytealg.MakeNoZero"], unfollowed := true, recurses := true, apart := false, narrowed := true }
def PlanLaysUptoSaid : Prop := planLaysUptoRow.holds Try.pinned (OpenSpec.upto planLaysSpec)

/-- 'cofferdamlaw01.DevSpoils', WHERE WHAT IT READS IS OF BULK AT MOST 1048576: true; the input reads as it did. -/
def devSpoilsUptoRow : OpenClaim := { program := "ytjpjpiejcpeepaa", sum := "4bb1118809a8ea2c077771e5bb1a76a07109452c7652c9872e2db445f3fab098", func := "cofferdam/cofferdamlaw01.DevSpoils", spec := "devSpoils", inPlace := ["internal/abi.NoEscape", "internal/bytealg.MakeNoZero", "slices.overlaps[int]"], unfollowed := true, recurses := true, apart := false, narrowed := true }
def DevSpoilsUptoSaid : Prop := devSpoilsUptoRow.holds Try.pinned (OpenSpec.upto devSpoilsSpec)

/-- 'cofferdamlaw01.DevDoes', WHERE WHAT IT READS IS OF BULK AT MOST 1048576: true; the input reads as it did. -/
def devDoesUptoRow : OpenClaim := { program := "ytjpjpiejcpeepaa", sum := "4bb1118809a8ea2c077771e5bb1a76a07109452c7652c9872e2db445f3fab098", func := "cofferdam/cofferdamlaw01.DevDoes", spec := "devDoes", inPlace := ["internal/abi.NoEscape", "internal/bytealg.MakeNoZero", "slices.overlaps[int]"], unfollowed := true, recurses := true, apart := false, narrowed := true }
def DevDoesUptoSaid : Prop := devDoesUptoRow.holds Try.pinned (OpenSpec.upto devDoesSpec)

end Rows
end Go.Proofs.Ytjpjpiejcpeepaa
