/-
  No cell of these rows narrows 'for every input' (looked for: loops, veiled, ifaces, maps, wideKeys, modest, calm, conditions, laid).
  DERIVED. THE GIVEN ROWS OF THIS SEAT. 3 by the template 'for every input the law returns true; each argument reads behind the call as it read before'; 0 by the template 'total and deterministic' (their statements: YtlapjkbefkmohaaGreatTotals.lean).
  GIVEN WITH THE SEED: the statements are not yours to turn. If you find one false, say at which input.
  Laid BY PROGRAM, IN A SANDBOX (cutbox-rows.mjs): the forced cells as the released guide's own fill.sh prints them over the translation 889c5378814d0261… (all of the seat's roots in one cut). By AI agents, Wed Nov 11 2026. No macro, syntax, notation, axiom, sorry.
-/
import Derived.Test.YtlapjkbefkmohaaGreatChecked
import GoSem.Claim
import GoSem.ClaimJoined
import GoSem.ClaimMapViews
import Derived.JoinedTies
import Derived.KernelRfl
namespace Go.Proofs.YtlapjkbefkmohaaGreat
/- THE CELL 'sum', in the pinned program and in every row, IS THE sha256 OF THE DUMP (.gsa) THAT YtlapjkbefkmohaaGreatProg.lean LOADS. Nothing in Lean hashes anything: it is a label: what it is worth is what the hold of that sum in a sandbox is worth. -/
noncomputable def Tryz.pinned : Pinned := { name := "ytlapjkbefkmohaagreat", sum := "889c5378814d026163214f869364b7052d2a572da21e67a9a5ac86e50e13b690", checked := Tryz.checked }
namespace Rows
def none {H : Type} : Left H := { results := [], args := [] }

/-- 'cofferdamlaw15.SpanWhole': WHATEVER THE INPUT: true; the input reads as it did. -/
def spanWholeSpec : ChangeSpec := { name := "spanWhole", fn := fun _ => fun
  | [d1, d2, d3, d4] => { results := [.lit (.bool true)], args := [d1, d2, d3, d4] }
  | _ => none }
def spanWholeRow : OpenClaim := { program := "ytlapjkbefkmohaagreat", sum := "889c5378814d026163214f869364b7052d2a572da21e67a9a5ac86e50e13b690", func := "cofferdam/cofferdamlaw15.SpanWhole", spec := "spanWhole", unfollowed := true, recurses := true, apart := false }
def SpanWholeSaid : Prop := spanWholeRow.holds Tryz.pinned (OpenSpec.ofChange spanWholeSpec)

/-- ITS FALSE NEIGHBOUR: 'it returns false'. Refute it at one input. -/
def spanWholeWrong : ChangeSpec := { name := "spanWhole", fn := fun _ => fun
  | [d1, d2, d3, d4] => { results := [.lit (.bool false)], args := [d1, d2, d3, d4] }
  | _ => none }
def SpanWholeWrongFalsely : Prop := spanWholeRow.holds Tryz.pinned (OpenSpec.ofChange spanWholeWrong)

/-- 'cofferdamlaw15.SpanTells': WHATEVER THE INPUT: true; the input reads as it did. -/
def spanTellsSpec : ChangeSpec := { name := "spanTells", fn := fun _ => fun
  | [d1, d2, d3, d4, d5, d6] => { results := [.lit (.bool true)], args := [d1, d2, d3, d4, d5, d6] }
  | _ => none }
def spanTellsRow : OpenClaim := { program := "ytlapjkbefkmohaagreat", sum := "889c5378814d026163214f869364b7052d2a572da21e67a9a5ac86e50e13b690", func := "cofferdam/cofferdamlaw15.SpanTells", spec := "spanTells", unfollowed := true, recurses := true, apart := false }
def SpanTellsSaid : Prop := spanTellsRow.holds Tryz.pinned (OpenSpec.ofChange spanTellsSpec)

/-- ITS FALSE NEIGHBOUR: 'it returns false'. Refute it at one input. -/
def spanTellsWrong : ChangeSpec := { name := "spanTells", fn := fun _ => fun
  | [d1, d2, d3, d4, d5, d6] => { results := [.lit (.bool false)], args := [d1, d2, d3, d4, d5, d6] }
  | _ => none }
def SpanTellsWrongFalsely : Prop := spanTellsRow.holds Tryz.pinned (OpenSpec.ofChange spanTellsWrong)

/-- 'cofferdamlaw15.SpanDirty': WHATEVER THE INPUT: true; the input reads as it did. -/
def spanDirtySpec : ChangeSpec := { name := "spanDirty", fn := fun _ => fun
  | [d1, d2, d3, d4, d5, d6] => { results := [.lit (.bool true)], args := [d1, d2, d3, d4, d5, d6] }
  | _ => none }
def spanDirtyRow : OpenClaim := { program := "ytlapjkbefkmohaagreat", sum := "889c5378814d026163214f869364b7052d2a572da21e67a9a5ac86e50e13b690", func := "cofferdam/cofferdamlaw15.SpanDirty", spec := "spanDirty", unfollowed := true, recurses := true, apart := false }
def SpanDirtySaid : Prop := spanDirtyRow.holds Tryz.pinned (OpenSpec.ofChange spanDirtySpec)

/-- ITS FALSE NEIGHBOUR: 'it returns false'. Refute it at one input. -/
def spanDirtyWrong : ChangeSpec := { name := "spanDirty", fn := fun _ => fun
  | [d1, d2, d3, d4, d5, d6] => { results := [.lit (.bool false)], args := [d1, d2, d3, d4, d5, d6] }
  | _ => none }
def SpanDirtyWrongFalsely : Prop := spanDirtyRow.holds Tryz.pinned (OpenSpec.ofChange spanDirtyWrong)

/- THE SECOND FORM. 'bulk': how many values and letters a reading holds, each counted each time it is reached (what is shared counts as often as it is met; a slice's spare places count too). A statement '..UptoSaid' is the law's where the arguments, and the package variables that the reading takes, are together of bulk at most 1048576: NARROWER than '..Said'. Prove '..Said' where nothing that the law and all that it calls make is longer than what came in: it says more and counts as full. Else prove '..UptoSaid'. A law counts once. -/
mutual
def uptoBulk {H : Type} : DataW H → Nat
  | .lit (.string bytes) => bytes.length + 1
  | .lit _ => 1
  | .nil => 1
  | .ptr d => uptoBulk d + 1
  | .slice elems spare => uptoBulkAll elems + uptoBulkAll spare + 1
  | .agg parts => uptoBulkAll parts + 1
  | .iface _ d => uptoBulk d + 1
  | .map entries => uptoBulkEntries entries + 1
  | .held _ => 1
def uptoBulkAll {H : Type} : List (DataW H) → Nat
  | [] => 0
  | d :: r => uptoBulk d + uptoBulkAll r
def uptoBulkEntries {H : Type} : List (Lit × DataW H) → Nat
  | [] => 0
  | x :: r => uptoBulkEntry x + uptoBulkEntries r
def uptoBulkEntry {H : Type} : Lit × DataW H → Nat
  | (.string bytes, d) => bytes.length + uptoBulk d + 1
  | (_, d) => uptoBulk d + 1
 end
def uptoSmall : (H : Type) → List (DataW H) → Bool := fun _ ds => decide (uptoBulkAll ds ≤ 1048576)
def OpenSpec.upto (s : _root_.Go.ChangeSpec) : _root_.Go.OpenSpec := { _root_.Go.OpenSpec.ofChange s with cond := some uptoSmall }

/-- 'cofferdamlaw15.SpanWhole', WHERE WHAT IT READS IS OF BULK AT MOST 1048576: true; the input reads as it did. -/
def spanWholeUptoRow : OpenClaim := { program := "ytlapjkbefkmohaagreat", sum := "889c5378814d026163214f869364b7052d2a572da21e67a9a5ac86e50e13b690", func := "cofferdam/cofferdamlaw15.SpanWhole", spec := "spanWhole", unfollowed := true, recurses := true, apart := false, narrowed := true }
def SpanWholeUptoSaid : Prop := spanWholeUptoRow.holds Tryz.pinned (OpenSpec.upto spanWholeSpec)

/-- 'cofferdamlaw15.SpanTells', WHERE WHAT IT READS IS OF BULK AT MOST 1048576: true; the input reads as it did. -/
def spanTellsUptoRow : OpenClaim := { program := "ytlapjkbefkmohaagreat", sum := "889c5378814d026163214f869364b7052d2a572da21e67a9a5ac86e50e13b690", func := "cofferdam/cofferdamlaw15.SpanTells", spec := "spanTells", unfollowed := true, recurses := true, apart := false, narrowed := true }
def SpanTellsUptoSaid : Prop := spanTellsUptoRow.holds Tryz.pinned (OpenSpec.upto spanTellsSpec)

/-- 'cofferdamlaw15.SpanDirty', WHERE WHAT IT READS IS OF BULK AT MOST 1048576: true; the input reads as it did. -/
def spanDirtyUptoRow : OpenClaim := { program := "ytlapjkbefkmohaagreat", sum := "889c5378814d026163214f869364b7052d2a572da21e67a9a5ac86e50e13b690", func := "cofferdam/cofferdamlaw15.SpanDirty", spec := "spanDirty", unfollowed := true, recurses := true, apart := false, narrowed := true }
def SpanDirtyUptoSaid : Prop := spanDirtyUptoRow.holds Tryz.pinned (OpenSpec.upto spanDirtySpec)

end Rows
end Go.Proofs.YtlapjkbefkmohaaGreat
