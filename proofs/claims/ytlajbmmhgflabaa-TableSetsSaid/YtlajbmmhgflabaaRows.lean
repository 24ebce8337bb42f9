/-
  No cell of these rows narrows 'for every input' (looked for: loops, veiled, ifaces, maps, wideKeys, modest, calm, conditions, laid).
  DERIVED. THE GIVEN ROWS OF THIS SEAT. 10 by the template 'for every input the law returns true; each argument reads behind the call as it read before'; 0 by the template 'total and deterministic' (their statements: YtlajbmmhgflabaaTotals.lean).
  GIVEN WITH THE SEED: the statements are not yours to turn. If you find one false, say at which input.
  Laid BY PROGRAM, IN A SANDBOX (cutbox-rows.mjs): the forced cells as the released guide's own fill.sh prints them over the translation a8f7b6ec85c7c9e9… (all of the seat's roots in one cut). By AI agents, Wed Nov 11 2026. No macro, syntax, notation, axiom, sorry.
-/
import Derived.Test.YtlajbmmhgflabaaChecked
import GoSem.Claim
import GoSem.ClaimJoined
import GoSem.ClaimMapViews
import Derived.JoinedTies
import Derived.KernelRfl
namespace Go.Proofs.Ytlajbmmhgflabaa
/- THE CELL 'sum', in the pinned program and in every row, IS THE sha256 OF THE DUMP (.gsa) THAT YtlajbmmhgflabaaProg.lean LOADS. Nothing in Lean hashes anything: it is a label: what it is worth is what the hold of that sum in a sandbox is worth. -/
noncomputable def Try.pinned : Pinned := { name := "ytlajbmmhgflabaa", sum := "a8f7b6ec85c7c9e9221fc14ee381990e1b92e6c62a3eb35b7a259db4e09c15cf", checked := Try.checked }
namespace Rows
def none {H : Type} : Left H := { results := [], args := [] }

/-- 'cofferdamlaw08.RefcUndoes': WHATEVER THE INPUT: true; the input reads as it did. -/
def refcUndoesSpec : ChangeSpec := { name := "refcUndoes", fn := fun _ => fun
  | [d1, d2, d3, d4, d5] => { results := [.lit (.bool true)], args := [d1, d2, d3, d4, d5] }
  | _ => none }
def refcUndoesRow : OpenClaim := { program := "ytlajbmmhgflabaa", sum := "a8f7b6ec85c7c9e9221fc14ee381990e1b92e6c62a3eb35b7a259db4e09c15cf", func := "cofferdam/cofferdamlaw08.RefcUndoes", spec := "refcUndoes", inPlace := ["internal/abi.NoEscape", "internal/bytealg.MakeNoZero"], unfollowed := true, recurses := true, apart := false }
def RefcUndoesSaid : Prop := refcUndoesRow.holds Try.pinned (OpenSpec.ofChange refcUndoesSpec)

/-- ITS FALSE NEIGHBOUR: 'it returns false'. Refute it at one input. -/
def refcUndoesWrong : ChangeSpec := { name := "refcUndoes", fn := fun _ => fun
  | [d1, d2, d3, d4, d5] => { results := [.lit (.bool false)], args := [d1, d2, d3, d4, d5] }
  | _ => none }
def RefcUndoesWrongFalsely : Prop := refcUndoesRow.holds Try.pinned (OpenSpec.ofChange refcUndoesWrong)

/-- 'cofferdamlaw08.RefcDoes': WHATEVER THE INPUT: true; the input reads as it did. -/
def refcDoesSpec : ChangeSpec := { name := "refcDoes", fn := fun _ => fun
  | [d1, d2, d3, d4, d5] => { results := [.lit (.bool true)], args := [d1, d2, d3, d4, d5] }
  | _ => none }
def refcDoesRow : OpenClaim := { program := "ytlajbmmhgflabaa", sum := "a8f7b6ec85c7c9e9221fc14ee381990e1b92e6c62a3eb35b7a259db4e09c15cf", func := "cofferdam/cofferdamlaw08.RefcDoes", spec := "refcDoes", inPlace := ["internal/abi.NoEscape", "internal/bytealg.MakeNoZero"], unfollowed := true, recurses := true, apart := false }
def RefcDoesSaid : Prop := refcDoesRow.holds Try.pinned (OpenSpec.ofChange refcDoesSpec)

/-- ITS FALSE NEIGHBOUR: 'it returns false'. Refute it at one input. -/
def refcDoesWrong : ChangeSpec := { name := "refcDoes", fn := fun _ => fun
  | [d1, d2, d3, d4, d5] => { results := [.lit (.bool false)], args := [d1, d2, d3, d4, d5] }
  | _ => none }
def RefcDoesWrongFalsely : Prop := refcDoesRow.holds Try.pinned (OpenSpec.ofChange refcDoesWrong)

/-- 'cofferdamlaw08.RefcAll': WHATEVER THE INPUT: true; the input reads as it did. -/
def refcAllSpec : ChangeSpec := { name := "refcAll", fn := fun _ => fun
  | [d1, d2, d3, d4] => { results := [.lit (.bool true)], args := [d1, d2, d3, d4] }
  | _ => none }
def refcAllRow : OpenClaim := { program := "ytlajbmmhgflabaa", sum := "a8f7b6ec85c7c9e9221fc14ee381990e1b92e6c62a3eb35b7a259db4e09c15cf", func := "cofferdam/cofferdamlaw08.RefcAll", spec := "refcAll", inPlace := ["internal/abi.NoEscape", "internal/bytealg.MakeNoZero"], unfollowed := true, recurses := true, apart := false }
def RefcAllSaid : Prop := refcAllRow.holds Try.pinned (OpenSpec.ofChange refcAllSpec)

/-- ITS FALSE NEIGHBOUR: 'it returns false'. Refute it at one input. -/
def refcAllWrong : ChangeSpec := { name := "refcAll", fn := fun _ => fun
  | [d1, d2, d3, d4] => { results := [.lit (.bool false)], args := [d1, d2, d3, d4] }
  | _ => none }
def RefcAllWrongFalsely : Prop := refcAllRow.holds Try.pinned (OpenSpec.ofChange refcAllWrong)

/-- 'cofferdamlaw11.TableGets': WHATEVER THE INPUT: true; the input reads as it did. -/
def tableGetsSpec : ChangeSpec := { name := "tableGets", fn := fun _ => fun
  | [d1, d2, d3, d4] => { results := [.lit (.bool true)], args := [d1, d2, d3, d4] }
  | _ => none }
def tableGetsRow : OpenClaim := { program := "ytlajbmmhgflabaa", sum := "a8f7b6ec85c7c9e9221fc14ee381990e1b92e6c62a3eb35b7a259db4e09c15cf", func := "cofferdam/cofferdamlaw11.TableGets", spec := "tableGets", inPlace := ["internal/abi.NoEscape", "internal/bytealg.MakeNoZero"], unfollowed := true, recurses := true, apart := false }
def TableGetsSaid : Prop := tableGetsRow.holds Try.pinned (OpenSpec.ofChange tableGetsSpec)

/-- ITS FALSE NEIGHBOUR: 'it returns false'. Refute it at one input. -/
def tableGetsWrong : ChangeSpec := { name := "tableGets", fn := fun _ => fun
  | [d1, d2, d3, d4] => { results := [.lit (.bool false)], args := [d1, d2, d3, d4] }
  | _ => none }
def TableGetsWrongFalsely : Prop := tableGetsRow.holds Try.pinned (OpenSpec.ofChange tableGetsWrong)

/-- 'cofferdamlaw11.TableAll': WHATEVER THE INPUT: true; the input reads as it did. -/
def tableAllSpec : ChangeSpec := { name := "tableAll", fn := fun _ => fun
  | [d1, d2, d3, d4] => { results := [.lit (.bool true)], args := [d1, d2, d3, d4] }
  | _ => none }
def tableAllRow : OpenClaim := { program := "ytlajbmmhgflabaa", sum := "a8f7b6ec85c7c9e9221fc14ee381990e1b92e6c62a3eb35b7a259db4e09c15cf", func := "cofferdam/cofferdamlaw11.TableAll", spec := "tableAll", inPlace := ["internal/abi.NoEscape", "internal/bytealg.MakeNoZero"], unfollowed := true, recurses := true, apart := false }
def TableAllSaid : Prop := tableAllRow.holds Try.pinned (OpenSpec.ofChange tableAllSpec)

/-- ITS FALSE NEIGHBOUR: 'it returns false'. Refute it at one input. -/
def tableAllWrong : ChangeSpec := { name := "tableAll", fn := fun _ => fun
  | [d1, d2, d3, d4] => { results := [.lit (.bool false)], args := [d1, d2, d3, d4] }
  | _ => none }
def TableAllWrongFalsely : Prop := tableAllRow.holds Try.pinned (OpenSpec.ofChange tableAllWrong)

/-- 'cofferdamlaw11.TableSets': WHATEVER THE INPUT: true; the input reads as it did. -/
def tableSetsSpec : ChangeSpec := { name := "tableSets", fn := fun _ => fun
  | [d1, d2, d3, d4, d5, d6] => { results := [.lit (.bool true)], args := [d1, d2, d3, d4, d5, d6] }
  | _ => none }
def tableSetsRow : OpenClaim := { program := "ytlajbmmhgflabaa", sum := "a8f7b6ec85c7c9e9221fc14ee381990e1b92e6c62a3eb35b7a259db4e09c15cf", func := "cofferdam/cofferdamlaw11.TableSets", spec := "tableSets", inPlace := ["internal/abi.NoEscape", "internal/bytealg.MakeNoZero"], unfollowed := true, recurses := true, apart := false }
def TableSetsSaid : Prop := tableSetsRow.holds Try.pinned (OpenSpec.ofChange tableSetsSpec)

/-- ITS FALSE NEIGHBOUR: 'it returns false'. Refute it at one input. -/
def tableSetsWrong : ChangeSpec := { name := "tableSets", fn := fun _ => fun
  | [d1, d2, d3, d4, d5, d6] => { results := [.lit (.bool false)], args := [d1, d2, d3, d4, d5, d6] }
  | _ => none }
def TableSetsWrongFalsely : Prop := tableSetsRow.holds Try.pinned (OpenSpec.ofChange tableSetsWrong)

/-- 'cofferdamlaw11.TableBack': WHATEVER THE INPUT: true; the input reads as it did. -/
def tableBackSpec : ChangeSpec := { name := "tableBack", fn := fun _ => fun
  | [d1, d2, d3, d4, d5, d6, d7] => { results := [.lit (.bool true)], args := [d1, d2, d3, d4, d5, d6, d7] }
  | _ => none }
def tableBackRow : OpenClaim := { program := "ytlajbmmhgflabaa", sum := "a8f7b6ec85c7c9e9221fc14ee381990e1b92e6c62a3eb35b7a259db4e09c15cf", func := "cofferdam/cofferdamlaw11.TableBack", spec := "tableBack", inPlace := ["internal/abi.NoEscape", "internal/bytealg.MakeNoZero"], unfollowed := true, recurses := true, apart := false }
def TableBackSaid : Prop := tableBackRow.holds Try.pinned (OpenSpec.ofChange tableBackSpec)

/-- ITS FALSE NEIGHBOUR: 'it returns false'. Refute it at one input. -/
def tableBackWrong : ChangeSpec := { name := "tableBack", fn := fun _ => fun
  | [d1, d2, d3, d4, d5, d6, d7] => { results := [.lit (.bool false)], args := [d1, d2, d3, d4, d5, d6, d7] }
  | _ => none }
def TableBackWrongFalsely : Prop := tableBackRow.holds Try.pinned (OpenSpec.ofChange tableBackWrong)

/-- 'cofferdamlaw09.AllocDoes': WHATEVER THE INPUT: true; the input reads as it did. -/
def allocDoesSpec : ChangeSpec := { name := "allocDoes", fn := fun _ => fun
  | [d1, d2, d3] => { results := [.lit (.bool true)], args := [d1, d2, d3] }
  | _ => none }
def allocDoesRow : OpenClaim := { program := "ytlajbmmhgflabaa", sum := "a8f7b6ec85c7c9e9221fc14ee381990e1b92e6c62a3eb35b7a259db4e09c15cf", func := "cofferdam/cofferdamlaw09.AllocDoes", spec := "allocDoes", inPlace := ["internal/abi.NoEscape", "internal/bytealg.MakeNoZero"], unfollowed := true, recurses := true, apart := false }
def AllocDoesSaid : Prop := allocDoesRow.holds Try.pinned (OpenSpec.ofChange allocDoesSpec)

/-- ITS FALSE NEIGHBOUR: 'it returns false'. Refute it at one input. -/
def allocDoesWrong : ChangeSpec := { name := "allocDoes", fn := fun _ => fun
  | [d1, d2, d3] => { results := [.lit (.bool false)], args := [d1, d2, d3] }
  | _ => none }
def AllocDoesWrongFalsely : Prop := allocDoesRow.holds Try.pinned (OpenSpec.ofChange allocDoesWrong)

/-- 'cofferdamlaw09.AllocTakes': WHATEVER THE INPUT: true; the input reads as it did. -/
def allocTakesSpec : ChangeSpec := { name := "allocTakes", fn := fun _ => fun
  | [d1, d2, d3] => { results := [.lit (.bool true)], args := [d1, d2, d3] }
  | _ => none }
def allocTakesRow : OpenClaim := { program := "ytlajbmmhgflabaa", sum := "a8f7b6ec85c7c9e9221fc14ee381990e1b92e6c62a3eb35b7a259db4e09c15cf", func := "cofferdam/cofferdamlaw09.AllocTakes", spec := "allocTakes", inPlace := ["internal/abi.NoEscape", "internal/bytealg.MakeNoZero"], unfollowed := true, recurses := true, apart := false }
def AllocTakesSaid : Prop := allocTakesRow.holds Try.pinned (OpenSpec.ofChange allocTakesSpec)

/-- ITS FALSE NEIGHBOUR: 'it returns false'. Refute it at one input. -/
def allocTakesWrong : ChangeSpec := { name := "allocTakes", fn := fun _ => fun
  | [d1, d2, d3] => { results := [.lit (.bool false)], args := [d1, d2, d3] }
  | _ => none }
def AllocTakesWrongFalsely : Prop := allocTakesRow.holds Try.pinned (OpenSpec.ofChange allocTakesWrong)

/-- 'cofferdamlaw09.AllocFirst': WHATEVER THE INPUT: true; the input reads as it did. -/
def allocFirstSpec : ChangeSpec := { name := "allocFirst", fn := fun _ => fun
  | [d1, d2, d3] => { results := [.lit (.bool true)], args := [d1, d2, d3] }
  | _ => none }
def allocFirstRow : OpenClaim := { program := "ytlajbmmhgflabaa", sum := "a8f7b6ec85c7c9e9221fc14ee381990e1b92e6c62a3eb35b7a259db4e09c15cf", func := "cofferdam/cofferdamlaw09.AllocFirst", spec := "allocFirst", inPlace := ["internal/abi.NoEscape", "internal/bytealg.MakeNoZero"], unfollowed := true, recurses := true, apart := false }
def AllocFirstSaid : Prop := allocFirstRow.holds Try.pinned (OpenSpec.ofChange allocFirstSpec)

/-- ITS FALSE NEIGHBOUR: 'it returns false'. Refute it at one input. -/
def allocFirstWrong : ChangeSpec := { name := "allocFirst", fn := fun _ => fun
  | [d1, d2, d3] => { results := [.lit (.bool false)], args := [d1, d2, d3] }
  | _ => none }
def AllocFirstWrongFalsely : Prop := allocFirstRow.holds Try.pinned (OpenSpec.ofChange allocFirstWrong)

/- THE SECOND FORM. 'bulk': how many values and letters a reading holds, each counted each time it is reached (what is shared counts as often as it is met; a slice's spare places count too). A statement '..UptoSaid' is the law's where the arguments, and the package variables that the reading takes, are together of bulk at most 1048576: NARROWER than '..Said'. Prove '..Said' where nothing that the law and all that it calls make is longer than what came in: it says more and counts as full. Else prove '..UptoSaid'. A law counts once. -/
mutual
def uptoBulk {H : Type} : DataW H → Nat
  | .lit (.string bytes) => bytes.length + 1
  | .lit _ => 1
  | .nil => 1
  | .ptr d => uptoBulk d + 1
  | .slice elems spare => uptoBulkAll elems + uptoBulkAll spare + 1
  | .agg parts => uptoBulkAll parts + 1
  | .iface _ d => uptoBulk d + 1
  | .map entries => uptoBulkEntries entries + 1
  | .held _ => 1
def uptoBulkAll {H : Type} : List (DataW H) → Nat
  | [] => 0
  | d :: r => uptoBulk d + uptoBulkAll r
def uptoBulkEntries {H : Type} : List (Lit × DataW H) → Nat
  | [] => 0
  | x :: r => uptoBulkEntry x + uptoBulkEntries r
def uptoBulkEntry {H : Type} : Lit × DataW H → Nat
  | (.string bytes, d) => bytes.length + uptoBulk d + 1
  | (_, d) => uptoBulk d + 1
 end
def uptoSmall : (H : Type) → List (DataW H) → Bool := fun _ ds => decide (uptoBulkAll ds ≤ 1048576)
def OpenSpec.upto (s : _root_.Go.ChangeSpec) : _root_.Go.OpenSpec := { _root_.Go.OpenSpec.ofChange s with cond := some uptoSmall }

/-- 'cofferdamlaw08.RefcUndoes', WHERE WHAT IT READS IS OF BULK AT MOST 1048576: true; the input reads as it did. -/
def refcUndoesUptoRow : OpenClaim := { program := "ytlajbmmhgflabaa", sum := "a8f7b6ec85c7c9e9221fc14ee381990e1b92e6c62a3eb35b7a259db4e09c15cf", func := "cofferdam/cofferdamlaw08.RefcUndoes", spec := "refcUndoes", inPlace := ["internal/abi.NoEscape", "internal/bytealg.MakeNoZero"], unfollowed := true, recurses := true, apart := false, narrowed := true }
def RefcUndoesUptoSaid : Prop := refcUndoesUptoRow.holds Try.pinned (OpenSpec.upto refcUndoesSpec)

/-- 'cofferdamlaw08.RefcDoes', WHERE WHAT IT READS IS OF BULK AT MOST 1048576: true; the input reads as it did. -/
def refcDoesUptoRow : OpenClaim := { program := "ytlajbmmhgflabaa", sum := "a8f7b6ec85c7c9e9221fc14ee381990e1b92e6c62a3eb35b7a259db4e09c15cf", func := "cofferdam/cofferdamlaw08.RefcDoes", spec := "refcDoes", inPlace := ["internal/abi.NoEscape", "internal/bytealg.MakeNoZero"], unfollowed := true, recurses := true, apart := false, narrowed := true }
def RefcDoesUptoSaid : Prop := refcDoesUptoRow.holds Try.pinned (OpenSpec.upto refcDoesSpec)

/-- 'cofferdamlaw08.RefcAll', WHERE WHAT IT READS IS OF BULK AT MOST 1048576: true; the input reads as it did. -/
def refcAllUptoRow : OpenClaim := { program := "ytlajbmmhgflabaa", sum := "a8f7b6ec85c7c9e9221fc14ee381990e1b92e6c62a3eb35b7a259db4e09c15cf", func := "cofferdam/cofferdamlaw08.RefcAll", spec := "refcAll", inPlace := ["internal/abi.NoEscape", "internal/bytealg.MakeNoZero"], unfollowed := true, recurses := true, apart := false, narrowed := true }
def RefcAllUptoSaid : Prop := refcAllUptoRow.holds Try.pinned (OpenSpec.upto refcAllSpec)

/-- 'cofferdamlaw11.TableGets', WHERE WHAT IT READS IS OF BULK AT MOST 1048576: true; the input reads as it did. -/
def tableGetsUptoRow : OpenClaim := { program := "ytlajbmmhgflabaa", sum := "a8f7b6ec85c7c9e9221fc14ee381990e1b92e6c62a3eb35b7a259db4e09c15cf", func := "cofferdam/cofferdamlaw11.TableGets", spec := "tableGets", inPlace := ["internal/abi.NoEscape", "internal/bytealg.MakeNoZero"], unfollowed := true, recurses := true, apart := false, narrowed := true }
def TableGetsUptoSaid : Prop := tableGetsUptoRow.holds Try.pinned (OpenSpec.upto tableGetsSpec)

/-- 'cofferdamlaw11.TableAll', WHERE WHAT IT READS IS OF BULK AT MOST 1048576: true; the input reads as it did. -/
def tableAllUptoRow : OpenClaim := { program := "ytlajbmmhgflabaa", sum := "a8f7b6ec85c7c9e9221fc14ee381990e1b92e6c62a3eb35b7a259db4e09c15cf", func := "cofferdam/cofferdamlaw11.TableAll", spec := "tableAll", inPlace := ["internal/abi.NoEscape", "internal/bytealg.MakeNoZero"], unfollowed := true, recurses := true, apart := false, narrowed := true }
def TableAllUptoSaid : Prop := tableAllUptoRow.holds Try.pinned (OpenSpec.upto tableAllSpec)

/-- 'cofferdamlaw11.TableSets', WHERE WHAT IT READS IS OF BULK AT MOST 1048576: true; the input reads as it did. -/
def tableSetsUptoRow : OpenClaim := { program := "ytlajbmmhgflabaa", sum := "a8f7b6ec85c7c9e9221fc14ee381990e1b92e6c62a3eb35b7a259db4e09c15cf", func := "cofferdam/cofferdamlaw11.TableSets", spec := "tableSets", inPlace := ["internal/abi.NoEscape", "internal/bytealg.MakeNoZero"], unfollowed := true, recurses := true, apart := false, narrowed := true }
def TableSetsUptoSaid : Prop := tableSetsUptoRow.holds Try.pinned (OpenSpec.upto tableSetsSpec)

/-- 'cofferdamlaw11.TableBack', WHERE WHAT IT READS IS OF BULK AT MOST 1048576: true; the input reads as it did. -/
def tableBackUptoRow : OpenClaim := { program := "ytlajbmmhgflabaa", sum := "a8f7b6ec85c7c9e9221fc14ee381990e1b92e6c62a3eb35b7a259db4e09c15cf", func := "cofferdam/cofferdamlaw11.TableBack", spec := "tableBack", inPlace := ["internal/abi.NoEscape", "internal/bytealg.MakeNoZero"], unfollowed := true, recurses := true, apart := false, narrowed := true }
def TableBackUptoSaid : Prop := tableBackUptoRow.holds Try.pinned (OpenSpec.upto tableBackSpec)

/-- 'cofferdamlaw09.AllocDoes', WHERE WHAT IT READS IS OF BULK AT MOST 1048576: true; the input reads as it did. -/
def allocDoesUptoRow : OpenClaim := { program := "ytlajbmmhgflabaa", sum := "a8f7b6ec85c7c9e9221fc14ee381990e1b92e6c62a3eb35b7a259db4e09c15cf", func := "cofferdam/cofferdamlaw09.AllocDoes", spec := "allocDoes", inPlace := ["internal/abi.NoEscape", "internal/bytealg.MakeNoZero"], unfollowed := true, recurses := true, apart := false, narrowed := true }
def AllocDoesUptoSaid : Prop := allocDoesUptoRow.holds Try.pinned (OpenSpec.upto allocDoesSpec)

/-- 'cofferdamlaw09.AllocTakes', WHERE WHAT IT READS IS OF BULK AT MOST 1048576: true; the input reads as it did. -/
def allocTakesUptoRow : OpenClaim := { program := "ytlajbmmhgflabaa", sum := "a8f7b6ec85c7c9e9221fc14ee381990e1b92e6c62a3eb35b7a259db4e09c15cf", func := "cofferdam/cofferdamlaw09.AllocTakes", spec := "allocTakes", inPlace := ["internal/abi.NoEscape", "internal/bytealg.MakeNoZero"], unfollowed := true, recurses := true, apart := false, narrowed := true }
def AllocTakesUptoSaid : Prop := allocTakesUptoRow.holds Try.pinned (OpenSpec.upto allocTakesSpec)

/-- 'cofferdamlaw09.AllocFirst', WHERE WHAT IT READS IS OF BULK AT MOST 1048576: true; the input reads as it did. -/
def allocFirstUptoRow : OpenClaim := { program := "ytlajbmmhgflabaa", sum := "a8f7b6ec85c7c9e9221fc14ee381990e1b92e6c62a3eb35b7a259db4e09c15cf", func := "cofferdam/cofferdamlaw09.AllocFirst", spec := "allocFirst", inPlace := ["internal/abi.NoEscape", "internal/bytealg.MakeNoZero"], unfollowed := true, recurses := true, apart := false, narrowed := true }
def AllocFirstUptoSaid : Prop := allocFirstUptoRow.holds Try.pinned (OpenSpec.upto allocFirstSpec)

end Rows
end Go.Proofs.Ytlajbmmhgflabaa
