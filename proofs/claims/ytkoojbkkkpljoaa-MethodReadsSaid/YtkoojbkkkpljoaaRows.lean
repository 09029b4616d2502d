/-
  No cell of these rows narrows 'for every input' (looked for: loops, veiled, ifaces, maps, wideKeys, modest, calm, conditions, laid).
  DERIVED. THE GIVEN ROWS OF THIS SEAT. 4 by the template 'for every input the law returns true; each argument reads behind the call as it read before'; 0 by the template 'total and deterministic' (their statements: YtkoojbkkkpljoaaTotals.lean).
  GIVEN WITH THE SEED: the statements are not yours to turn. If you find one false, say at which input.
  Laid BY PROGRAM, IN A SANDBOX (cutbox-rows.mjs): the forced cells as the released guide's own fill.sh prints them over the translation 57c50c553bc1d3d2… (all of the seat's roots in one cut). By AI agents, Wed Nov 11 2026. No macro, syntax, notation, axiom, sorry.
-/
import Derived.Test.YtkoojbkkkpljoaaChecked
import GoSem.Claim
import GoSem.ClaimJoined
import GoSem.ClaimMapViews
import Derived.JoinedTies
import Derived.KernelRfl
namespace Go.Proofs.Ytkoojbkkkpljoaa
/- THE CELL 'sum', in the pinned program and in every row, IS THE sha256 OF THE DUMP (.gsa) THAT YtkoojbkkkpljoaaProg.lean LOADS. Nothing in Lean hashes anything: it is a label: what it is worth is what the hold of that sum in a sandbox is worth. -/
noncomputable def Try.pinned : Pinned := { name := "ytkoojbkkkpljoaa", sum := "57c50c553bc1d3d280c4c6880115015d0ba461672616096d547394788e5f483d", checked := Try.checked }
namespace Rows
def none {H : Type} : Left H := { results := [], args := [] }

/-- 'armoirelaw12.MethodOps': WHATEVER THE INPUT: true; the input reads as it did. -/
def methodOpsSpec : ChangeSpec := { name := "methodOps", fn := fun _ => fun
  | [d1, d2, d3, d4] => { results := [.lit (.bool true)], args := [d1, d2, d3, d4] }
  | _ => none }
def methodOpsRow : OpenClaim := { program := "ytkoojbkkkpljoaa", sum := "57c50c553bc1d3d280c4c6880115015d0ba461672616096d547394788e5f483d", func := "armoire/armoirelaw12.MethodOps", spec := "methodOps", apart := false }
def MethodOpsSaid : Prop := methodOpsRow.holds Try.pinned (OpenSpec.ofChange methodOpsSpec)

/-- ITS FALSE NEIGHBOUR: 'it returns false'. Refute it at one input. -/
def methodOpsWrong : ChangeSpec := { name := "methodOps", fn := fun _ => fun
  | [d1, d2, d3, d4] => { results := [.lit (.bool false)], args := [d1, d2, d3, d4] }
  | _ => none }
def MethodOpsWrongFalsely : Prop := methodOpsRow.holds Try.pinned (OpenSpec.ofChange methodOpsWrong)

/-- 'armoirelaw12.MethodCalls': WHATEVER THE INPUT: true; the input reads as it did. -/
def methodCallsSpec : ChangeSpec := { name := "methodCalls", fn := fun _ => fun
  | [d1, d2] => { results := [.lit (.bool true)], args := [d1, d2] }
  | _ => none }
def methodCallsRow : OpenClaim := { program := "ytkoojbkkkpljoaa", sum := "57c50c553bc1d3d280c4c6880115015d0ba461672616096d547394788e5f483d", func := "armoire/armoirelaw12.MethodCalls", spec := "methodCalls", apart := false }
def MethodCallsSaid : Prop := methodCallsRow.holds Try.pinned (OpenSpec.ofChange methodCallsSpec)

/-- ITS FALSE NEIGHBOUR: 'it returns false'. Refute it at one input. -/
def methodCallsWrong : ChangeSpec := { name := "methodCalls", fn := fun _ => fun
  | [d1, d2] => { results := [.lit (.bool false)], args := [d1, d2] }
  | _ => none }
def MethodCallsWrongFalsely : Prop := methodCallsRow.holds Try.pinned (OpenSpec.ofChange methodCallsWrong)

/-- 'armoirelaw12.MethodResults': WHATEVER THE INPUT: true; the input reads as it did. -/
def methodResultsSpec : ChangeSpec := { name := "methodResults", fn := fun _ => fun
  | [d] => { results := [.lit (.bool true)], args := [d] }
  | _ => none }
def methodResultsRow : OpenClaim := { program := "ytkoojbkkkpljoaa", sum := "57c50c553bc1d3d280c4c6880115015d0ba461672616096d547394788e5f483d", func := "armoire/armoirelaw12.MethodResults", spec := "methodResults", apart := false }
def MethodResultsSaid : Prop := methodResultsRow.holds Try.pinned (OpenSpec.ofChange methodResultsSpec)

/-- ITS FALSE NEIGHBOUR: 'it returns false'. Refute it at one input. -/
def methodResultsWrong : ChangeSpec := { name := "methodResults", fn := fun _ => fun
  | [d] => { results := [.lit (.bool false)], args := [d] }
  | _ => none }
def MethodResultsWrongFalsely : Prop := methodResultsRow.holds Try.pinned (OpenSpec.ofChange methodResultsWrong)

/-- 'armoirelaw12.MethodReads': WHATEVER THE INPUT: true; the input reads as it did. -/
def methodReadsSpec : ChangeSpec := { name := "methodReads", fn := fun _ => fun
  | [d] => { results := [.lit (.bool true)], args := [d] }
  | _ => none }
def methodReadsRow : OpenClaim := { program := "ytkoojbkkkpljoaa", sum := "57c50c553bc1d3d280c4c6880115015d0ba461672616096d547394788e5f483d", func := "armoire/armoirelaw12.MethodReads", spec := "methodReads", apart := false }
def MethodReadsSaid : Prop := methodReadsRow.holds Try.pinned (OpenSpec.ofChange methodReadsSpec)

/-- ITS FALSE NEIGHBOUR: 'it returns false'. Refute it at one input. -/
def methodReadsWrong : ChangeSpec := { name := "methodReads", fn := fun _ => fun
  | [d] => { results := [.lit (.bool false)], args := [d] }
  | _ => none }
def MethodReadsWrongFalsely : Prop := methodReadsRow.holds Try.pinned (OpenSpec.ofChange methodReadsWrong)

/- THE SECOND FORM. 'bulk': how many values and letters a reading holds, each counted each time it is reached (what is shared counts as often as it is met; a slice's spare places count too). A statement '..UptoSaid' is the law's where the arguments, and the package variables that the reading takes, are together of bulk at most 1048576: NARROWER than '..Said'. Prove '..Said' where nothing that the law and all that it calls make is longer than what came in: it says more and counts as full. Else prove '..UptoSaid'. A law counts once. -/
mutual
def uptoBulk {H : Type} : DataW H → Nat
  | .lit (.string bytes) => bytes.length + 1
  | .lit _ => 1
  | .nil => 1
  | .ptr d => uptoBulk d + 1
  | .slice elems spare => uptoBulkAll elems + uptoBulkAll spare + 1
  | .agg parts => uptoBulkAll parts + 1
  | .iface _ d => uptoBulk d + 1
  | .map entries => uptoBulkEntries entries + 1
  | .held _ => 1
def uptoBulkAll {H : Type} : List (DataW H) → Nat
  | [] => 0
  | d :: r => uptoBulk d + uptoBulkAll r
def uptoBulkEntries {H : Type} : List (Lit × DataW H) → Nat
  | [] => 0
  | x :: r => uptoBulkEntry x + uptoBulkEntries r
def uptoBulkEntry {H : Type} : Lit × DataW H → Nat
  | (.string bytes, d) => bytes.length + uptoBulk d + 1
  | (_, d) => uptoBulk d + 1
 end
def uptoSmall : (H : Type) → List (DataW H) → Bool := fun _ ds => decide (uptoBulkAll ds ≤ 1048576)
def OpenSpec.upto (s : _root_.Go.ChangeSpec) : _root_.Go.OpenSpec := { _root_.Go.OpenSpec.ofChange s with cond := some uptoSmall }

/-- 'armoirelaw12.MethodOps', WHERE WHAT IT READS IS OF BULK AT MOST 1048576: true; the input reads as it did. -/
def methodOpsUptoRow : OpenClaim := { program := "ytkoojbkkkpljoaa", sum := "57c50c553bc1d3d280c4c6880115015d0ba461672616096d547394788e5f483d", func := "armoire/armoirelaw12.MethodOps", spec := "methodOps", apart := false, narrowed := true }
def MethodOpsUptoSaid : Prop := methodOpsUptoRow.holds Try.pinned (OpenSpec.upto methodOpsSpec)

/-- 'armoirelaw12.MethodCalls', WHERE WHAT IT READS IS OF BULK AT MOST 1048576: true; the input reads as it did. -/
def methodCallsUptoRow : OpenClaim := { program := "ytkoojbkkkpljoaa", sum := "57c50c553bc1d3d280c4c6880115015d0ba461672616096d547394788e5f483d", func := "armoire/armoirelaw12.MethodCalls", spec := "methodCalls", apart := false, narrowed := true }
def MethodCallsUptoSaid : Prop := methodCallsUptoRow.holds Try.pinned (OpenSpec.upto methodCallsSpec)

/-- 'armoirelaw12.MethodResults', WHERE WHAT IT READS IS OF BULK AT MOST 1048576: true; the input reads as it did. -/
def methodResultsUptoRow : OpenClaim := { program := "ytkoojbkkkpljoaa", sum := "57c50c553bc1d3d280c4c6880115015d0ba461672616096d547394788e5f483d", func := "armoire/armoirelaw12.MethodResults", spec := "methodResults", apart := false, narrowed := true }
def MethodResultsUptoSaid : Prop := methodResultsUptoRow.holds Try.pinned (OpenSpec.upto methodResultsSpec)

/-- 'armoirelaw12.MethodReads', WHERE WHAT IT READS IS OF BULK AT MOST 1048576: true; the input reads as it did. -/
def methodReadsUptoRow : OpenClaim := { program := "ytkoojbkkkpljoaa", sum := "57c50c553bc1d3d280c4c6880115015d0ba461672616096d547394788e5f483d", func := "armoire/armoirelaw12.MethodReads", spec := "methodReads", apart := false, narrowed := true }
def MethodReadsUptoSaid : Prop := methodReadsUptoRow.holds Try.pinned (OpenSpec.upto methodReadsSpec)

end Rows
end Go.Proofs.Ytkoojbkkkpljoaa
