/-
  No cell of these rows narrows 'for every input' (looked for: loops, veiled, ifaces, maps, wideKeys, modest, calm, conditions, laid).
  DERIVED. THE GIVEN ROWS OF THIS SEAT. 7 by the template 'for every input the law returns true; each argument reads behind the call as it read before'; 0 by the template 'total and deterministic' (their statements: YtfllpmmfjbjgoaaTotals.lean).
  GIVEN WITH THE SEED: the statements are not yours to turn. If you find one false, say at which input.
  Laid BY PROGRAM, IN A SANDBOX (cutbox-rows.mjs): the forced cells as the released guide's own fill.sh prints them over the translation a05d9125b9c00919… (all of the seat's roots in one cut). By AI agents, Wed Nov 11 2026. No macro, syntax, notation, axiom, sorry.
-/
import Derived.Test.YtfllpmmfjbjgoaaChecked
import GoSem.Claim
import GoSem.ClaimJoined
import GoSem.ClaimMapViews
import Derived.JoinedTies
import Derived.KernelRfl
namespace Go.Proofs.Ytfllpmmfjbjgoaa
/- THE CELL 'sum', in the pinned program and in every row, IS THE sha256 OF THE DUMP (.gsa) THAT YtfllpmmfjbjgoaaProg.lean LOADS. Nothing in Lean hashes anything: it is a label: what it is worth is what the hold of that sum in a sandbox is worth. -/
noncomputable def Try.pinned : Pinned := { name := "ytfllpmmfjbjgoaa", sum := "a05d9125b9c00919fe2e98b7a03ea59ba7b27fba8f03341bb5b696c54306f4ef", checked := Try.checked }
namespace Rows
def none {H : Type} : Left H := { results := [], args := [] }

/-- 'armoirelaw05.WalMay': WHATEVER THE INPUT: true; the input reads as it did. -/
def walMaySpec : ChangeSpec := { name := "walMay", fn := fun _ => fun
  | [d1, d2, d3, d4] => { results := [.lit (.bool true)], args := [d1, d2, d3, d4] }
  | _ => none }
def walMayRow : OpenClaim := { program := "ytfllpmmfjbjgoaa", sum := "a05d9125b9c00919fe2e98b7a03ea59ba7b27fba8f03341bb5b696c54306f4ef", func := "armoire/armoirelaw05.WalMay", spec := "walMay", unfollowed := true, recurses := true, apart := false }
def WalMaySaid : Prop := walMayRow.holds Try.pinned (OpenSpec.ofChange walMaySpec)

/-- ITS FALSE NEIGHBOUR: 'it returns false'. Refute it at one input. -/
def walMayWrong : ChangeSpec := { name := "walMay", fn := fun _ => fun
  | [d1, d2, d3, d4] => { results := [.lit (.bool false)], args := [d1, d2, d3, d4] }
  | _ => none }
def WalMayWrongFalsely : Prop := walMayRow.holds Try.pinned (OpenSpec.ofChange walMayWrong)

/-- 'armoirelaw05.WalScans': WHATEVER THE INPUT: true; the input reads as it did. -/
def walScansSpec : ChangeSpec := { name := "walScans", fn := fun _ => fun
  | [d1, d2, d3, d4, d5] => { results := [.lit (.bool true)], args := [d1, d2, d3, d4, d5] }
  | _ => none }
def walScansRow : OpenClaim := { program := "ytfllpmmfjbjgoaa", sum := "a05d9125b9c00919fe2e98b7a03ea59ba7b27fba8f03341bb5b696c54306f4ef", func := "armoire/armoirelaw05.WalScans", spec := "walScans", unfollowed := true, recurses := true, apart := false }
def WalScansSaid : Prop := walScansRow.holds Try.pinned (OpenSpec.ofChange walScansSpec)

/-- ITS FALSE NEIGHBOUR: 'it returns false'. Refute it at one input. -/
def walScansWrong : ChangeSpec := { name := "walScans", fn := fun _ => fun
  | [d1, d2, d3, d4, d5] => { results := [.lit (.bool false)], args := [d1, d2, d3, d4, d5] }
  | _ => none }
def WalScansWrongFalsely : Prop := walScansRow.holds Try.pinned (OpenSpec.ofChange walScansWrong)

/-- 'armoirelaw05.WalPlays': WHATEVER THE INPUT: true; the input reads as it did. -/
def walPlaysSpec : ChangeSpec := { name := "walPlays", fn := fun _ => fun
  | [d1, d2, d3, d4] => { results := [.lit (.bool true)], args := [d1, d2, d3, d4] }
  | _ => none }
def walPlaysRow : OpenClaim := { program := "ytfllpmmfjbjgoaa", sum := "a05d9125b9c00919fe2e98b7a03ea59ba7b27fba8f03341bb5b696c54306f4ef", func := "armoire/armoirelaw05.WalPlays", spec := "walPlays", unfollowed := true, recurses := true, apart := false }
def WalPlaysSaid : Prop := walPlaysRow.holds Try.pinned (OpenSpec.ofChange walPlaysSpec)

/-- ITS FALSE NEIGHBOUR: 'it returns false'. Refute it at one input. -/
def walPlaysWrong : ChangeSpec := { name := "walPlays", fn := fun _ => fun
  | [d1, d2, d3, d4] => { results := [.lit (.bool false)], args := [d1, d2, d3, d4] }
  | _ => none }
def WalPlaysWrongFalsely : Prop := walPlaysRow.holds Try.pinned (OpenSpec.ofChange walPlaysWrong)

/-- 'armoirelaw05.WalDown': WHATEVER THE INPUT: true; the input reads as it did. -/
def walDownSpec : ChangeSpec := { name := "walDown", fn := fun _ => fun
  | [d1, d2, d3] => { results := [.lit (.bool true)], args := [d1, d2, d3] }
  | _ => none }
def walDownRow : OpenClaim := { program := "ytfllpmmfjbjgoaa", sum := "a05d9125b9c00919fe2e98b7a03ea59ba7b27fba8f03341bb5b696c54306f4ef", func := "armoire/armoirelaw05.WalDown", spec := "walDown", unfollowed := true, recurses := true, apart := false }
def WalDownSaid : Prop := walDownRow.holds Try.pinned (OpenSpec.ofChange walDownSpec)

/-- ITS FALSE NEIGHBOUR: 'it returns false'. Refute it at one input. -/
def walDownWrong : ChangeSpec := { name := "walDown", fn := fun _ => fun
  | [d1, d2, d3] => { results := [.lit (.bool false)], args := [d1, d2, d3] }
  | _ => none }
def WalDownWrongFalsely : Prop := walDownRow.holds Try.pinned (OpenSpec.ofChange walDownWrong)

/-- 'armoirelaw05.WalBeyond': WHATEVER THE INPUT: true; the input reads as it did. -/
def walBeyondSpec : ChangeSpec := { name := "walBeyond", fn := fun _ => fun
  | [d1, d2, d3, d4] => { results := [.lit (.bool true)], args := [d1, d2, d3, d4] }
  | _ => none }
def walBeyondRow : OpenClaim := { program := "ytfllpmmfjbjgoaa", sum := "a05d9125b9c00919fe2e98b7a03ea59ba7b27fba8f03341bb5b696c54306f4ef", func := "armoire/armoirelaw05.WalBeyond", spec := "walBeyond", unfollowed := true, recurses := true, apart := false }
def WalBeyondSaid : Prop := walBeyondRow.holds Try.pinned (OpenSpec.ofChange walBeyondSpec)

/-- ITS FALSE NEIGHBOUR: 'it returns false'. Refute it at one input. -/
def walBeyondWrong : ChangeSpec := { name := "walBeyond", fn := fun _ => fun
  | [d1, d2, d3, d4] => { results := [.lit (.bool false)], args := [d1, d2, d3, d4] }
  | _ => none }
def WalBeyondWrongFalsely : Prop := walBeyondRow.holds Try.pinned (OpenSpec.ofChange walBeyondWrong)

/-- 'armoirelaw05.WalPrefix': WHATEVER THE INPUT: true; the input reads as it did. -/
def walPrefixSpec : ChangeSpec := { name := "walPrefix", fn := fun _ => fun
  | [d1, d2, d3, d4] => { results := [.lit (.bool true)], args := [d1, d2, d3, d4] }
  | _ => none }
def walPrefixRow : OpenClaim := { program := "ytfllpmmfjbjgoaa", sum := "a05d9125b9c00919fe2e98b7a03ea59ba7b27fba8f03341bb5b696c54306f4ef", func := "armoire/armoirelaw05.WalPrefix", spec := "walPrefix", unfollowed := true, recurses := true, apart := false }
def WalPrefixSaid : Prop := walPrefixRow.holds Try.pinned (OpenSpec.ofChange walPrefixSpec)

/-- ITS FALSE NEIGHBOUR: 'it returns false'. Refute it at one input. -/
def walPrefixWrong : ChangeSpec := { name := "walPrefix", fn := fun _ => fun
  | [d1, d2, d3, d4] => { results := [.lit (.bool false)], args := [d1, d2, d3, d4] }
  | _ => none }
def WalPrefixWrongFalsely : Prop := walPrefixRow.holds Try.pinned (OpenSpec.ofChange walPrefixWrong)

/-- 'armoirelaw05.WalResume': WHATEVER THE INPUT: true; the input reads as it did. -/
def walResumeSpec : ChangeSpec := { name := "walResume", fn := fun _ => fun
  | [d1, d2, d3, d4] => { results := [.lit (.bool true)], args := [d1, d2, d3, d4] }
  | _ => none }
def walResumeRow : OpenClaim := { program := "ytfllpmmfjbjgoaa", sum := "a05d9125b9c00919fe2e98b7a03ea59ba7b27fba8f03341bb5b696c54306f4ef", func := "armoire/armoirelaw05.WalResume", spec := "walResume", unfollowed := true, recurses := true, apart := false }
def WalResumeSaid : Prop := walResumeRow.holds Try.pinned (OpenSpec.ofChange walResumeSpec)

/-- ITS FALSE NEIGHBOUR: 'it returns false'. Refute it at one input. -/
def walResumeWrong : ChangeSpec := { name := "walResume", fn := fun _ => fun
  | [d1, d2, d3, d4] => { results := [.lit (.bool false)], args := [d1, d2, d3, d4] }
  | _ => none }
def WalResumeWrongFalsely : Prop := walResumeRow.holds Try.pinned (OpenSpec.ofChange walResumeWrong)

/- THE SECOND FORM. 'bulk': how many values and letters a reading holds, each counted each time it is reached (what is shared counts as often as it is met; a slice's spare places count too). A statement '..UptoSaid' is the law's where the arguments, and the package variables that the reading takes, are together of bulk at most 1048576: NARROWER than '..Said'. Prove '..Said' where nothing that the law and all that it calls make is longer than what came in: it says more and counts as full. Else prove '..UptoSaid'. A law counts once. -/
mutual
def uptoBulk {H : Type} : DataW H → Nat
  | .lit (.string bytes) => bytes.length + 1
  | .lit _ => 1
  | .nil => 1
  | .ptr d => uptoBulk d + 1
  | .slice elems spare => uptoBulkAll elems + uptoBulkAll spare + 1
  | .agg parts => uptoBulkAll parts + 1
  | .iface _ d => uptoBulk d + 1
  | .map entries => uptoBulkEntries entries + 1
  | .held _ => 1
def uptoBulkAll {H : Type} : List (DataW H) → Nat
  | [] => 0
  | d :: r => uptoBulk d + uptoBulkAll r
def uptoBulkEntries {H : Type} : List (Lit × DataW H) → Nat
  | [] => 0
  | x :: r => uptoBulkEntry x + uptoBulkEntries r
def uptoBulkEntry {H : Type} : Lit × DataW H → Nat
  | (.string bytes, d) => bytes.length + uptoBulk d + 1
  | (_, d) => uptoBulk d + 1
 end
def uptoSmall : (H : Type) → List (DataW H) → Bool := fun _ ds => decide (uptoBulkAll ds ≤ 1048576)
def OpenSpec.upto (s : _root_.Go.ChangeSpec) : _root_.Go.OpenSpec := { _root_.Go.OpenSpec.ofChange s with cond := some uptoSmall }

/-- 'armoirelaw05.WalMay', WHERE WHAT IT READS IS OF BULK AT MOST 1048576: true; the input reads as it did. -/
def walMayUptoRow : OpenClaim := { program := "ytfllpmmfjbjgoaa", sum := "a05d9125b9c00919fe2e98b7a03ea59ba7b27fba8f03341bb5b696c54306f4ef", func := "armoire/armoirelaw05.WalMay", spec := "walMay", unfollowed := true, recurses := true, apart := false, narrowed := true }
def WalMayUptoSaid : Prop := walMayUptoRow.holds Try.pinned (OpenSpec.upto walMaySpec)

/-- 'armoirelaw05.WalScans', WHERE WHAT IT READS IS OF BULK AT MOST 1048576: true; the input reads as it did. -/
def walScansUptoRow : OpenClaim := { program := "ytfllpmmfjbjgoaa", sum := "a05d9125b9c00919fe2e98b7a03ea59ba7b27fba8f03341bb5b696c54306f4ef", func := "armoire/armoirelaw05.WalScans", spec := "walScans", unfollowed := true, recurses := true, apart := false, narrowed := true }
def WalScansUptoSaid : Prop := walScansUptoRow.holds Try.pinned (OpenSpec.upto walScansSpec)

/-- 'armoirelaw05.WalPlays', WHERE WHAT IT READS IS OF BULK AT MOST 1048576: true; the input reads as it did. -/
def walPlaysUptoRow : OpenClaim := { program := "ytfllpmmfjbjgoaa", sum := "a05d9125b9c00919fe2e98b7a03ea59ba7b27fba8f03341bb5b696c54306f4ef", func := "armoire/armoirelaw05.WalPlays", spec := "walPlays", unfollowed := true, recurses := true, apart := false, narrowed := true }
def WalPlaysUptoSaid : Prop := walPlaysUptoRow.holds Try.pinned (OpenSpec.upto walPlaysSpec)

/-- 'armoirelaw05.WalDown', WHERE WHAT IT READS IS OF BULK AT MOST 1048576: true; the input reads as it did. -/
def walDownUptoRow : OpenClaim := { program := "ytfllpmmfjbjgoaa", sum := "a05d9125b9c00919fe2e98b7a03ea59ba7b27fba8f03341bb5b696c54306f4ef", func := "armoire/armoirelaw05.WalDown", spec := "walDown", unfollowed := true, recurses := true, apart := false, narrowed := true }
def WalDownUptoSaid : Prop := walDownUptoRow.holds Try.pinned (OpenSpec.upto walDownSpec)

/-- 'armoirelaw05.WalBeyond', WHERE WHAT IT READS IS OF BULK AT MOST 1048576: true; the input reads as it did. -/
def walBeyondUptoRow : OpenClaim := { program := "ytfllpmmfjbjgoaa", sum := "a05d9125b9c00919fe2e98b7a03ea59ba7b27fba8f03341bb5b696c54306f4ef", func := "armoire/armoirelaw05.WalBeyond", spec := "walBeyond", unfollowed := true, recurses := true, apart := false, narrowed := true }
def WalBeyondUptoSaid : Prop := walBeyondUptoRow.holds Try.pinned (OpenSpec.upto walBeyondSpec)

/-- 'armoirelaw05.WalPrefix', WHERE WHAT IT READS IS OF BULK AT MOST 1048576: true; the input reads as it did. -/
def walPrefixUptoRow : OpenClaim := { program := "ytfllpmmfjbjgoaa", sum := "a05d9125b9c00919fe2e98b7a03ea59ba7b27fba8f03341bb5b696c54306f4ef", func := "armoire/armoirelaw05.WalPrefix", spec := "walPrefix", unfollowed := true, recurses := true, apart := false, narrowed := true }
def WalPrefixUptoSaid : Prop := walPrefixUptoRow.holds Try.pinned (OpenSpec.upto walPrefixSpec)

/-- 'armoirelaw05.WalResume', WHERE WHAT IT READS IS OF BULK AT MOST 1048576: true; the input reads as it did. -/
def walResumeUptoRow : OpenClaim := { program := "ytfllpmmfjbjgoaa", sum := "a05d9125b9c00919fe2e98b7a03ea59ba7b27fba8f03341bb5b696c54306f4ef", func := "armoire/armoirelaw05.WalResume", spec := "walResume", unfollowed := true, recurses := true, apart := false, narrowed := true }
def WalResumeUptoSaid : Prop := walResumeUptoRow.holds Try.pinned (OpenSpec.upto walResumeSpec)

end Rows
end Go.Proofs.Ytfllpmmfjbjgoaa
