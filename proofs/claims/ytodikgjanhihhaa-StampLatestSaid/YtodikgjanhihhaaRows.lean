/-
  No cell of these rows narrows 'for every input' (looked for: loops, veiled, ifaces, maps, wideKeys, modest, calm, conditions, laid).
  DERIVED. THE GIVEN ROWS OF THIS SEAT. 4 by the template 'for every input the law returns true; each argument reads behind the call as it read before'; 0 by the template 'total and deterministic' (their statements: YtodikgjanhihhaaTotals.lean).
  GIVEN WITH THE SEED: the statements are not yours to turn. If you find one false, say at which input.
  Laid BY PROGRAM, IN A SANDBOX (cutbox-rows.mjs): the forced cells as the released guide's own fill.sh prints them over the translation ca77bbdb1727df3b… (all of the seat's roots in one cut). By AI agents, Wed Nov 11 2026. No macro, syntax, notation, axiom, sorry.
-/
import Derived.Test.YtodikgjanhihhaaChecked
import GoSem.Claim
import GoSem.ClaimJoined
import GoSem.ClaimMapViews
import Derived.JoinedTies
import Derived.KernelRfl
namespace Go.Proofs.Ytodikgjanhihhaa
/- THE CELL 'sum', in the pinned program and in every row, IS THE sha256 OF THE DUMP (.gsa) THAT YtodikgjanhihhaaProg.lean LOADS. Nothing in Lean hashes anything: it is a label: what it is worth is what the hold of that sum in a sandbox is worth. -/
noncomputable def Try.pinned : Pinned := { name := "ytodikgjanhihhaa", sum := "ca77bbdb1727df3bb777e852d4c68403f13e3c9916bd01a31e1c56bfbcdd8490", checked := Try.checked }
namespace Rows
def none {H : Type} : Left H := { results := [], args := [] }

/-- 'armoirelaw04.StampTexts': WHATEVER THE INPUT: true; the input reads as it did. -/
def stampTextsSpec : ChangeSpec := { name := "stampTexts", fn := fun _ => fun
  | [d] => { results := [.lit (.bool true)], args := [d] }
  | _ => none }
def stampTextsRow : OpenClaim := { program := "ytodikgjanhihhaa", sum := "ca77bbdb1727df3bb777e852d4c68403f13e3c9916bd01a31e1c56bfbcdd8490", func := "armoire/armoirelaw04.StampTexts", spec := "stampTexts", unfollowed := true, recurses := true, apart := false }
def StampTextsSaid : Prop := stampTextsRow.holds Try.pinned (OpenSpec.ofChange stampTextsSpec)

/-- ITS FALSE NEIGHBOUR: 'it returns false'. Refute it at one input. -/
def stampTextsWrong : ChangeSpec := { name := "stampTexts", fn := fun _ => fun
  | [d] => { results := [.lit (.bool false)], args := [d] }
  | _ => none }
def StampTextsWrongFalsely : Prop := stampTextsRow.holds Try.pinned (OpenSpec.ofChange stampTextsWrong)

/-- 'armoirelaw04.StampParses': WHATEVER THE INPUT: true; the input reads as it did. -/
def stampParsesSpec : ChangeSpec := { name := "stampParses", fn := fun _ => fun
  | [d1, d2] => { results := [.lit (.bool true)], args := [d1, d2] }
  | _ => none }
def stampParsesRow : OpenClaim := { program := "ytodikgjanhihhaa", sum := "ca77bbdb1727df3bb777e852d4c68403f13e3c9916bd01a31e1c56bfbcdd8490", func := "armoire/armoirelaw04.StampParses", spec := "stampParses", unfollowed := true, recurses := true, apart := false }
def StampParsesSaid : Prop := stampParsesRow.holds Try.pinned (OpenSpec.ofChange stampParsesSpec)

/-- ITS FALSE NEIGHBOUR: 'it returns false'. Refute it at one input. -/
def stampParsesWrong : ChangeSpec := { name := "stampParses", fn := fun _ => fun
  | [d1, d2] => { results := [.lit (.bool false)], args := [d1, d2] }
  | _ => none }
def StampParsesWrongFalsely : Prop := stampParsesRow.holds Try.pinned (OpenSpec.ofChange stampParsesWrong)

/-- 'armoirelaw04.StampTurns': WHATEVER THE INPUT: true; the input reads as it did. -/
def stampTurnsSpec : ChangeSpec := { name := "stampTurns", fn := fun _ => fun
  | [d1, d2, d3, d4] => { results := [.lit (.bool true)], args := [d1, d2, d3, d4] }
  | _ => none }
def stampTurnsRow : OpenClaim := { program := "ytodikgjanhihhaa", sum := "ca77bbdb1727df3bb777e852d4c68403f13e3c9916bd01a31e1c56bfbcdd8490", func := "armoire/armoirelaw04.StampTurns", spec := "stampTurns", unfollowed := true, recurses := true, apart := false }
def StampTurnsSaid : Prop := stampTurnsRow.holds Try.pinned (OpenSpec.ofChange stampTurnsSpec)

/-- ITS FALSE NEIGHBOUR: 'it returns false'. Refute it at one input. -/
def stampTurnsWrong : ChangeSpec := { name := "stampTurns", fn := fun _ => fun
  | [d1, d2, d3, d4] => { results := [.lit (.bool false)], args := [d1, d2, d3, d4] }
  | _ => none }
def StampTurnsWrongFalsely : Prop := stampTurnsRow.holds Try.pinned (OpenSpec.ofChange stampTurnsWrong)

/-- 'armoirelaw04.StampLatest': WHATEVER THE INPUT: true; the input reads as it did. -/
def stampLatestSpec : ChangeSpec := { name := "stampLatest", fn := fun _ => fun
  | [d1, d2, d3, d4] => { results := [.lit (.bool true)], args := [d1, d2, d3, d4] }
  | _ => none }
def stampLatestRow : OpenClaim := { program := "ytodikgjanhihhaa", sum := "ca77bbdb1727df3bb777e852d4c68403f13e3c9916bd01a31e1c56bfbcdd8490", func := "armoire/armoirelaw04.StampLatest", spec := "stampLatest", unfollowed := true, recurses := true, apart := false }
def StampLatestSaid : Prop := stampLatestRow.holds Try.pinned (OpenSpec.ofChange stampLatestSpec)

/-- ITS FALSE NEIGHBOUR: 'it returns false'. Refute it at one input. -/
def stampLatestWrong : ChangeSpec := { name := "stampLatest", fn := fun _ => fun
  | [d1, d2, d3, d4] => { results := [.lit (.bool false)], args := [d1, d2, d3, d4] }
  | _ => none }
def StampLatestWrongFalsely : Prop := stampLatestRow.holds Try.pinned (OpenSpec.ofChange stampLatestWrong)

/- THE SECOND FORM. 'bulk': how many values and letters a reading holds, each counted each time it is reached (what is shared counts as often as it is met; a slice's spare places count too). A statement '..UptoSaid' is the law's where the arguments, and the package variables that the reading takes, are together of bulk at most 1048576: NARROWER than '..Said'. Prove '..Said' where nothing that the law and all that it calls make is longer than what came in: it says more and counts as full. Else prove '..UptoSaid'. A law counts once. -/
mutual
def uptoBulk {H : Type} : DataW H → Nat
  | .lit (.string bytes) => bytes.length + 1
  | .lit _ => 1
  | .nil => 1
  | .ptr d => uptoBulk d + 1
  | .slice elems spare => uptoBulkAll elems + uptoBulkAll spare + 1
  | .agg parts => uptoBulkAll parts + 1
  | .iface _ d => uptoBulk d + 1
  | .map entries => uptoBulkEntries entries + 1
  | .held _ => 1
def uptoBulkAll {H : Type} : List (DataW H) → Nat
  | [] => 0
  | d :: r => uptoBulk d + uptoBulkAll r
def uptoBulkEntries {H : Type} : List (Lit × DataW H) → Nat
  | [] => 0
  | x :: r => uptoBulkEntry x + uptoBulkEntries r
def uptoBulkEntry {H : Type} : Lit × DataW H → Nat
  | (.string bytes, d) => bytes.length + uptoBulk d + 1
  | (_, d) => uptoBulk d + 1
 end
def uptoSmall : (H : Type) → List (DataW H) → Bool := fun _ ds => decide (uptoBulkAll ds ≤ 1048576)
def OpenSpec.upto (s : _root_.Go.ChangeSpec) : _root_.Go.OpenSpec := { _root_.Go.OpenSpec.ofChange s with cond := some uptoSmall }

/-- 'armoirelaw04.StampTexts', WHERE WHAT IT READS IS OF BULK AT MOST 1048576: true; the input reads as it did. -/
def stampTextsUptoRow : OpenClaim := { program := "ytodikgjanhihhaa", sum := "ca77bbdb1727df3bb777e852d4c68403f13e3c9916bd01a31e1c56bfbcdd8490", func := "armoire/armoirelaw04.StampTexts", spec := "stampTexts", unfollowed := true, recurses := true, apart := false, narrowed := true }
def StampTextsUptoSaid : Prop := stampTextsUptoRow.holds Try.pinned (OpenSpec.upto stampTextsSpec)

/-- 'armoirelaw04.StampParses', WHERE WHAT IT READS IS OF BULK AT MOST 1048576: true; the input reads as it did. -/
def stampParsesUptoRow : OpenClaim := { program := "ytodikgjanhihhaa", sum := "ca77bbdb1727df3bb777e852d4c68403f13e3c9916bd01a31e1c56bfbcdd8490", func := "armoire/armoirelaw04.StampParses", spec := "stampParses", unfollowed := true, recurses := true, apart := false, narrowed := true }
def StampParsesUptoSaid : Prop := stampParsesUptoRow.holds Try.pinned (OpenSpec.upto stampParsesSpec)

/-- 'armoirelaw04.StampTurns', WHERE WHAT IT READS IS OF BULK AT MOST 1048576: true; the input reads as it did. -/
def stampTurnsUptoRow : OpenClaim := { program := "ytodikgjanhihhaa", sum := "ca77bbdb1727df3bb777e852d4c68403f13e3c9916bd01a31e1c56bfbcdd8490", func := "armoire/armoirelaw04.StampTurns", spec := "stampTurns", unfollowed := true, recurses := true, apart := false, narrowed := true }
def StampTurnsUptoSaid : Prop := stampTurnsUptoRow.holds Try.pinned (OpenSpec.upto stampTurnsSpec)

/-- 'armoirelaw04.StampLatest', WHERE WHAT IT READS IS OF BULK AT MOST 1048576: true; the input reads as it did. -/
def stampLatestUptoRow : OpenClaim := { program := "ytodikgjanhihhaa", sum := "ca77bbdb1727df3bb777e852d4c68403f13e3c9916bd01a31e1c56bfbcdd8490", func := "armoire/armoirelaw04.StampLatest", spec := "stampLatest", unfollowed := true, recurses := true, apart := false, narrowed := true }
def StampLatestUptoSaid : Prop := stampLatestUptoRow.holds Try.pinned (OpenSpec.upto stampLatestSpec)

end Rows
end Go.Proofs.Ytodikgjanhihhaa
