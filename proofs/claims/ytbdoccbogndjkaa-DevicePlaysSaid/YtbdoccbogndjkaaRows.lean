/-
  No cell of these rows narrows 'for every input' (looked for: loops, veiled, ifaces, maps, wideKeys, modest, calm, conditions, laid).
  DERIVED. THE GIVEN ROWS OF THIS SEAT. 4 by the template 'for every input the law returns true; each argument reads behind the call as it read before'; 0 by the template 'total and deterministic' (their statements: YtbdoccbogndjkaaTotals.lean).
  GIVEN WITH THE SEED: the statements are not yours to turn. If you find one false, say at which input.
  Laid BY PROGRAM, IN A SANDBOX (cutbox-rows.mjs): the forced cells as the released guide's own fill.sh prints them over the translation a9e05da365f55de4… (all of the seat's roots in one cut). By AI agents, Wed Nov 11 2026. No macro, syntax, notation, axiom, sorry.
-/
import Derived.Test.YtbdoccbogndjkaaChecked
import GoSem.Claim
import GoSem.ClaimJoined
import GoSem.ClaimMapViews
import Derived.JoinedTies
import Derived.KernelRfl
namespace Go.Proofs.Ytbdoccbogndjkaa
/- THE CELL 'sum', in the pinned program and in every row, IS THE sha256 OF THE DUMP (.gsa) THAT YtbdoccbogndjkaaProg.lean LOADS. Nothing in Lean hashes anything: it is a label: what it is worth is what the hold of that sum in a sandbox is worth. -/
noncomputable def Try.pinned : Pinned := { name := "ytbdoccbogndjkaa", sum := "a9e05da365f55de469584f3072ff8b57d9d7c54839d54b65b1e11531c057608c", checked := Try.checked }
namespace Rows
def none {H : Type} : Left H := { results := [], args := [] }

/-- 'armoirelaw03.DeviceMay': WHATEVER THE INPUT: true; the input reads as it did. -/
def deviceMaySpec : ChangeSpec := { name := "deviceMay", fn := fun _ => fun
  | [d] => { results := [.lit (.bool true)], args := [d] }
  | _ => none }
def deviceMayRow : OpenClaim := { program := "ytbdoccbogndjkaa", sum := "a9e05da365f55de469584f3072ff8b57d9d7c54839d54b65b1e11531c057608c", func := "armoire/armoirelaw03.DeviceMay", spec := "deviceMay", unfollowed := true, recurses := true, apart := false }
def DeviceMaySaid : Prop := deviceMayRow.holds Try.pinned (OpenSpec.ofChange deviceMaySpec)

/-- ITS FALSE NEIGHBOUR: 'it returns false'. Refute it at one input. -/
def deviceMayWrong : ChangeSpec := { name := "deviceMay", fn := fun _ => fun
  | [d] => { results := [.lit (.bool false)], args := [d] }
  | _ => none }
def DeviceMayWrongFalsely : Prop := deviceMayRow.holds Try.pinned (OpenSpec.ofChange deviceMayWrong)

/-- 'armoirelaw03.DeviceLasts': WHATEVER THE INPUT: true; the input reads as it did. -/
def deviceLastsSpec : ChangeSpec := { name := "deviceLasts", fn := fun _ => fun
  | [d1, d2, d3] => { results := [.lit (.bool true)], args := [d1, d2, d3] }
  | _ => none }
def deviceLastsRow : OpenClaim := { program := "ytbdoccbogndjkaa", sum := "a9e05da365f55de469584f3072ff8b57d9d7c54839d54b65b1e11531c057608c", func := "armoire/armoirelaw03.DeviceLasts", spec := "deviceLasts", unfollowed := true, recurses := true, apart := false }
def DeviceLastsSaid : Prop := deviceLastsRow.holds Try.pinned (OpenSpec.ofChange deviceLastsSpec)

/-- ITS FALSE NEIGHBOUR: 'it returns false'. Refute it at one input. -/
def deviceLastsWrong : ChangeSpec := { name := "deviceLasts", fn := fun _ => fun
  | [d1, d2, d3] => { results := [.lit (.bool false)], args := [d1, d2, d3] }
  | _ => none }
def DeviceLastsWrongFalsely : Prop := deviceLastsRow.holds Try.pinned (OpenSpec.ofChange deviceLastsWrong)

/-- 'armoirelaw03.DeviceArms': WHATEVER THE INPUT: true; the input reads as it did. -/
def deviceArmsSpec : ChangeSpec := { name := "deviceArms", fn := fun _ => fun
  | [d1, d2] => { results := [.lit (.bool true)], args := [d1, d2] }
  | _ => none }
def deviceArmsRow : OpenClaim := { program := "ytbdoccbogndjkaa", sum := "a9e05da365f55de469584f3072ff8b57d9d7c54839d54b65b1e11531c057608c", func := "armoire/armoirelaw03.DeviceArms", spec := "deviceArms", unfollowed := true, recurses := true, apart := false }
def DeviceArmsSaid : Prop := deviceArmsRow.holds Try.pinned (OpenSpec.ofChange deviceArmsSpec)

/-- ITS FALSE NEIGHBOUR: 'it returns false'. Refute it at one input. -/
def deviceArmsWrong : ChangeSpec := { name := "deviceArms", fn := fun _ => fun
  | [d1, d2] => { results := [.lit (.bool false)], args := [d1, d2] }
  | _ => none }
def DeviceArmsWrongFalsely : Prop := deviceArmsRow.holds Try.pinned (OpenSpec.ofChange deviceArmsWrong)

/-- 'armoirelaw03.DevicePlays': WHATEVER THE INPUT: true; the input reads as it did. -/
def devicePlaysSpec : ChangeSpec := { name := "devicePlays", fn := fun _ => fun
  | [d1, d2] => { results := [.lit (.bool true)], args := [d1, d2] }
  | _ => none }
def devicePlaysRow : OpenClaim := { program := "ytbdoccbogndjkaa", sum := "a9e05da365f55de469584f3072ff8b57d9d7c54839d54b65b1e11531c057608c", func := "armoire/armoirelaw03.DevicePlays", spec := "devicePlays", unfollowed := true, recurses := true, apart := false }
def DevicePlaysSaid : Prop := devicePlaysRow.holds Try.pinned (OpenSpec.ofChange devicePlaysSpec)

/-- ITS FALSE NEIGHBOUR: 'it returns false'. Refute it at one input. -/
def devicePlaysWrong : ChangeSpec := { name := "devicePlays", fn := fun _ => fun
  | [d1, d2] => { results := [.lit (.bool false)], args := [d1, d2] }
  | _ => none }
def DevicePlaysWrongFalsely : Prop := devicePlaysRow.holds Try.pinned (OpenSpec.ofChange devicePlaysWrong)

/- THE SECOND FORM. 'bulk': how many values and letters a reading holds, each counted each time it is reached (what is shared counts as often as it is met; a slice's spare places count too). A statement '..UptoSaid' is the law's where the arguments, and the package variables that the reading takes, are together of bulk at most 1048576: NARROWER than '..Said'. Prove '..Said' where nothing that the law and all that it calls make is longer than what came in: it says more and counts as full. Else prove '..UptoSaid'. A law counts once. -/
mutual
def uptoBulk {H : Type} : DataW H → Nat
  | .lit (.string bytes) => bytes.length + 1
  | .lit _ => 1
  | .nil => 1
  | .ptr d => uptoBulk d + 1
  | .slice elems spare => uptoBulkAll elems + uptoBulkAll spare + 1
  | .agg parts => uptoBulkAll parts + 1
  | .iface _ d => uptoBulk d + 1
  | .map entries => uptoBulkEntries entries + 1
  | .held _ => 1
def uptoBulkAll {H : Type} : List (DataW H) → Nat
  | [] => 0
  | d :: r => uptoBulk d + uptoBulkAll r
def uptoBulkEntries {H : Type} : List (Lit × DataW H) → Nat
  | [] => 0
  | x :: r => uptoBulkEntry x + uptoBulkEntries r
def uptoBulkEntry {H : Type} : Lit × DataW H → Nat
  | (.string bytes, d) => bytes.length + uptoBulk d + 1
  | (_, d) => uptoBulk d + 1
 end
def uptoSmall : (H : Type) → List (DataW H) → Bool := fun _ ds => decide (uptoBulkAll ds ≤ 1048576)
def OpenSpec.upto (s : _root_.Go.ChangeSpec) : _root_.Go.OpenSpec := { _root_.Go.OpenSpec.ofChange s with cond := some uptoSmall }

/-- 'armoirelaw03.DeviceMay', WHERE WHAT IT READS IS OF BULK AT MOST 1048576: true; the input reads as it did. -/
def deviceMayUptoRow : OpenClaim := { program := "ytbdoccbogndjkaa", sum := "a9e05da365f55de469584f3072ff8b57d9d7c54839d54b65b1e11531c057608c", func := "armoire/armoirelaw03.DeviceMay", spec := "deviceMay", unfollowed := true, recurses := true, apart := false, narrowed := true }
def DeviceMayUptoSaid : Prop := deviceMayUptoRow.holds Try.pinned (OpenSpec.upto deviceMaySpec)

/-- 'armoirelaw03.DeviceLasts', WHERE WHAT IT READS IS OF BULK AT MOST 1048576: true; the input reads as it did. -/
def deviceLastsUptoRow : OpenClaim := { program := "ytbdoccbogndjkaa", sum := "a9e05da365f55de469584f3072ff8b57d9d7c54839d54b65b1e11531c057608c", func := "armoire/armoirelaw03.DeviceLasts", spec := "deviceLasts", unfollowed := true, recurses := true, apart := false, narrowed := true }
def DeviceLastsUptoSaid : Prop := deviceLastsUptoRow.holds Try.pinned (OpenSpec.upto deviceLastsSpec)

/-- 'armoirelaw03.DeviceArms', WHERE WHAT IT READS IS OF BULK AT MOST 1048576: true; the input reads as it did. -/
def deviceArmsUptoRow : OpenClaim := { program := "ytbdoccbogndjkaa", sum := "a9e05da365f55de469584f3072ff8b57d9d7c54839d54b65b1e11531c057608c", func := "armoire/armoirelaw03.DeviceArms", spec := "deviceArms", unfollowed := true, recurses := true, apart := false, narrowed := true }
def DeviceArmsUptoSaid : Prop := deviceArmsUptoRow.holds Try.pinned (OpenSpec.upto deviceArmsSpec)

/-- 'armoirelaw03.DevicePlays', WHERE WHAT IT READS IS OF BULK AT MOST 1048576: true; the input reads as it did. -/
def devicePlaysUptoRow : OpenClaim := { program := "ytbdoccbogndjkaa", sum := "a9e05da365f55de469584f3072ff8b57d9d7c54839d54b65b1e11531c057608c", func := "armoire/armoirelaw03.DevicePlays", spec := "devicePlays", unfollowed := true, recurses := true, apart := false, narrowed := true }
def DevicePlaysUptoSaid : Prop := devicePlaysUptoRow.holds Try.pinned (OpenSpec.upto devicePlaysSpec)

end Rows
end Go.Proofs.Ytbdoccbogndjkaa
