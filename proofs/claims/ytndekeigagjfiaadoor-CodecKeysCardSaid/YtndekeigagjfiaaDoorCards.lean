/-
  DERIVED. GIVEN WITH THE SEED: THE CARDS: each row of YtndekeigagjfiaaDoorRows.lean that lists a variable, with what it lists TIED to the program's text (the seventh form; the later family's looks); each row that meets fmt, with fmt's text TOLD by the authors' own Lean function (tested against real Go, not proved from fmt's source: count such statements apart). THE CARD IS WHAT COUNTS. Prove the row's statement (the work); the ties are given (YtndekeigagjfiaaDoorTie.lean); close each card by the builder's one call (the guide's Derived/Test/ToyasCard.lean, 'card_holds'). Laid BY PROGRAM, IN A SANDBOX (cutbox-door.mjs). By AI agents, Wed Nov 11 2026. No macro, syntax, notation, axiom, sorry.
-/
import Derived.Test.YtndekeigagjfiaaDoorRows
import GoSem.ClaimSeven
namespace Go.Proofs.YtndekeigagjfiaaDoor
namespace Rows

/-- THE TIED CARD OF 'armoirelaw02.CodecOrder'. -/
def codecOrderCard : Claim7 := { stood := { row := codecOrderRow, standIns := [], harness := (true, "326cfaab95840023713c8e062ada539ef170644fa52b0f4da70803e7dce12d8a"), looks := false }, kinds := [], alts := [], laidByText := true, laidKinds := [.data, .pinned], laidTests := true, laidLooks := .later }
def CodecOrderCardSaid : Prop := Claim7.holds Tryd.pinned (.plain (OpenSpec.ofChange codecOrderSpec)) codecOrderCard

/-- THE TIED CARD OF 'armoirelaw02.CodecOne'. -/
def codecOneCard : Claim7 := { stood := { row := codecOneRow, standIns := [], harness := (true, "326cfaab95840023713c8e062ada539ef170644fa52b0f4da70803e7dce12d8a"), looks := false }, kinds := [], alts := [], laidByText := true, laidKinds := [.data, .pinned], laidTests := true, laidLooks := .later }
def CodecOneCardSaid : Prop := Claim7.holds Tryd.pinned (.plain (OpenSpec.ofChange codecOneSpec)) codecOneCard

/-- THE TIED CARD OF 'armoirelaw02.CodecTakes'. -/
def codecTakesCard : Claim7 := { stood := { row := codecTakesRow, standIns := [], harness := (true, "326cfaab95840023713c8e062ada539ef170644fa52b0f4da70803e7dce12d8a"), looks := false }, kinds := [], alts := [], laidByText := true, laidKinds := [.data, .pinned], laidTests := true, laidLooks := .later }
def CodecTakesCardSaid : Prop := Claim7.holds Tryd.pinned (.plain (OpenSpec.ofChange codecTakesSpec)) codecTakesCard

/-- THE TIED CARD OF 'armoirelaw02.CodecKeys'. -/
def codecKeysCard : Claim7 := { stood := { row := codecKeysRow, standIns := [], harness := (true, "326cfaab95840023713c8e062ada539ef170644fa52b0f4da70803e7dce12d8a"), looks := false }, kinds := [], alts := [], laidByText := true, laidKinds := [.data, .pinned], laidTests := true, laidLooks := .later }
def CodecKeysCardSaid : Prop := Claim7.holds Tryd.pinned (.plain (OpenSpec.ofChange codecKeysSpec)) codecKeysCard

/-- THE TIED CARD OF 'armoirelaw02.CodecJoin'. -/
def codecJoinCard : Claim7 := { stood := { row := codecJoinRow, standIns := [], harness := (true, "326cfaab95840023713c8e062ada539ef170644fa52b0f4da70803e7dce12d8a"), looks := false }, kinds := [], alts := [], laidByText := true, laidKinds := [.data, .pinned], laidTests := true, laidLooks := .later }
def CodecJoinCardSaid : Prop := Claim7.holds Tryd.pinned (.plain (OpenSpec.ofChange codecJoinSpec)) codecJoinCard

/-- THE TIED CARD OF 'armoirelaw02.CodecPuts'. -/
def codecPutsCard : Claim7 := { stood := { row := codecPutsRow, standIns := [], harness := (true, "326cfaab95840023713c8e062ada539ef170644fa52b0f4da70803e7dce12d8a"), looks := false }, kinds := [], alts := [], laidByText := true, laidKinds := [.data, .pinned], laidTests := true, laidLooks := .later }
def CodecPutsCardSaid : Prop := Claim7.holds Tryd.pinned (.plain (OpenSpec.ofChange codecPutsSpec)) codecPutsCard

/-- THE SECOND FORM's CARD OF 'armoirelaw02.CodecOrder'. -/
def codecOrderUptoCard : Claim7 := { stood := { row := codecOrderUptoRow, standIns := [], harness := (true, "326cfaab95840023713c8e062ada539ef170644fa52b0f4da70803e7dce12d8a"), looks := false }, kinds := [], alts := [], laidByText := true, laidKinds := [.data, .pinned], laidTests := true, laidLooks := .later }
def CodecOrderUptoCardSaid : Prop := Claim7.holds Tryd.pinned (.plain (OpenSpec.upto codecOrderSpec)) codecOrderUptoCard

/-- THE SECOND FORM's CARD OF 'armoirelaw02.CodecOne'. -/
def codecOneUptoCard : Claim7 := { stood := { row := codecOneUptoRow, standIns := [], harness := (true, "326cfaab95840023713c8e062ada539ef170644fa52b0f4da70803e7dce12d8a"), looks := false }, kinds := [], alts := [], laidByText := true, laidKinds := [.data, .pinned], laidTests := true, laidLooks := .later }
def CodecOneUptoCardSaid : Prop := Claim7.holds Tryd.pinned (.plain (OpenSpec.upto codecOneSpec)) codecOneUptoCard

/-- THE SECOND FORM's CARD OF 'armoirelaw02.CodecTakes'. -/
def codecTakesUptoCard : Claim7 := { stood := { row := codecTakesUptoRow, standIns := [], harness := (true, "326cfaab95840023713c8e062ada539ef170644fa52b0f4da70803e7dce12d8a"), looks := false }, kinds := [], alts := [], laidByText := true, laidKinds := [.data, .pinned], laidTests := true, laidLooks := .later }
def CodecTakesUptoCardSaid : Prop := Claim7.holds Tryd.pinned (.plain (OpenSpec.upto codecTakesSpec)) codecTakesUptoCard

/-- THE SECOND FORM's CARD OF 'armoirelaw02.CodecKeys'. -/
def codecKeysUptoCard : Claim7 := { stood := { row := codecKeysUptoRow, standIns := [], harness := (true, "326cfaab95840023713c8e062ada539ef170644fa52b0f4da70803e7dce12d8a"), looks := false }, kinds := [], alts := [], laidByText := true, laidKinds := [.data, .pinned], laidTests := true, laidLooks := .later }
def CodecKeysUptoCardSaid : Prop := Claim7.holds Tryd.pinned (.plain (OpenSpec.upto codecKeysSpec)) codecKeysUptoCard

/-- THE SECOND FORM's CARD OF 'armoirelaw02.CodecJoin'. -/
def codecJoinUptoCard : Claim7 := { stood := { row := codecJoinUptoRow, standIns := [], harness := (true, "326cfaab95840023713c8e062ada539ef170644fa52b0f4da70803e7dce12d8a"), looks := false }, kinds := [], alts := [], laidByText := true, laidKinds := [.data, .pinned], laidTests := true, laidLooks := .later }
def CodecJoinUptoCardSaid : Prop := Claim7.holds Tryd.pinned (.plain (OpenSpec.upto codecJoinSpec)) codecJoinUptoCard

/-- THE SECOND FORM's CARD OF 'armoirelaw02.CodecPuts'. -/
def codecPutsUptoCard : Claim7 := { stood := { row := codecPutsUptoRow, standIns := [], harness := (true, "326cfaab95840023713c8e062ada539ef170644fa52b0f4da70803e7dce12d8a"), looks := false }, kinds := [], alts := [], laidByText := true, laidKinds := [.data, .pinned], laidTests := true, laidLooks := .later }
def CodecPutsUptoCardSaid : Prop := Claim7.holds Tryd.pinned (.plain (OpenSpec.upto codecPutsSpec)) codecPutsUptoCard
end Rows
end Go.Proofs.YtndekeigagjfiaaDoor
