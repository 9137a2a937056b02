/-
  DERIVED. GIVEN WITH THE SEED: THE CARDS: each row of YtgmfjibmdfpkdaaDoorRows.lean that lists a variable, with what it lists TIED to the program's text (the seventh form; the later family's looks); each row that meets fmt, with fmt's text TOLD by the authors' own Lean function (tested against real Go, not proved from fmt's source: count such statements apart). THE CARD IS WHAT COUNTS. Prove the row's statement (the work); the ties are given (YtgmfjibmdfpkdaaDoorTie.lean); close each card by the builder's one call (the guide's Derived/Test/ToyasCard.lean, 'card_holds'). Laid BY PROGRAM, IN A SANDBOX (cutbox-door.mjs). By AI agents, Wed Nov 11 2026. No macro, syntax, notation, axiom, sorry.
-/
import Derived.Test.YtgmfjibmdfpkdaaDoorRows
import GoSem.ClaimSeven
namespace Go.Proofs.YtgmfjibmdfpkdaaDoor
namespace Rows

/-- THE TIED CARD OF 'sluicegatelaw3.LabelAll'. -/
def labelAllCard : Claim7 := { stood := { row := labelAllRow, standIns := [], harness := (true, "e3e7b128c75239a9726170f6459c4c607557d032c40a97d3173b3c450c40e2a5"), looks := false }, kinds := [], alts := [], laidByText := true, laidKinds := [.data, .pinned], laidTests := true, laidLooks := .later }
def LabelAllCardSaid : Prop := Claim7.holds Tryd.pinned (.plain (OpenSpec.ofChange labelAllSpec)) labelAllCard

/-- THE TIED CARD OF 'sluicegatelaw3.LabelOne'. -/
def labelOneCard : Claim7 := { stood := { row := labelOneRow, standIns := [], harness := (true, "e3e7b128c75239a9726170f6459c4c607557d032c40a97d3173b3c450c40e2a5"), looks := false }, kinds := [], alts := [], laidByText := true, laidKinds := [.data, .pinned], laidTests := true, laidLooks := .later }
def LabelOneCardSaid : Prop := Claim7.holds Tryd.pinned (.plain (OpenSpec.ofChange labelOneSpec)) labelOneCard

/-- THE TIED CARD OF 'sluicegatelaw3.LabelJoin'. -/
def labelJoinCard : Claim7 := { stood := { row := labelJoinRow, standIns := [], harness := (true, "e3e7b128c75239a9726170f6459c4c607557d032c40a97d3173b3c450c40e2a5"), looks := false }, kinds := [], alts := [], laidByText := true, laidKinds := [.data, .pinned], laidTests := true, laidLooks := .later }
def LabelJoinCardSaid : Prop := Claim7.holds Tryd.pinned (.plain (OpenSpec.ofChange labelJoinSpec)) labelJoinCard

/-- THE TIED CARD OF 'sluicegatelaw3.LabelCut'. -/
def labelCutCard : Claim7 := { stood := { row := labelCutRow, standIns := [], harness := (true, "e3e7b128c75239a9726170f6459c4c607557d032c40a97d3173b3c450c40e2a5"), looks := false }, kinds := [], alts := [], laidByText := true, laidKinds := [.data, .pinned], laidTests := true, laidLooks := .later }
def LabelCutCardSaid : Prop := Claim7.holds Tryd.pinned (.plain (OpenSpec.ofChange labelCutSpec)) labelCutCard

/-- THE TIED CARD OF 'sluicegatelaw3.LabelKey'. -/
def labelKeyCard : Claim7 := { stood := { row := labelKeyRow, standIns := [], harness := (true, "e3e7b128c75239a9726170f6459c4c607557d032c40a97d3173b3c450c40e2a5"), looks := false }, kinds := [], alts := [], laidByText := true, laidKinds := [.data, .pinned], laidTests := true, laidLooks := .later }
def LabelKeyCardSaid : Prop := Claim7.holds Tryd.pinned (.plain (OpenSpec.ofChange labelKeySpec)) labelKeyCard

/-- THE SECOND FORM's CARD OF 'sluicegatelaw3.LabelAll'. -/
def labelAllUptoCard : Claim7 := { stood := { row := labelAllUptoRow, standIns := [], harness := (true, "e3e7b128c75239a9726170f6459c4c607557d032c40a97d3173b3c450c40e2a5"), looks := false }, kinds := [], alts := [], laidByText := true, laidKinds := [.data, .pinned], laidTests := true, laidLooks := .later }
def LabelAllUptoCardSaid : Prop := Claim7.holds Tryd.pinned (.plain (OpenSpec.upto labelAllSpec)) labelAllUptoCard

/-- THE SECOND FORM's CARD OF 'sluicegatelaw3.LabelOne'. -/
def labelOneUptoCard : Claim7 := { stood := { row := labelOneUptoRow, standIns := [], harness := (true, "e3e7b128c75239a9726170f6459c4c607557d032c40a97d3173b3c450c40e2a5"), looks := false }, kinds := [], alts := [], laidByText := true, laidKinds := [.data, .pinned], laidTests := true, laidLooks := .later }
def LabelOneUptoCardSaid : Prop := Claim7.holds Tryd.pinned (.plain (OpenSpec.upto labelOneSpec)) labelOneUptoCard

/-- THE SECOND FORM's CARD OF 'sluicegatelaw3.LabelJoin'. -/
def labelJoinUptoCard : Claim7 := { stood := { row := labelJoinUptoRow, standIns := [], harness := (true, "e3e7b128c75239a9726170f6459c4c607557d032c40a97d3173b3c450c40e2a5"), looks := false }, kinds := [], alts := [], laidByText := true, laidKinds := [.data, .pinned], laidTests := true, laidLooks := .later }
def LabelJoinUptoCardSaid : Prop := Claim7.holds Tryd.pinned (.plain (OpenSpec.upto labelJoinSpec)) labelJoinUptoCard

/-- THE SECOND FORM's CARD OF 'sluicegatelaw3.LabelCut'. -/
def labelCutUptoCard : Claim7 := { stood := { row := labelCutUptoRow, standIns := [], harness := (true, "e3e7b128c75239a9726170f6459c4c607557d032c40a97d3173b3c450c40e2a5"), looks := false }, kinds := [], alts := [], laidByText := true, laidKinds := [.data, .pinned], laidTests := true, laidLooks := .later }
def LabelCutUptoCardSaid : Prop := Claim7.holds Tryd.pinned (.plain (OpenSpec.upto labelCutSpec)) labelCutUptoCard

/-- THE SECOND FORM's CARD OF 'sluicegatelaw3.LabelKey'. -/
def labelKeyUptoCard : Claim7 := { stood := { row := labelKeyUptoRow, standIns := [], harness := (true, "e3e7b128c75239a9726170f6459c4c607557d032c40a97d3173b3c450c40e2a5"), looks := false }, kinds := [], alts := [], laidByText := true, laidKinds := [.data, .pinned], laidTests := true, laidLooks := .later }
def LabelKeyUptoCardSaid : Prop := Claim7.holds Tryd.pinned (.plain (OpenSpec.upto labelKeySpec)) labelKeyUptoCard
end Rows
end Go.Proofs.YtgmfjibmdfpkdaaDoor
