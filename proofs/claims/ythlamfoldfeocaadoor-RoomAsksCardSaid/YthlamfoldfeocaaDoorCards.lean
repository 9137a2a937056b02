/-
  DERIVED. GIVEN WITH THE SEED: THE CARDS: each row of YthlamfoldfeocaaDoorRows.lean that lists a variable, with what it lists TIED to the program's text (the seventh form; the later family's looks); each row that meets fmt, with fmt's text TOLD by the authors' own Lean function (tested against real Go, not proved from fmt's source: count such statements apart). THE CARD IS WHAT COUNTS. Prove the row's statement (the work); the ties are given (YthlamfoldfeocaaDoorTie.lean); close each card by the builder's one call (the guide's Derived/Test/ToyasCard.lean, 'card_holds'). Laid BY PROGRAM, IN A SANDBOX (cutbox-door.mjs). By AI agents, Wed Nov 11 2026. No macro, syntax, notation, axiom, sorry.
-/
import Derived.Test.YthlamfoldfeocaaDoorRows
import GoSem.ClaimSeven
namespace Go.Proofs.YthlamfoldfeocaaDoor
namespace Rows

/-- THE TIED CARD OF 'sluicegatelaw20.RoomAsks'. -/
def roomAsksCard : Claim7 := { stood := { row := roomAsksRow, standIns := [], harness := (true, "8405d467b5a2fa4216aa17524952e9da0b8b95cb3ed888d336c8474d65a6858d"), looks := false }, kinds := [], alts := [], laidByText := true, laidKinds := [.data, .pinned], laidTests := true, laidLooks := .later }
def RoomAsksCardSaid : Prop := Claim7.holds Tryd.pinned (.plain (OpenSpec.ofChange roomAsksSpec)) roomAsksCard

/-- THE TIED CARD OF 'sluicegatelaw20.RoomAsking'. -/
def roomAskingCard : Claim7 := { stood := { row := roomAskingRow, standIns := [], harness := (true, "8405d467b5a2fa4216aa17524952e9da0b8b95cb3ed888d336c8474d65a6858d"), looks := false }, kinds := [], alts := [], laidByText := true, laidKinds := [.data, .pinned], laidTests := true, laidLooks := .later }
def RoomAskingCardSaid : Prop := Claim7.holds Tryd.pinned (.plain (OpenSpec.ofChange roomAskingSpec)) roomAskingCard

/-- THE TIED CARD OF 'sluicegatelaw20.RoomKeeps'. -/
def roomKeepsCard : Claim7 := { stood := { row := roomKeepsRow, standIns := [], harness := (true, "8405d467b5a2fa4216aa17524952e9da0b8b95cb3ed888d336c8474d65a6858d"), looks := false }, kinds := [], alts := [], laidByText := true, laidKinds := [.data, .pinned], laidTests := true, laidLooks := .later }
def RoomKeepsCardSaid : Prop := Claim7.holds Tryd.pinned (.plain (OpenSpec.ofChange roomKeepsSpec)) roomKeepsCard

/-- THE TIED CARD OF 'sluicegatelaw20.RoomSound'. -/
def roomSoundCard : Claim7 := { stood := { row := roomSoundRow, standIns := [], harness := (true, "8405d467b5a2fa4216aa17524952e9da0b8b95cb3ed888d336c8474d65a6858d"), looks := false }, kinds := [], alts := [], laidByText := true, laidKinds := [.data, .pinned], laidTests := true, laidLooks := .later }
def RoomSoundCardSaid : Prop := Claim7.holds Tryd.pinned (.plain (OpenSpec.ofChange roomSoundSpec)) roomSoundCard

/-- THE TIED CARD OF 'sluicegatelaw20.RoomEnds'. -/
def roomEndsCard : Claim7 := { stood := { row := roomEndsRow, standIns := [], harness := (true, "8405d467b5a2fa4216aa17524952e9da0b8b95cb3ed888d336c8474d65a6858d"), looks := false }, kinds := [], alts := [], laidByText := true, laidKinds := [.data, .pinned], laidTests := true, laidLooks := .later }
def RoomEndsCardSaid : Prop := Claim7.holds Tryd.pinned (.plain (OpenSpec.ofChange roomEndsSpec)) roomEndsCard

/-- THE TIED CARD OF 'sluicegatelaw20.RoomPlays'. -/
def roomPlaysCard : Claim7 := { stood := { row := roomPlaysRow, standIns := [], harness := (true, "8405d467b5a2fa4216aa17524952e9da0b8b95cb3ed888d336c8474d65a6858d"), looks := false }, kinds := [], alts := [], laidByText := true, laidKinds := [.data, .pinned], laidTests := true, laidLooks := .later }
def RoomPlaysCardSaid : Prop := Claim7.holds Tryd.pinned (.plain (OpenSpec.ofChange roomPlaysSpec)) roomPlaysCard

/-- THE TIED CARD OF 'sluicegatelaw20.RoomGone'. -/
def roomGoneCard : Claim7 := { stood := { row := roomGoneRow, standIns := [], harness := (true, "8405d467b5a2fa4216aa17524952e9da0b8b95cb3ed888d336c8474d65a6858d"), looks := false }, kinds := [], alts := [], laidByText := true, laidKinds := [.data, .pinned], laidTests := true, laidLooks := .later }
def RoomGoneCardSaid : Prop := Claim7.holds Tryd.pinned (.plain (OpenSpec.ofChange roomGoneSpec)) roomGoneCard

/-- THE SECOND FORM's CARD OF 'sluicegatelaw20.RoomAsks'. -/
def roomAsksUptoCard : Claim7 := { stood := { row := roomAsksUptoRow, standIns := [], harness := (true, "8405d467b5a2fa4216aa17524952e9da0b8b95cb3ed888d336c8474d65a6858d"), looks := false }, kinds := [], alts := [], laidByText := true, laidKinds := [.data, .pinned], laidTests := true, laidLooks := .later }
def RoomAsksUptoCardSaid : Prop := Claim7.holds Tryd.pinned (.plain (OpenSpec.upto roomAsksSpec)) roomAsksUptoCard

/-- THE SECOND FORM's CARD OF 'sluicegatelaw20.RoomAsking'. -/
def roomAskingUptoCard : Claim7 := { stood := { row := roomAskingUptoRow, standIns := [], harness := (true, "8405d467b5a2fa4216aa17524952e9da0b8b95cb3ed888d336c8474d65a6858d"), looks := false }, kinds := [], alts := [], laidByText := true, laidKinds := [.data, .pinned], laidTests := true, laidLooks := .later }
def RoomAskingUptoCardSaid : Prop := Claim7.holds Tryd.pinned (.plain (OpenSpec.upto roomAskingSpec)) roomAskingUptoCard

/-- THE SECOND FORM's CARD OF 'sluicegatelaw20.RoomKeeps'. -/
def roomKeepsUptoCard : Claim7 := { stood := { row := roomKeepsUptoRow, standIns := [], harness := (true, "8405d467b5a2fa4216aa17524952e9da0b8b95cb3ed888d336c8474d65a6858d"), looks := false }, kinds := [], alts := [], laidByText := true, laidKinds := [.data, .pinned], laidTests := true, laidLooks := .later }
def RoomKeepsUptoCardSaid : Prop := Claim7.holds Tryd.pinned (.plain (OpenSpec.upto roomKeepsSpec)) roomKeepsUptoCard

/-- THE SECOND FORM's CARD OF 'sluicegatelaw20.RoomSound'. -/
def roomSoundUptoCard : Claim7 := { stood := { row := roomSoundUptoRow, standIns := [], harness := (true, "8405d467b5a2fa4216aa17524952e9da0b8b95cb3ed888d336c8474d65a6858d"), looks := false }, kinds := [], alts := [], laidByText := true, laidKinds := [.data, .pinned], laidTests := true, laidLooks := .later }
def RoomSoundUptoCardSaid : Prop := Claim7.holds Tryd.pinned (.plain (OpenSpec.upto roomSoundSpec)) roomSoundUptoCard

/-- THE SECOND FORM's CARD OF 'sluicegatelaw20.RoomEnds'. -/
def roomEndsUptoCard : Claim7 := { stood := { row := roomEndsUptoRow, standIns := [], harness := (true, "8405d467b5a2fa4216aa17524952e9da0b8b95cb3ed888d336c8474d65a6858d"), looks := false }, kinds := [], alts := [], laidByText := true, laidKinds := [.data, .pinned], laidTests := true, laidLooks := .later }
def RoomEndsUptoCardSaid : Prop := Claim7.holds Tryd.pinned (.plain (OpenSpec.upto roomEndsSpec)) roomEndsUptoCard

/-- THE SECOND FORM's CARD OF 'sluicegatelaw20.RoomPlays'. -/
def roomPlaysUptoCard : Claim7 := { stood := { row := roomPlaysUptoRow, standIns := [], harness := (true, "8405d467b5a2fa4216aa17524952e9da0b8b95cb3ed888d336c8474d65a6858d"), looks := false }, kinds := [], alts := [], laidByText := true, laidKinds := [.data, .pinned], laidTests := true, laidLooks := .later }
def RoomPlaysUptoCardSaid : Prop := Claim7.holds Tryd.pinned (.plain (OpenSpec.upto roomPlaysSpec)) roomPlaysUptoCard

/-- THE SECOND FORM's CARD OF 'sluicegatelaw20.RoomGone'. -/
def roomGoneUptoCard : Claim7 := { stood := { row := roomGoneUptoRow, standIns := [], harness := (true, "8405d467b5a2fa4216aa17524952e9da0b8b95cb3ed888d336c8474d65a6858d"), looks := false }, kinds := [], alts := [], laidByText := true, laidKinds := [.data, .pinned], laidTests := true, laidLooks := .later }
def RoomGoneUptoCardSaid : Prop := Claim7.holds Tryd.pinned (.plain (OpenSpec.upto roomGoneSpec)) roomGoneUptoCard
end Rows
end Go.Proofs.YthlamfoldfeocaaDoor
