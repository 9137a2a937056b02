/-
  DERIVED. GIVEN WITH THE SEED: THE CARDS: each row of YtpdjhlcbcomdkaaGreatDoorRows.lean that lists a variable, with what it lists TIED to the program's text (the seventh form; the later family's looks); each row that meets fmt, with fmt's text TOLD by the authors' own Lean function (tested against real Go, not proved from fmt's source: count such statements apart). THE CARD IS WHAT COUNTS. Prove the row's statement (the work); the ties are given (YtpdjhlcbcomdkaaGreatDoorTie.lean); close each card by the builder's one call (the guide's Derived/Test/ToyasCard.lean, 'card_holds'). Laid BY PROGRAM, IN A SANDBOX (cutbox-door.mjs). By AI agents, Wed Nov 11 2026. No macro, syntax, notation, axiom, sorry.
-/
import Derived.Test.YtpdjhlcbcomdkaaGreatDoorRows
import GoSem.ClaimSeven
namespace Go.Proofs.YtpdjhlcbcomdkaaGreatDoor
namespace Rows

/-- THE TIED CARD OF 'sluicegatelaw26.FrontAll'. -/
def frontAllCard : Claim7 := { stood := { row := frontAllRow, standIns := [], harness := (true, "12ba4a12aee3858b7567314672385f381ff096c97b2f81e64d89c154b5f89f9d"), looks := true }, kinds := [], alts := [], laidByText := true, laidKinds := [.data, .pinned], laidTests := true, laidLooks := .later }
def FrontAllCardSaid : Prop := Claim7.holds Tryz.pinned (.plain (OpenSpec.ofChange frontAllSpec)) frontAllCard

/-- THE TIED CARD OF 'sluicegatelaw26.FrontNone'. -/
def frontNoneCard : Claim7 := { stood := { row := frontNoneRow, standIns := [], harness := (true, "12ba4a12aee3858b7567314672385f381ff096c97b2f81e64d89c154b5f89f9d"), looks := true }, kinds := [], alts := [], laidByText := true, laidKinds := [.data, .pinned], laidTests := true, laidLooks := .later }
def FrontNoneCardSaid : Prop := Claim7.holds Tryz.pinned (.plain (OpenSpec.ofChange frontNoneSpec)) frontNoneCard

/-- THE TIED CARD OF 'sluicegatelaw26.FrontRelation'. -/
def frontRelationCard : Claim7 := { stood := { row := frontRelationRow, standIns := [], harness := (true, "12ba4a12aee3858b7567314672385f381ff096c97b2f81e64d89c154b5f89f9d"), looks := true }, kinds := [], alts := [], laidByText := true, laidKinds := [.data, .pinned], laidTests := true, laidLooks := .later }
def FrontRelationCardSaid : Prop := Claim7.holds Tryz.pinned (.plain (OpenSpec.ofChange frontRelationSpec)) frontRelationCard

/-- THE TIED CARD OF 'sluicegatelaw21.RelationAdmits'. -/
def relationAdmitsCard : Claim7 := { stood := { row := relationAdmitsRow, standIns := [], harness := (true, "12ba4a12aee3858b7567314672385f381ff096c97b2f81e64d89c154b5f89f9d"), looks := true }, kinds := [], alts := [], laidByText := true, laidKinds := [.data, .pinned], laidTests := true, laidLooks := .later }
def RelationAdmitsCardSaid : Prop := Claim7.holds Tryz.pinned (.plain (OpenSpec.ofChange relationAdmitsSpec)) relationAdmitsCard

/-- THE TIED CARD OF 'sluicegatelaw21.RelationLives'. -/
def relationLivesCard : Claim7 := { stood := { row := relationLivesRow, standIns := [], harness := (true, "12ba4a12aee3858b7567314672385f381ff096c97b2f81e64d89c154b5f89f9d"), looks := true }, kinds := [], alts := [], laidByText := true, laidKinds := [.data, .pinned], laidTests := true, laidLooks := .later }
def RelationLivesCardSaid : Prop := Claim7.holds Tryz.pinned (.plain (OpenSpec.ofChange relationLivesSpec)) relationLivesCard

/-- THE TIED CARD OF 'sluicegatelaw21.RelationSent'. -/
def relationSentCard : Claim7 := { stood := { row := relationSentRow, standIns := [], harness := (true, "12ba4a12aee3858b7567314672385f381ff096c97b2f81e64d89c154b5f89f9d"), looks := true }, kinds := [], alts := [], laidByText := true, laidKinds := [.data, .pinned], laidTests := true, laidLooks := .later }
def RelationSentCardSaid : Prop := Claim7.holds Tryz.pinned (.plain (OpenSpec.ofChange relationSentSpec)) relationSentCard

/-- THE TIED CARD OF 'sluicegatelaw21.RelationFront'. -/
def relationFrontCard : Claim7 := { stood := { row := relationFrontRow, standIns := [], harness := (true, "12ba4a12aee3858b7567314672385f381ff096c97b2f81e64d89c154b5f89f9d"), looks := true }, kinds := [], alts := [], laidByText := true, laidKinds := [.data, .pinned], laidTests := true, laidLooks := .later }
def RelationFrontCardSaid : Prop := Claim7.holds Tryz.pinned (.plain (OpenSpec.ofChange relationFrontSpec)) relationFrontCard

/-- THE TIED CARD OF 'sluicegatelaw21.RelationAlone'. -/
def relationAloneCard : Claim7 := { stood := { row := relationAloneRow, standIns := [], harness := (true, "12ba4a12aee3858b7567314672385f381ff096c97b2f81e64d89c154b5f89f9d"), looks := true }, kinds := [], alts := [], laidByText := true, laidKinds := [.data, .pinned], laidTests := true, laidLooks := .later }
def RelationAloneCardSaid : Prop := Claim7.holds Tryz.pinned (.plain (OpenSpec.ofChange relationAloneSpec)) relationAloneCard

/-- THE TIED CARD OF 'sluicegatelaw21.RelationWrong'. -/
def relationWrongCard : Claim7 := { stood := { row := relationWrongRow, standIns := [], harness := (true, "12ba4a12aee3858b7567314672385f381ff096c97b2f81e64d89c154b5f89f9d"), looks := true }, kinds := [], alts := [], laidByText := true, laidKinds := [.data, .pinned], laidTests := true, laidLooks := .later }
def RelationWrongCardSaid : Prop := Claim7.holds Tryz.pinned (.plain (OpenSpec.ofChange relationWrongSpec)) relationWrongCard

/-- THE TIED CARD OF 'sluicegatelaw21.RelationAt'. -/
def relationAtCard : Claim7 := { stood := { row := relationAtRow, standIns := [], harness := (true, "12ba4a12aee3858b7567314672385f381ff096c97b2f81e64d89c154b5f89f9d"), looks := true }, kinds := [], alts := [], laidByText := true, laidKinds := [.data, .pinned], laidTests := true, laidLooks := .later }
def RelationAtCardSaid : Prop := Claim7.holds Tryz.pinned (.plain (OpenSpec.ofChange relationAtSpec)) relationAtCard

/-- THE TIED CARD OF 'sluicegatelaw21.RelationRow'. -/
def relationRowCard : Claim7 := { stood := { row := relationRowRow, standIns := [], harness := (true, "12ba4a12aee3858b7567314672385f381ff096c97b2f81e64d89c154b5f89f9d"), looks := true }, kinds := [], alts := [], laidByText := true, laidKinds := [.data, .pinned], laidTests := true, laidLooks := .later }
def RelationRowCardSaid : Prop := Claim7.holds Tryz.pinned (.plain (OpenSpec.ofChange relationRowSpec)) relationRowCard

/-- THE SECOND FORM's CARD OF 'sluicegatelaw26.FrontAll'. -/
def frontAllUptoCard : Claim7 := { stood := { row := frontAllUptoRow, standIns := [], harness := (true, "12ba4a12aee3858b7567314672385f381ff096c97b2f81e64d89c154b5f89f9d"), looks := true }, kinds := [], alts := [], laidByText := true, laidKinds := [.data, .pinned], laidTests := true, laidLooks := .later }
def FrontAllUptoCardSaid : Prop := Claim7.holds Tryz.pinned (.plain (OpenSpec.upto frontAllSpec)) frontAllUptoCard

/-- THE SECOND FORM's CARD OF 'sluicegatelaw26.FrontNone'. -/
def frontNoneUptoCard : Claim7 := { stood := { row := frontNoneUptoRow, standIns := [], harness := (true, "12ba4a12aee3858b7567314672385f381ff096c97b2f81e64d89c154b5f89f9d"), looks := true }, kinds := [], alts := [], laidByText := true, laidKinds := [.data, .pinned], laidTests := true, laidLooks := .later }
def FrontNoneUptoCardSaid : Prop := Claim7.holds Tryz.pinned (.plain (OpenSpec.upto frontNoneSpec)) frontNoneUptoCard

/-- THE SECOND FORM's CARD OF 'sluicegatelaw26.FrontRelation'. -/
def frontRelationUptoCard : Claim7 := { stood := { row := frontRelationUptoRow, standIns := [], harness := (true, "12ba4a12aee3858b7567314672385f381ff096c97b2f81e64d89c154b5f89f9d"), looks := true }, kinds := [], alts := [], laidByText := true, laidKinds := [.data, .pinned], laidTests := true, laidLooks := .later }
def FrontRelationUptoCardSaid : Prop := Claim7.holds Tryz.pinned (.plain (OpenSpec.upto frontRelationSpec)) frontRelationUptoCard

/-- THE SECOND FORM's CARD OF 'sluicegatelaw21.RelationAdmits'. -/
def relationAdmitsUptoCard : Claim7 := { stood := { row := relationAdmitsUptoRow, standIns := [], harness := (true, "12ba4a12aee3858b7567314672385f381ff096c97b2f81e64d89c154b5f89f9d"), looks := true }, kinds := [], alts := [], laidByText := true, laidKinds := [.data, .pinned], laidTests := true, laidLooks := .later }
def RelationAdmitsUptoCardSaid : Prop := Claim7.holds Tryz.pinned (.plain (OpenSpec.upto relationAdmitsSpec)) relationAdmitsUptoCard

/-- THE SECOND FORM's CARD OF 'sluicegatelaw21.RelationLives'. -/
def relationLivesUptoCard : Claim7 := { stood := { row := relationLivesUptoRow, standIns := [], harness := (true, "12ba4a12aee3858b7567314672385f381ff096c97b2f81e64d89c154b5f89f9d"), looks := true }, kinds := [], alts := [], laidByText := true, laidKinds := [.data, .pinned], laidTests := true, laidLooks := .later }
def RelationLivesUptoCardSaid : Prop := Claim7.holds Tryz.pinned (.plain (OpenSpec.upto relationLivesSpec)) relationLivesUptoCard

/-- THE SECOND FORM's CARD OF 'sluicegatelaw21.RelationSent'. -/
def relationSentUptoCard : Claim7 := { stood := { row := relationSentUptoRow, standIns := [], harness := (true, "12ba4a12aee3858b7567314672385f381ff096c97b2f81e64d89c154b5f89f9d"), looks := true }, kinds := [], alts := [], laidByText := true, laidKinds := [.data, .pinned], laidTests := true, laidLooks := .later }
def RelationSentUptoCardSaid : Prop := Claim7.holds Tryz.pinned (.plain (OpenSpec.upto relationSentSpec)) relationSentUptoCard

/-- THE SECOND FORM's CARD OF 'sluicegatelaw21.RelationFront'. -/
def relationFrontUptoCard : Claim7 := { stood := { row := relationFrontUptoRow, standIns := [], harness := (true, "12ba4a12aee3858b7567314672385f381ff096c97b2f81e64d89c154b5f89f9d"), looks := true }, kinds := [], alts := [], laidByText := true, laidKinds := [.data, .pinned], laidTests := true, laidLooks := .later }
def RelationFrontUptoCardSaid : Prop := Claim7.holds Tryz.pinned (.plain (OpenSpec.upto relationFrontSpec)) relationFrontUptoCard

/-- THE SECOND FORM's CARD OF 'sluicegatelaw21.RelationAlone'. -/
def relationAloneUptoCard : Claim7 := { stood := { row := relationAloneUptoRow, standIns := [], harness := (true, "12ba4a12aee3858b7567314672385f381ff096c97b2f81e64d89c154b5f89f9d"), looks := true }, kinds := [], alts := [], laidByText := true, laidKinds := [.data, .pinned], laidTests := true, laidLooks := .later }
def RelationAloneUptoCardSaid : Prop := Claim7.holds Tryz.pinned (.plain (OpenSpec.upto relationAloneSpec)) relationAloneUptoCard

/-- THE SECOND FORM's CARD OF 'sluicegatelaw21.RelationWrong'. -/
def relationWrongUptoCard : Claim7 := { stood := { row := relationWrongUptoRow, standIns := [], harness := (true, "12ba4a12aee3858b7567314672385f381ff096c97b2f81e64d89c154b5f89f9d"), looks := true }, kinds := [], alts := [], laidByText := true, laidKinds := [.data, .pinned], laidTests := true, laidLooks := .later }
def RelationWrongUptoCardSaid : Prop := Claim7.holds Tryz.pinned (.plain (OpenSpec.upto relationWrongSpec)) relationWrongUptoCard

/-- THE SECOND FORM's CARD OF 'sluicegatelaw21.RelationAt'. -/
def relationAtUptoCard : Claim7 := { stood := { row := relationAtUptoRow, standIns := [], harness := (true, "12ba4a12aee3858b7567314672385f381ff096c97b2f81e64d89c154b5f89f9d"), looks := true }, kinds := [], alts := [], laidByText := true, laidKinds := [.data, .pinned], laidTests := true, laidLooks := .later }
def RelationAtUptoCardSaid : Prop := Claim7.holds Tryz.pinned (.plain (OpenSpec.upto relationAtSpec)) relationAtUptoCard

/-- THE SECOND FORM's CARD OF 'sluicegatelaw21.RelationRow'. -/
def relationRowUptoCard : Claim7 := { stood := { row := relationRowUptoRow, standIns := [], harness := (true, "12ba4a12aee3858b7567314672385f381ff096c97b2f81e64d89c154b5f89f9d"), looks := true }, kinds := [], alts := [], laidByText := true, laidKinds := [.data, .pinned], laidTests := true, laidLooks := .later }
def RelationRowUptoCardSaid : Prop := Claim7.holds Tryz.pinned (.plain (OpenSpec.upto relationRowSpec)) relationRowUptoCard
end Rows
end Go.Proofs.YtpdjhlcbcomdkaaGreatDoor
