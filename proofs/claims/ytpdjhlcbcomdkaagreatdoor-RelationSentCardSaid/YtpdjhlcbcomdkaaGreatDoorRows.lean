/-
  NARROWER THAN 'FOR EVERY INPUT', by the rows' own cells (each row's printed sentence says how): FrontAll: laid · FrontNone: laid · FrontRelation: laid · RelationAdmits: laid · RelationLives: laid · RelationSent: laid · RelationFront: laid · RelationAlone: laid · RelationWrong: laid · RelationAt: laid · RelationRow: laid.
  DERIVED. THE GIVEN ROWS OF THIS SEAT. 11 by the template 'for every input the law returns true; each argument reads behind the call as it read before'; 0 by the template 'total and deterministic' (their statements: YtpdjhlcbcomdkaaGreatDoorTotals.lean).
  GIVEN WITH THE SEED: the statements are not yours to turn. If you find one false, say at which input.
  Laid BY PROGRAM, IN A SANDBOX (cutbox-rows.mjs): the forced cells as the released guide's own fill.sh prints them over the translation a099ebf6db396918… (all of the seat's roots in one cut). By AI agents, Wed Nov 11 2026. No macro, syntax, notation, axiom, sorry.
-/
import Derived.Test.YtpdjhlcbcomdkaaGreatDoorChecked
import GoSem.PinnedTables
import GoSem.Claim
import GoSem.ClaimJoined
import GoSem.ClaimMapViews
import Derived.JoinedTies
import Derived.KernelRfl
namespace Go.Proofs.YtpdjhlcbcomdkaaGreatDoor
/- THE CELL 'sum', in the pinned program and in every row, IS THE sha256 OF THE DUMP (.gsa) THAT YtpdjhlcbcomdkaaGreatDoorProg.lean LOADS. Nothing in Lean hashes anything: it is a label: what it is worth is what the hold of that sum in a sandbox is worth. -/
noncomputable def Tryz.pinned : Pinned := { name := "ytpdjhlcbcomdkaagreatdoor", sum := "a099ebf6db3969182ca3d013e0b541ec2d49f13430ba059cff6943bff5d2b09c", checked := Tryz.checked }
namespace Rows
def none {H : Type} : Left H := { results := [], args := [] }

/- WHAT THE LISTED PACKAGE-LEVEL VARIABLES READ AS WHEN THE CALL BEGINS. Each datum BY PROGRAM (the guide's laid-datum.mjs) off the statement by which the dump's own 'gosem.cut.vars' lays the variable. In a bare row this is a premise. The card (YtpdjhlcbcomdkaaGreatDoorCards.lean) ties it to the program's text. -/
def laid_unicode_utf8_acceptRanges {H : Type} : DataW H := .agg [.agg [.lit (.int .u8 128), .lit (.int .u8 191)], .agg [.lit (.int .u8 160), .lit (.int .u8 191)], .agg [.lit (.int .u8 128), .lit (.int .u8 159)], .agg [.lit (.int .u8 144), .lit (.int .u8 191)], .agg [.lit (.int .u8 128), .lit (.int .u8 143)], .agg [.lit (.int .u8 0), .lit (.int .u8 0)], .agg [.lit (.int .u8 0), .lit (.int .u8 0)], .agg [.lit (.int .u8 0), .lit (.int .u8 0)], .agg [.lit (.int .u8 0), .lit (.int .u8 0)], .agg [.lit (.int .u8 0), .lit (.int .u8 0)], .agg [.lit (.int .u8 0), .lit (.int .u8 0)], .agg [.lit (.int .u8 0), .lit (.int .u8 0)], .agg [.lit (.int .u8 0), .lit (.int .u8 0)], .agg [.lit (.int .u8 0), .lit (.int .u8 0)], .agg [.lit (.int .u8 0), .lit (.int .u8 0)], .agg [.lit (.int .u8 0), .lit (.int .u8 0)]]
/-- One of Go's own tables, pinned by name: the form's constant. -/
def laid_unicode_utf8_first : DataW Unit := Go.Pinned.utf8First

/-- 'sluicegatelaw26.FrontAll': WHATEVER THE INPUT: true; the input reads as it did. -/
def frontAllSpec : ChangeSpec := { name := "frontAll", fn := fun _ => fun
  | [d] => { results := [.lit (.bool true)], args := [d] }
  | _ => none }
def frontAllRow : OpenClaim := { program := "ytpdjhlcbcomdkaagreatdoor", sum := "a099ebf6db3969182ca3d013e0b541ec2d49f13430ba059cff6943bff5d2b09c", func := "sluicegate/sluicegatelaw26.FrontAll", spec := "frontAll", inPlace := ["internal/abi.NoEscape", "internal/bytealg.MakeNoZero"], unfollowed := true, recurses := true, named := ["unicode/utf8.first", "unicode/utf8.acceptRanges"], apart := false, laid := [("unicode/utf8.acceptRanges", laid_unicode_utf8_acceptRanges), ("unicode/utf8.first", laid_unicode_utf8_first)] }
def FrontAllSaid : Prop := frontAllRow.holds Tryz.pinned (OpenSpec.ofChange frontAllSpec)

/-- ITS FALSE NEIGHBOUR: 'it returns false'. Refute it at one input. -/
def frontAllWrong : ChangeSpec := { name := "frontAll", fn := fun _ => fun
  | [d] => { results := [.lit (.bool false)], args := [d] }
  | _ => none }
def FrontAllWrongFalsely : Prop := frontAllRow.holds Tryz.pinned (OpenSpec.ofChange frontAllWrong)

/-- 'sluicegatelaw26.FrontNone': WHATEVER THE INPUT: true; the input reads as it did. -/
def frontNoneSpec : ChangeSpec := { name := "frontNone", fn := fun _ => fun
  | [d] => { results := [.lit (.bool true)], args := [d] }
  | _ => none }
def frontNoneRow : OpenClaim := { program := "ytpdjhlcbcomdkaagreatdoor", sum := "a099ebf6db3969182ca3d013e0b541ec2d49f13430ba059cff6943bff5d2b09c", func := "sluicegate/sluicegatelaw26.FrontNone", spec := "frontNone", inPlace := ["internal/abi.NoEscape", "internal/bytealg.MakeNoZero"], unfollowed := true, recurses := true, named := ["unicode/utf8.first", "unicode/utf8.acceptRanges"], apart := false, laid := [("unicode/utf8.acceptRanges", laid_unicode_utf8_acceptRanges), ("unicode/utf8.first", laid_unicode_utf8_first)] }
def FrontNoneSaid : Prop := frontNoneRow.holds Tryz.pinned (OpenSpec.ofChange frontNoneSpec)

/-- ITS FALSE NEIGHBOUR: 'it returns false'. Refute it at one input. -/
def frontNoneWrong : ChangeSpec := { name := "frontNone", fn := fun _ => fun
  | [d] => { results := [.lit (.bool false)], args := [d] }
  | _ => none }
def FrontNoneWrongFalsely : Prop := frontNoneRow.holds Tryz.pinned (OpenSpec.ofChange frontNoneWrong)

/-- 'sluicegatelaw26.FrontRelation': WHATEVER THE INPUT: true; the input reads as it did. -/
def frontRelationSpec : ChangeSpec := { name := "frontRelation", fn := fun _ => fun
  | [d] => { results := [.lit (.bool true)], args := [d] }
  | _ => none }
def frontRelationRow : OpenClaim := { program := "ytpdjhlcbcomdkaagreatdoor", sum := "a099ebf6db3969182ca3d013e0b541ec2d49f13430ba059cff6943bff5d2b09c", func := "sluicegate/sluicegatelaw26.FrontRelation", spec := "frontRelation", inPlace := ["internal/abi.NoEscape", "internal/bytealg.MakeNoZero"], unfollowed := true, recurses := true, named := ["unicode/utf8.first", "unicode/utf8.acceptRanges"], apart := false, laid := [("unicode/utf8.acceptRanges", laid_unicode_utf8_acceptRanges), ("unicode/utf8.first", laid_unicode_utf8_first)] }
def FrontRelationSaid : Prop := frontRelationRow.holds Tryz.pinned (OpenSpec.ofChange frontRelationSpec)

/-- ITS FALSE NEIGHBOUR: 'it returns false'. Refute it at one input. -/
def frontRelationWrong : ChangeSpec := { name := "frontRelation", fn := fun _ => fun
  | [d] => { results := [.lit (.bool false)], args := [d] }
  | _ => none }
def FrontRelationWrongFalsely : Prop := frontRelationRow.holds Tryz.pinned (OpenSpec.ofChange frontRelationWrong)

/-- 'sluicegatelaw21.RelationAdmits': WHATEVER THE INPUT: true; the input reads as it did. -/
def relationAdmitsSpec : ChangeSpec := { name := "relationAdmits", fn := fun _ => fun
  | [d] => { results := [.lit (.bool true)], args := [d] }
  | _ => none }
def relationAdmitsRow : OpenClaim := { program := "ytpdjhlcbcomdkaagreatdoor", sum := "a099ebf6db3969182ca3d013e0b541ec2d49f13430ba059cff6943bff5d2b09c", func := "sluicegate/sluicegatelaw21.RelationAdmits", spec := "relationAdmits", inPlace := ["internal/abi.NoEscape", "internal/bytealg.MakeNoZero"], unfollowed := true, recurses := true, named := ["unicode/utf8.first", "unicode/utf8.acceptRanges"], apart := false, laid := [("unicode/utf8.acceptRanges", laid_unicode_utf8_acceptRanges), ("unicode/utf8.first", laid_unicode_utf8_first)] }
def RelationAdmitsSaid : Prop := relationAdmitsRow.holds Tryz.pinned (OpenSpec.ofChange relationAdmitsSpec)

/-- ITS FALSE NEIGHBOUR: 'it returns false'. Refute it at one input. -/
def relationAdmitsWrong : ChangeSpec := { name := "relationAdmits", fn := fun _ => fun
  | [d] => { results := [.lit (.bool false)], args := [d] }
  | _ => none }
def RelationAdmitsWrongFalsely : Prop := relationAdmitsRow.holds Tryz.pinned (OpenSpec.ofChange relationAdmitsWrong)

/-- 'sluicegatelaw21.RelationLives': WHATEVER THE INPUT: true; the input reads as it did. -/
def relationLivesSpec : ChangeSpec := { name := "relationLives", fn := fun _ => fun
  | [d] => { results := [.lit (.bool true)], args := [d] }
  | _ => none }
def relationLivesRow : OpenClaim := { program := "ytpdjhlcbcomdkaagreatdoor", sum := "a099ebf6db3969182ca3d013e0b541ec2d49f13430ba059cff6943bff5d2b09c", func := "sluicegate/sluicegatelaw21.RelationLives", spec := "relationLives", inPlace := ["internal/abi.NoEscape", "internal/bytealg.MakeNoZero"], unfollowed := true, recurses := true, named := ["unicode/utf8.first", "unicode/utf8.acceptRanges"], apart := false, laid := [("unicode/utf8.acceptRanges", laid_unicode_utf8_acceptRanges), ("unicode/utf8.first", laid_unicode_utf8_first)] }
def RelationLivesSaid : Prop := relationLivesRow.holds Tryz.pinned (OpenSpec.ofChange relationLivesSpec)

/-- ITS FALSE NEIGHBOUR: 'it returns false'. Refute it at one input. -/
def relationLivesWrong : ChangeSpec := { name := "relationLives", fn := fun _ => fun
  | [d] => { results := [.lit (.bool false)], args := [d] }
  | _ => none }
def RelationLivesWrongFalsely : Prop := relationLivesRow.holds Tryz.pinned (OpenSpec.ofChange relationLivesWrong)

/-- 'sluicegatelaw21.RelationSent': WHATEVER THE INPUT: true; the input reads as it did. -/
def relationSentSpec : ChangeSpec := { name := "relationSent", fn := fun _ => fun
  | [d1, d2] => { results := [.lit (.bool true)], args := [d1, d2] }
  | _ => none }
def relationSentRow : OpenClaim := { program := "ytpdjhlcbcomdkaagreatdoor", sum := "a099ebf6db3969182ca3d013e0b541ec2d49f13430ba059cff6943bff5d2b09c", func := "sluicegate/sluicegatelaw21.RelationSent", spec := "relationSent", inPlace := ["internal/abi.NoEscape", "internal/bytealg.MakeNoZero"], unfollowed := true, recurses := true, named := ["unicode/utf8.first", "unicode/utf8.acceptRanges"], apart := false, laid := [("unicode/utf8.acceptRanges", laid_unicode_utf8_acceptRanges), ("unicode/utf8.first", laid_unicode_utf8_first)] }
def RelationSentSaid : Prop := relationSentRow.holds Tryz.pinned (OpenSpec.ofChange relationSentSpec)

/-- ITS FALSE NEIGHBOUR: 'it returns false'. Refute it at one input. -/
def relationSentWrong : ChangeSpec := { name := "relationSent", fn := fun _ => fun
  | [d1, d2] => { results := [.lit (.bool false)], args := [d1, d2] }
  | _ => none }
def RelationSentWrongFalsely : Prop := relationSentRow.holds Tryz.pinned (OpenSpec.ofChange relationSentWrong)

/-- 'sluicegatelaw21.RelationFront': WHATEVER THE INPUT: true; the input reads as it did. -/
def relationFrontSpec : ChangeSpec := { name := "relationFront", fn := fun _ => fun
  | [d1, d2] => { results := [.lit (.bool true)], args := [d1, d2] }
  | _ => none }
def relationFrontRow : OpenClaim := { program := "ytpdjhlcbcomdkaagreatdoor", sum := "a099ebf6db3969182ca3d013e0b541ec2d49f13430ba059cff6943bff5d2b09c", func := "sluicegate/sluicegatelaw21.RelationFront", spec := "relationFront", inPlace := ["internal/abi.NoEscape", "internal/bytealg.MakeNoZero"], unfollowed := true, recurses := true, named := ["unicode/utf8.first", "unicode/utf8.acceptRanges"], apart := false, laid := [("unicode/utf8.acceptRanges", laid_unicode_utf8_acceptRanges), ("unicode/utf8.first", laid_unicode_utf8_first)] }
def RelationFrontSaid : Prop := relationFrontRow.holds Tryz.pinned (OpenSpec.ofChange relationFrontSpec)

/-- ITS FALSE NEIGHBOUR: 'it returns false'. Refute it at one input. -/
def relationFrontWrong : ChangeSpec := { name := "relationFront", fn := fun _ => fun
  | [d1, d2] => { results := [.lit (.bool false)], args := [d1, d2] }
  | _ => none }
def RelationFrontWrongFalsely : Prop := relationFrontRow.holds Tryz.pinned (OpenSpec.ofChange relationFrontWrong)

/-- 'sluicegatelaw21.RelationAlone': WHATEVER THE INPUT: true; the input reads as it did. -/
def relationAloneSpec : ChangeSpec := { name := "relationAlone", fn := fun _ => fun
  | [d1, d2] => { results := [.lit (.bool true)], args := [d1, d2] }
  | _ => none }
def relationAloneRow : OpenClaim := { program := "ytpdjhlcbcomdkaagreatdoor", sum := "a099ebf6db3969182ca3d013e0b541ec2d49f13430ba059cff6943bff5d2b09c", func := "sluicegate/sluicegatelaw21.RelationAlone", spec := "relationAlone", inPlace := ["internal/abi.NoEscape", "internal/bytealg.MakeNoZero"], unfollowed := true, recurses := true, named := ["unicode/utf8.first", "unicode/utf8.acceptRanges"], apart := false, laid := [("unicode/utf8.acceptRanges", laid_unicode_utf8_acceptRanges), ("unicode/utf8.first", laid_unicode_utf8_first)] }
def RelationAloneSaid : Prop := relationAloneRow.holds Tryz.pinned (OpenSpec.ofChange relationAloneSpec)

/-- ITS FALSE NEIGHBOUR: 'it returns false'. Refute it at one input. -/
def relationAloneWrong : ChangeSpec := { name := "relationAlone", fn := fun _ => fun
  | [d1, d2] => { results := [.lit (.bool false)], args := [d1, d2] }
  | _ => none }
def RelationAloneWrongFalsely : Prop := relationAloneRow.holds Tryz.pinned (OpenSpec.ofChange relationAloneWrong)

/-- 'sluicegatelaw21.RelationWrong': WHATEVER THE INPUT: true; the input reads as it did. -/
def relationWrongSpec : ChangeSpec := { name := "relationWrong", fn := fun _ => fun
  | [d] => { results := [.lit (.bool true)], args := [d] }
  | _ => none }
def relationWrongRow : OpenClaim := { program := "ytpdjhlcbcomdkaagreatdoor", sum := "a099ebf6db3969182ca3d013e0b541ec2d49f13430ba059cff6943bff5d2b09c", func := "sluicegate/sluicegatelaw21.RelationWrong", spec := "relationWrong", inPlace := ["internal/abi.NoEscape", "internal/bytealg.MakeNoZero"], unfollowed := true, recurses := true, named := ["unicode/utf8.first", "unicode/utf8.acceptRanges"], apart := false, laid := [("unicode/utf8.acceptRanges", laid_unicode_utf8_acceptRanges), ("unicode/utf8.first", laid_unicode_utf8_first)] }
def RelationWrongSaid : Prop := relationWrongRow.holds Tryz.pinned (OpenSpec.ofChange relationWrongSpec)

/-- ITS FALSE NEIGHBOUR: 'it returns false'. Refute it at one input. -/
def relationWrongWrong : ChangeSpec := { name := "relationWrong", fn := fun _ => fun
  | [d] => { results := [.lit (.bool false)], args := [d] }
  | _ => none }
def RelationWrongWrongFalsely : Prop := relationWrongRow.holds Tryz.pinned (OpenSpec.ofChange relationWrongWrong)

/-- 'sluicegatelaw21.RelationAt': WHATEVER THE INPUT: true; the input reads as it did. -/
def relationAtSpec : ChangeSpec := { name := "relationAt", fn := fun _ => fun
  | [d1, d2, d3] => { results := [.lit (.bool true)], args := [d1, d2, d3] }
  | _ => none }
def relationAtRow : OpenClaim := { program := "ytpdjhlcbcomdkaagreatdoor", sum := "a099ebf6db3969182ca3d013e0b541ec2d49f13430ba059cff6943bff5d2b09c", func := "sluicegate/sluicegatelaw21.RelationAt", spec := "relationAt", inPlace := ["internal/abi.NoEscape", "internal/bytealg.MakeNoZero"], unfollowed := true, recurses := true, named := ["unicode/utf8.first", "unicode/utf8.acceptRanges"], apart := false, laid := [("unicode/utf8.acceptRanges", laid_unicode_utf8_acceptRanges), ("unicode/utf8.first", laid_unicode_utf8_first)] }
def RelationAtSaid : Prop := relationAtRow.holds Tryz.pinned (OpenSpec.ofChange relationAtSpec)

/-- ITS FALSE NEIGHBOUR: 'it returns false'. Refute it at one input. -/
def relationAtWrong : ChangeSpec := { name := "relationAt", fn := fun _ => fun
  | [d1, d2, d3] => { results := [.lit (.bool false)], args := [d1, d2, d3] }
  | _ => none }
def RelationAtWrongFalsely : Prop := relationAtRow.holds Tryz.pinned (OpenSpec.ofChange relationAtWrong)

/-- 'sluicegatelaw21.RelationRow': WHATEVER THE INPUT: true; the input reads as it did. -/
def relationRowSpec : ChangeSpec := { name := "relationRow", fn := fun _ => fun
  | [d] => { results := [.lit (.bool true)], args := [d] }
  | _ => none }
def relationRowRow : OpenClaim := { program := "ytpdjhlcbcomdkaagreatdoor", sum := "a099ebf6db3969182ca3d013e0b541ec2d49f13430ba059cff6943bff5d2b09c", func := "sluicegate/sluicegatelaw21.RelationRow", spec := "relationRow", inPlace := ["internal/abi.NoEscape", "internal/bytealg.MakeNoZero"], unfollowed := true, recurses := true, named := ["unicode/utf8.first", "unicode/utf8.acceptRanges"], apart := false, laid := [("unicode/utf8.acceptRanges", laid_unicode_utf8_acceptRanges), ("unicode/utf8.first", laid_unicode_utf8_first)] }
def RelationRowSaid : Prop := relationRowRow.holds Tryz.pinned (OpenSpec.ofChange relationRowSpec)

/-- ITS FALSE NEIGHBOUR: 'it returns false'. Refute it at one input. -/
def relationRowWrong : ChangeSpec := { name := "relationRow", fn := fun _ => fun
  | [d] => { results := [.lit (.bool false)], args := [d] }
  | _ => none }
def RelationRowWrongFalsely : Prop := relationRowRow.holds Tryz.pinned (OpenSpec.ofChange relationRowWrong)

/- THE SECOND FORM. 'bulk': how many values and letters a reading holds, each counted each time it is reached (what is shared counts as often as it is met; a slice's spare places count too). A statement '..UptoSaid' is the law's where the arguments, and the package variables that the reading takes, are together of bulk at most 1048576: NARROWER than '..Said'. Prove '..Said' where nothing that the law and all that it calls make is longer than what came in: it says more and counts as full. Else prove '..UptoSaid'. A law counts once. -/
mutual
def uptoBulk {H : Type} : DataW H → Nat
  | .lit (.string bytes) => bytes.length + 1
  | .lit _ => 1
  | .nil => 1
  | .ptr d => uptoBulk d + 1
  | .slice elems spare => uptoBulkAll elems + uptoBulkAll spare + 1
  | .agg parts => uptoBulkAll parts + 1
  | .iface _ d => uptoBulk d + 1
  | .map entries => uptoBulkEntries entries + 1
  | .held _ => 1
def uptoBulkAll {H : Type} : List (DataW H) → Nat
  | [] => 0
  | d :: r => uptoBulk d + uptoBulkAll r
def uptoBulkEntries {H : Type} : List (Lit × DataW H) → Nat
  | [] => 0
  | x :: r => uptoBulkEntry x + uptoBulkEntries r
def uptoBulkEntry {H : Type} : Lit × DataW H → Nat
  | (.string bytes, d) => bytes.length + uptoBulk d + 1
  | (_, d) => uptoBulk d + 1
 end
def uptoSmall : (H : Type) → List (DataW H) → Bool := fun _ ds => decide (uptoBulkAll ds ≤ 1048576)
def OpenSpec.upto (s : _root_.Go.ChangeSpec) : _root_.Go.OpenSpec := { _root_.Go.OpenSpec.ofChange s with cond := some uptoSmall }

/-- 'sluicegatelaw26.FrontAll', WHERE WHAT IT READS IS OF BULK AT MOST 1048576: true; the input reads as it did. -/
def frontAllUptoRow : OpenClaim := { program := "ytpdjhlcbcomdkaagreatdoor", sum := "a099ebf6db3969182ca3d013e0b541ec2d49f13430ba059cff6943bff5d2b09c", func := "sluicegate/sluicegatelaw26.FrontAll", spec := "frontAll", inPlace := ["internal/abi.NoEscape", "internal/bytealg.MakeNoZero"], unfollowed := true, recurses := true, named := ["unicode/utf8.first", "unicode/utf8.acceptRanges"], apart := false, laid := [("unicode/utf8.acceptRanges", laid_unicode_utf8_acceptRanges), ("unicode/utf8.first", laid_unicode_utf8_first)], narrowed := true }
def FrontAllUptoSaid : Prop := frontAllUptoRow.holds Tryz.pinned (OpenSpec.upto frontAllSpec)

/-- 'sluicegatelaw26.FrontNone', WHERE WHAT IT READS IS OF BULK AT MOST 1048576: true; the input reads as it did. -/
def frontNoneUptoRow : OpenClaim := { program := "ytpdjhlcbcomdkaagreatdoor", sum := "a099ebf6db3969182ca3d013e0b541ec2d49f13430ba059cff6943bff5d2b09c", func := "sluicegate/sluicegatelaw26.FrontNone", spec := "frontNone", inPlace := ["internal/abi.NoEscape", "internal/bytealg.MakeNoZero"], unfollowed := true, recurses := true, named := ["unicode/utf8.first", "unicode/utf8.acceptRanges"], apart := false, laid := [("unicode/utf8.acceptRanges", laid_unicode_utf8_acceptRanges), ("unicode/utf8.first", laid_unicode_utf8_first)], narrowed := true }
def FrontNoneUptoSaid : Prop := frontNoneUptoRow.holds Tryz.pinned (OpenSpec.upto frontNoneSpec)

/-- 'sluicegatelaw26.FrontRelation', WHERE WHAT IT READS IS OF BULK AT MOST 1048576: true; the input reads as it did. -/
def frontRelationUptoRow : OpenClaim := { program := "ytpdjhlcbcomdkaagreatdoor", sum := "a099ebf6db3969182ca3d013e0b541ec2d49f13430ba059cff6943bff5d2b09c", func := "sluicegate/sluicegatelaw26.FrontRelation", spec := "frontRelation", inPlace := ["internal/abi.NoEscape", "internal/bytealg.MakeNoZero"], unfollowed := true, recurses := true, named := ["unicode/utf8.first", "unicode/utf8.acceptRanges"], apart := false, laid := [("unicode/utf8.acceptRanges", laid_unicode_utf8_acceptRanges), ("unicode/utf8.first", laid_unicode_utf8_first)], narrowed := true }
def FrontRelationUptoSaid : Prop := frontRelationUptoRow.holds Tryz.pinned (OpenSpec.upto frontRelationSpec)

/-- 'sluicegatelaw21.RelationAdmits', WHERE WHAT IT READS IS OF BULK AT MOST 1048576: true; the input reads as it did. -/
def relationAdmitsUptoRow : OpenClaim := { program := "ytpdjhlcbcomdkaagreatdoor", sum := "a099ebf6db3969182ca3d013e0b541ec2d49f13430ba059cff6943bff5d2b09c", func := "sluicegate/sluicegatelaw21.RelationAdmits", spec := "relationAdmits", inPlace := ["internal/abi.NoEscape", "internal/bytealg.MakeNoZero"], unfollowed := true, recurses := true, named := ["unicode/utf8.first", "unicode/utf8.acceptRanges"], apart := false, laid := [("unicode/utf8.acceptRanges", laid_unicode_utf8_acceptRanges), ("unicode/utf8.first", laid_unicode_utf8_first)], narrowed := true }
def RelationAdmitsUptoSaid : Prop := relationAdmitsUptoRow.holds Tryz.pinned (OpenSpec.upto relationAdmitsSpec)

/-- 'sluicegatelaw21.RelationLives', WHERE WHAT IT READS IS OF BULK AT MOST 1048576: true; the input reads as it did. -/
def relationLivesUptoRow : OpenClaim := { program := "ytpdjhlcbcomdkaagreatdoor", sum := "a099ebf6db3969182ca3d013e0b541ec2d49f13430ba059cff6943bff5d2b09c", func := "sluicegate/sluicegatelaw21.RelationLives", spec := "relationLives", inPlace := ["internal/abi.NoEscape", "internal/bytealg.MakeNoZero"], unfollowed := true, recurses := true, named := ["unicode/utf8.first", "unicode/utf8.acceptRanges"], apart := false, laid := [("unicode/utf8.acceptRanges", laid_unicode_utf8_acceptRanges), ("unicode/utf8.first", laid_unicode_utf8_first)], narrowed := true }
def RelationLivesUptoSaid : Prop := relationLivesUptoRow.holds Tryz.pinned (OpenSpec.upto relationLivesSpec)

/-- 'sluicegatelaw21.RelationSent', WHERE WHAT IT READS IS OF BULK AT MOST 1048576: true; the input reads as it did. -/
def relationSentUptoRow : OpenClaim := { program := "ytpdjhlcbcomdkaagreatdoor", sum := "a099ebf6db3969182ca3d013e0b541ec2d49f13430ba059cff6943bff5d2b09c", func := "sluicegate/sluicegatelaw21.RelationSent", spec := "relationSent", inPlace := ["internal/abi.NoEscape", "internal/bytealg.MakeNoZero"], unfollowed := true, recurses := true, named := ["unicode/utf8.first", "unicode/utf8.acceptRanges"], apart := false, laid := [("unicode/utf8.acceptRanges", laid_unicode_utf8_acceptRanges), ("unicode/utf8.first", laid_unicode_utf8_first)], narrowed := true }
def RelationSentUptoSaid : Prop := relationSentUptoRow.holds Tryz.pinned (OpenSpec.upto relationSentSpec)

/-- 'sluicegatelaw21.RelationFront', WHERE WHAT IT READS IS OF BULK AT MOST 1048576: true; the input reads as it did. -/
def relationFrontUptoRow : OpenClaim := { program := "ytpdjhlcbcomdkaagreatdoor", sum := "a099ebf6db3969182ca3d013e0b541ec2d49f13430ba059cff6943bff5d2b09c", func := "sluicegate/sluicegatelaw21.RelationFront", spec := "relationFront", inPlace := ["internal/abi.NoEscape", "internal/bytealg.MakeNoZero"], unfollowed := true, recurses := true, named := ["unicode/utf8.first", "unicode/utf8.acceptRanges"], apart := false, laid := [("unicode/utf8.acceptRanges", laid_unicode_utf8_acceptRanges), ("unicode/utf8.first", laid_unicode_utf8_first)], narrowed := true }
def RelationFrontUptoSaid : Prop := relationFrontUptoRow.holds Tryz.pinned (OpenSpec.upto relationFrontSpec)

/-- 'sluicegatelaw21.RelationAlone', WHERE WHAT IT READS IS OF BULK AT MOST 1048576: true; the input reads as it did. -/
def relationAloneUptoRow : OpenClaim := { program := "ytpdjhlcbcomdkaagreatdoor", sum := "a099ebf6db3969182ca3d013e0b541ec2d49f13430ba059cff6943bff5d2b09c", func := "sluicegate/sluicegatelaw21.RelationAlone", spec := "relationAlone", inPlace := ["internal/abi.NoEscape", "internal/bytealg.MakeNoZero"], unfollowed := true, recurses := true, named := ["unicode/utf8.first", "unicode/utf8.acceptRanges"], apart := false, laid := [("unicode/utf8.acceptRanges", laid_unicode_utf8_acceptRanges), ("unicode/utf8.first", laid_unicode_utf8_first)], narrowed := true }
def RelationAloneUptoSaid : Prop := relationAloneUptoRow.holds Tryz.pinned (OpenSpec.upto relationAloneSpec)

/-- 'sluicegatelaw21.RelationWrong', WHERE WHAT IT READS IS OF BULK AT MOST 1048576: true; the input reads as it did. -/
def relationWrongUptoRow : OpenClaim := { program := "ytpdjhlcbcomdkaagreatdoor", sum := "a099ebf6db3969182ca3d013e0b541ec2d49f13430ba059cff6943bff5d2b09c", func := "sluicegate/sluicegatelaw21.RelationWrong", spec := "relationWrong", inPlace := ["internal/abi.NoEscape", "internal/bytealg.MakeNoZero"], unfollowed := true, recurses := true, named := ["unicode/utf8.first", "unicode/utf8.acceptRanges"], apart := false, laid := [("unicode/utf8.acceptRanges", laid_unicode_utf8_acceptRanges), ("unicode/utf8.first", laid_unicode_utf8_first)], narrowed := true }
def RelationWrongUptoSaid : Prop := relationWrongUptoRow.holds Tryz.pinned (OpenSpec.upto relationWrongSpec)

/-- 'sluicegatelaw21.RelationAt', WHERE WHAT IT READS IS OF BULK AT MOST 1048576: true; the input reads as it did. -/
def relationAtUptoRow : OpenClaim := { program := "ytpdjhlcbcomdkaagreatdoor", sum := "a099ebf6db3969182ca3d013e0b541ec2d49f13430ba059cff6943bff5d2b09c", func := "sluicegate/sluicegatelaw21.RelationAt", spec := "relationAt", inPlace := ["internal/abi.NoEscape", "internal/bytealg.MakeNoZero"], unfollowed := true, recurses := true, named := ["unicode/utf8.first", "unicode/utf8.acceptRanges"], apart := false, laid := [("unicode/utf8.acceptRanges", laid_unicode_utf8_acceptRanges), ("unicode/utf8.first", laid_unicode_utf8_first)], narrowed := true }
def RelationAtUptoSaid : Prop := relationAtUptoRow.holds Tryz.pinned (OpenSpec.upto relationAtSpec)

/-- 'sluicegatelaw21.RelationRow', WHERE WHAT IT READS IS OF BULK AT MOST 1048576: true; the input reads as it did. -/
def relationRowUptoRow : OpenClaim := { program := "ytpdjhlcbcomdkaagreatdoor", sum := "a099ebf6db3969182ca3d013e0b541ec2d49f13430ba059cff6943bff5d2b09c", func := "sluicegate/sluicegatelaw21.RelationRow", spec := "relationRow", inPlace := ["internal/abi.NoEscape", "internal/bytealg.MakeNoZero"], unfollowed := true, recurses := true, named := ["unicode/utf8.first", "unicode/utf8.acceptRanges"], apart := false, laid := [("unicode/utf8.acceptRanges", laid_unicode_utf8_acceptRanges), ("unicode/utf8.first", laid_unicode_utf8_first)], narrowed := true }
def RelationRowUptoSaid : Prop := relationRowUptoRow.holds Tryz.pinned (OpenSpec.upto relationRowSpec)

end Rows
end Go.Proofs.YtpdjhlcbcomdkaaGreatDoor
