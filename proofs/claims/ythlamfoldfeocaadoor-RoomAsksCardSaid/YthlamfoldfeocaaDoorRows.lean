/-
  NARROWER THAN 'FOR EVERY INPUT', by the rows' own cells (each row's printed sentence says how): RoomAsks: laid · RoomAsking: laid · RoomKeeps: laid · RoomSound: laid · RoomEnds: laid · RoomPlays: laid · RoomGone: laid.
  DERIVED. THE GIVEN ROWS OF THIS SEAT. 7 by the template 'for every input the law returns true; each argument reads behind the call as it read before'; 0 by the template 'total and deterministic' (their statements: YthlamfoldfeocaaDoorTotals.lean).
  GIVEN WITH THE SEED: the statements are not yours to turn. If you find one false, say at which input.
  Laid BY PROGRAM, IN A SANDBOX (cutbox-rows.mjs): the forced cells as the released guide's own fill.sh prints them over the translation cac766127aee52da… (all of the seat's roots in one cut). By AI agents, Wed Nov 11 2026. No macro, syntax, notation, axiom, sorry.
-/
import Derived.Test.YthlamfoldfeocaaDoorChecked
import GoSem.PinnedTables
import GoSem.Claim
import GoSem.ClaimJoined
import GoSem.ClaimMapViews
import Derived.JoinedTies
import Derived.KernelRfl
namespace Go.Proofs.YthlamfoldfeocaaDoor
/- THE CELL 'sum', in the pinned program and in every row, IS THE sha256 OF THE DUMP (.gsa) THAT YthlamfoldfeocaaDoorProg.lean LOADS. Nothing in Lean hashes anything: it is a label: what it is worth is what the hold of that sum in a sandbox is worth. -/
noncomputable def Tryd.pinned : Pinned := { name := "ythlamfoldfeocaadoor", sum := "cac766127aee52dad8b567f5c1f174daace8d73c34e3e281d27465f80cb474fa", checked := Tryd.checked }
namespace Rows
def none {H : Type} : Left H := { results := [], args := [] }

/- WHAT THE LISTED PACKAGE-LEVEL VARIABLES READ AS WHEN THE CALL BEGINS. Each datum BY PROGRAM (the guide's laid-datum.mjs) off the statement by which the dump's own 'gosem.cut.vars' lays the variable. In a bare row this is a premise. The card (YthlamfoldfeocaaDoorCards.lean) ties it to the program's text. -/
def laid_unicode_utf8_acceptRanges {H : Type} : DataW H := .agg [.agg [.lit (.int .u8 128), .lit (.int .u8 191)], .agg [.lit (.int .u8 160), .lit (.int .u8 191)], .agg [.lit (.int .u8 128), .lit (.int .u8 159)], .agg [.lit (.int .u8 144), .lit (.int .u8 191)], .agg [.lit (.int .u8 128), .lit (.int .u8 143)], .agg [.lit (.int .u8 0), .lit (.int .u8 0)], .agg [.lit (.int .u8 0), .lit (.int .u8 0)], .agg [.lit (.int .u8 0), .lit (.int .u8 0)], .agg [.lit (.int .u8 0), .lit (.int .u8 0)], .agg [.lit (.int .u8 0), .lit (.int .u8 0)], .agg [.lit (.int .u8 0), .lit (.int .u8 0)], .agg [.lit (.int .u8 0), .lit (.int .u8 0)], .agg [.lit (.int .u8 0), .lit (.int .u8 0)], .agg [.lit (.int .u8 0), .lit (.int .u8 0)], .agg [.lit (.int .u8 0), .lit (.int .u8 0)], .agg [.lit (.int .u8 0), .lit (.int .u8 0)]]
/-- One of Go's own tables, pinned by name: the form's constant. -/
def laid_unicode_utf8_first : DataW Unit := Go.Pinned.utf8First

/-- 'sluicegatelaw20.RoomAsks': WHATEVER THE INPUT: true; the input reads as it did. -/
def roomAsksSpec : ChangeSpec := { name := "roomAsks", fn := fun _ => fun
  | [d1, d2, d3, d4] => { results := [.lit (.bool true)], args := [d1, d2, d3, d4] }
  | _ => none }
def roomAsksRow : OpenClaim := { program := "ythlamfoldfeocaadoor", sum := "cac766127aee52dad8b567f5c1f174daace8d73c34e3e281d27465f80cb474fa", func := "sluicegate/sluicegatelaw20.RoomAsks", spec := "roomAsks", inPlace := ["internal/abi.NoEscape", "internal/bytealg.MakeNoZero"], unfollowed := true, recurses := true, named := ["unicode/utf8.first", "unicode/utf8.acceptRanges"], plainKeys := false, apart := false, laid := [("unicode/utf8.acceptRanges", laid_unicode_utf8_acceptRanges), ("unicode/utf8.first", laid_unicode_utf8_first)] }
def RoomAsksSaid : Prop := roomAsksRow.holds Tryd.pinned (OpenSpec.ofChange roomAsksSpec)

/-- ITS FALSE NEIGHBOUR: 'it returns false'. Refute it at one input. -/
def roomAsksWrong : ChangeSpec := { name := "roomAsks", fn := fun _ => fun
  | [d1, d2, d3, d4] => { results := [.lit (.bool false)], args := [d1, d2, d3, d4] }
  | _ => none }
def RoomAsksWrongFalsely : Prop := roomAsksRow.holds Tryd.pinned (OpenSpec.ofChange roomAsksWrong)

/-- 'sluicegatelaw20.RoomAsking': WHATEVER THE INPUT: true; the input reads as it did. -/
def roomAskingSpec : ChangeSpec := { name := "roomAsking", fn := fun _ => fun
  | [d] => { results := [.lit (.bool true)], args := [d] }
  | _ => none }
def roomAskingRow : OpenClaim := { program := "ythlamfoldfeocaadoor", sum := "cac766127aee52dad8b567f5c1f174daace8d73c34e3e281d27465f80cb474fa", func := "sluicegate/sluicegatelaw20.RoomAsking", spec := "roomAsking", inPlace := ["internal/abi.NoEscape", "internal/bytealg.MakeNoZero"], unfollowed := true, recurses := true, named := ["unicode/utf8.first", "unicode/utf8.acceptRanges"], plainKeys := false, apart := false, laid := [("unicode/utf8.acceptRanges", laid_unicode_utf8_acceptRanges), ("unicode/utf8.first", laid_unicode_utf8_first)] }
def RoomAskingSaid : Prop := roomAskingRow.holds Tryd.pinned (OpenSpec.ofChange roomAskingSpec)

/-- ITS FALSE NEIGHBOUR: 'it returns false'. Refute it at one input. -/
def roomAskingWrong : ChangeSpec := { name := "roomAsking", fn := fun _ => fun
  | [d] => { results := [.lit (.bool false)], args := [d] }
  | _ => none }
def RoomAskingWrongFalsely : Prop := roomAskingRow.holds Tryd.pinned (OpenSpec.ofChange roomAskingWrong)

/-- 'sluicegatelaw20.RoomKeeps': WHATEVER THE INPUT: true; the input reads as it did. -/
def roomKeepsSpec : ChangeSpec := { name := "roomKeeps", fn := fun _ => fun
  | [d] => { results := [.lit (.bool true)], args := [d] }
  | _ => none }
def roomKeepsRow : OpenClaim := { program := "ythlamfoldfeocaadoor", sum := "cac766127aee52dad8b567f5c1f174daace8d73c34e3e281d27465f80cb474fa", func := "sluicegate/sluicegatelaw20.RoomKeeps", spec := "roomKeeps", inPlace := ["internal/abi.NoEscape", "internal/bytealg.MakeNoZero"], unfollowed := true, recurses := true, named := ["unicode/utf8.first", "unicode/utf8.acceptRanges"], plainKeys := false, apart := false, laid := [("unicode/utf8.acceptRanges", laid_unicode_utf8_acceptRanges), ("unicode/utf8.first", laid_unicode_utf8_first)] }
def RoomKeepsSaid : Prop := roomKeepsRow.holds Tryd.pinned (OpenSpec.ofChange roomKeepsSpec)

/-- ITS FALSE NEIGHBOUR: 'it returns false'. Refute it at one input. -/
def roomKeepsWrong : ChangeSpec := { name := "roomKeeps", fn := fun _ => fun
  | [d] => { results := [.lit (.bool false)], args := [d] }
  | _ => none }
def RoomKeepsWrongFalsely : Prop := roomKeepsRow.holds Tryd.pinned (OpenSpec.ofChange roomKeepsWrong)

/-- 'sluicegatelaw20.RoomSound': WHATEVER THE INPUT: true; the input reads as it did. -/
def roomSoundSpec : ChangeSpec := { name := "roomSound", fn := fun _ => fun
  | [d] => { results := [.lit (.bool true)], args := [d] }
  | _ => none }
def roomSoundRow : OpenClaim := { program := "ythlamfoldfeocaadoor", sum := "cac766127aee52dad8b567f5c1f174daace8d73c34e3e281d27465f80cb474fa", func := "sluicegate/sluicegatelaw20.RoomSound", spec := "roomSound", inPlace := ["internal/abi.NoEscape", "internal/bytealg.MakeNoZero"], unfollowed := true, recurses := true, named := ["unicode/utf8.first", "unicode/utf8.acceptRanges"], plainKeys := false, apart := false, laid := [("unicode/utf8.acceptRanges", laid_unicode_utf8_acceptRanges), ("unicode/utf8.first", laid_unicode_utf8_first)] }
def RoomSoundSaid : Prop := roomSoundRow.holds Tryd.pinned (OpenSpec.ofChange roomSoundSpec)

/-- ITS FALSE NEIGHBOUR: 'it returns false'. Refute it at one input. -/
def roomSoundWrong : ChangeSpec := { name := "roomSound", fn := fun _ => fun
  | [d] => { results := [.lit (.bool false)], args := [d] }
  | _ => none }
def RoomSoundWrongFalsely : Prop := roomSoundRow.holds Tryd.pinned (OpenSpec.ofChange roomSoundWrong)

/-- 'sluicegatelaw20.RoomEnds': WHATEVER THE INPUT: true; the input reads as it did. -/
def roomEndsSpec : ChangeSpec := { name := "roomEnds", fn := fun _ => fun
  | [d] => { results := [.lit (.bool true)], args := [d] }
  | _ => none }
def roomEndsRow : OpenClaim := { program := "ythlamfoldfeocaadoor", sum := "cac766127aee52dad8b567f5c1f174daace8d73c34e3e281d27465f80cb474fa", func := "sluicegate/sluicegatelaw20.RoomEnds", spec := "roomEnds", inPlace := ["internal/abi.NoEscape", "internal/bytealg.MakeNoZero"], unfollowed := true, recurses := true, named := ["unicode/utf8.first", "unicode/utf8.acceptRanges"], plainKeys := false, apart := false, laid := [("unicode/utf8.acceptRanges", laid_unicode_utf8_acceptRanges), ("unicode/utf8.first", laid_unicode_utf8_first)] }
def RoomEndsSaid : Prop := roomEndsRow.holds Tryd.pinned (OpenSpec.ofChange roomEndsSpec)

/-- ITS FALSE NEIGHBOUR: 'it returns false'. Refute it at one input. -/
def roomEndsWrong : ChangeSpec := { name := "roomEnds", fn := fun _ => fun
  | [d] => { results := [.lit (.bool false)], args := [d] }
  | _ => none }
def RoomEndsWrongFalsely : Prop := roomEndsRow.holds Tryd.pinned (OpenSpec.ofChange roomEndsWrong)

/-- 'sluicegatelaw20.RoomPlays': WHATEVER THE INPUT: true; the input reads as it did. -/
def roomPlaysSpec : ChangeSpec := { name := "roomPlays", fn := fun _ => fun
  | [d] => { results := [.lit (.bool true)], args := [d] }
  | _ => none }
def roomPlaysRow : OpenClaim := { program := "ythlamfoldfeocaadoor", sum := "cac766127aee52dad8b567f5c1f174daace8d73c34e3e281d27465f80cb474fa", func := "sluicegate/sluicegatelaw20.RoomPlays", spec := "roomPlays", inPlace := ["internal/abi.NoEscape", "internal/bytealg.MakeNoZero"], unfollowed := true, recurses := true, named := ["unicode/utf8.first", "unicode/utf8.acceptRanges"], plainKeys := false, apart := false, laid := [("unicode/utf8.acceptRanges", laid_unicode_utf8_acceptRanges), ("unicode/utf8.first", laid_unicode_utf8_first)] }
def RoomPlaysSaid : Prop := roomPlaysRow.holds Tryd.pinned (OpenSpec.ofChange roomPlaysSpec)

/-- ITS FALSE NEIGHBOUR: 'it returns false'. Refute it at one input. -/
def roomPlaysWrong : ChangeSpec := { name := "roomPlays", fn := fun _ => fun
  | [d] => { results := [.lit (.bool false)], args := [d] }
  | _ => none }
def RoomPlaysWrongFalsely : Prop := roomPlaysRow.holds Tryd.pinned (OpenSpec.ofChange roomPlaysWrong)

/-- 'sluicegatelaw20.RoomGone': WHATEVER THE INPUT: true; the input reads as it did. -/
def roomGoneSpec : ChangeSpec := { name := "roomGone", fn := fun _ => fun
  | [d1, d2, d3] => { results := [.lit (.bool true)], args := [d1, d2, d3] }
  | _ => none }
def roomGoneRow : OpenClaim := { program := "ythlamfoldfeocaadoor", sum := "cac766127aee52dad8b567f5c1f174daace8d73c34e3e281d27465f80cb474fa", func := "sluicegate/sluicegatelaw20.RoomGone", spec := "roomGone", inPlace := ["internal/abi.NoEscape", "internal/bytealg.MakeNoZero"], unfollowed := true, recurses := true, named := ["unicode/utf8.first", "unicode/utf8.acceptRanges"], plainKeys := false, apart := false, laid := [("unicode/utf8.acceptRanges", laid_unicode_utf8_acceptRanges), ("unicode/utf8.first", laid_unicode_utf8_first)] }
def RoomGoneSaid : Prop := roomGoneRow.holds Tryd.pinned (OpenSpec.ofChange roomGoneSpec)

/-- ITS FALSE NEIGHBOUR: 'it returns false'. Refute it at one input. -/
def roomGoneWrong : ChangeSpec := { name := "roomGone", fn := fun _ => fun
  | [d1, d2, d3] => { results := [.lit (.bool false)], args := [d1, d2, d3] }
  | _ => none }
def RoomGoneWrongFalsely : Prop := roomGoneRow.holds Tryd.pinned (OpenSpec.ofChange roomGoneWrong)

/- THE SECOND FORM. 'bulk': how many values and letters a reading holds, each counted each time it is reached (what is shared counts as often as it is met; a slice's spare places count too). A statement '..UptoSaid' is the law's where the arguments, and the package variables that the reading takes, are together of bulk at most 1048576: NARROWER than '..Said'. Prove '..Said' where nothing that the law and all that it calls make is longer than what came in: it says more and counts as full. Else prove '..UptoSaid'. A law counts once. -/
mutual
def uptoBulk {H : Type} : DataW H → Nat
  | .lit (.string bytes) => bytes.length + 1
  | .lit _ => 1
  | .nil => 1
  | .ptr d => uptoBulk d + 1
  | .slice elems spare => uptoBulkAll elems + uptoBulkAll spare + 1
  | .agg parts => uptoBulkAll parts + 1
  | .iface _ d => uptoBulk d + 1
  | .map entries => uptoBulkEntries entries + 1
  | .held _ => 1
def uptoBulkAll {H : Type} : List (DataW H) → Nat
  | [] => 0
  | d :: r => uptoBulk d + uptoBulkAll r
def uptoBulkEntries {H : Type} : List (Lit × DataW H) → Nat
  | [] => 0
  | x :: r => uptoBulkEntry x + uptoBulkEntries r
def uptoBulkEntry {H : Type} : Lit × DataW H → Nat
  | (.string bytes, d) => bytes.length + uptoBulk d + 1
  | (_, d) => uptoBulk d + 1
 end
def uptoSmall : (H : Type) → List (DataW H) → Bool := fun _ ds => decide (uptoBulkAll ds ≤ 1048576)
def OpenSpec.upto (s : _root_.Go.ChangeSpec) : _root_.Go.OpenSpec := { _root_.Go.OpenSpec.ofChange s with cond := some uptoSmall }

/-- 'sluicegatelaw20.RoomAsks', WHERE WHAT IT READS IS OF BULK AT MOST 1048576: true; the input reads as it did. -/
def roomAsksUptoRow : OpenClaim := { program := "ythlamfoldfeocaadoor", sum := "cac766127aee52dad8b567f5c1f174daace8d73c34e3e281d27465f80cb474fa", func := "sluicegate/sluicegatelaw20.RoomAsks", spec := "roomAsks", inPlace := ["internal/abi.NoEscape", "internal/bytealg.MakeNoZero"], unfollowed := true, recurses := true, named := ["unicode/utf8.first", "unicode/utf8.acceptRanges"], plainKeys := false, apart := false, laid := [("unicode/utf8.acceptRanges", laid_unicode_utf8_acceptRanges), ("unicode/utf8.first", laid_unicode_utf8_first)], narrowed := true }
def RoomAsksUptoSaid : Prop := roomAsksUptoRow.holds Tryd.pinned (OpenSpec.upto roomAsksSpec)

/-- 'sluicegatelaw20.RoomAsking', WHERE WHAT IT READS IS OF BULK AT MOST 1048576: true; the input reads as it did. -/
def roomAskingUptoRow : OpenClaim := { program := "ythlamfoldfeocaadoor", sum := "cac766127aee52dad8b567f5c1f174daace8d73c34e3e281d27465f80cb474fa", func := "sluicegate/sluicegatelaw20.RoomAsking", spec := "roomAsking", inPlace := ["internal/abi.NoEscape", "internal/bytealg.MakeNoZero"], unfollowed := true, recurses := true, named := ["unicode/utf8.first", "unicode/utf8.acceptRanges"], plainKeys := false, apart := false, laid := [("unicode/utf8.acceptRanges", laid_unicode_utf8_acceptRanges), ("unicode/utf8.first", laid_unicode_utf8_first)], narrowed := true }
def RoomAskingUptoSaid : Prop := roomAskingUptoRow.holds Tryd.pinned (OpenSpec.upto roomAskingSpec)

/-- 'sluicegatelaw20.RoomKeeps', WHERE WHAT IT READS IS OF BULK AT MOST 1048576: true; the input reads as it did. -/
def roomKeepsUptoRow : OpenClaim := { program := "ythlamfoldfeocaadoor", sum := "cac766127aee52dad8b567f5c1f174daace8d73c34e3e281d27465f80cb474fa", func := "sluicegate/sluicegatelaw20.RoomKeeps", spec := "roomKeeps", inPlace := ["internal/abi.NoEscape", "internal/bytealg.MakeNoZero"], unfollowed := true, recurses := true, named := ["unicode/utf8.first", "unicode/utf8.acceptRanges"], plainKeys := false, apart := false, laid := [("unicode/utf8.acceptRanges", laid_unicode_utf8_acceptRanges), ("unicode/utf8.first", laid_unicode_utf8_first)], narrowed := true }
def RoomKeepsUptoSaid : Prop := roomKeepsUptoRow.holds Tryd.pinned (OpenSpec.upto roomKeepsSpec)

/-- 'sluicegatelaw20.RoomSound', WHERE WHAT IT READS IS OF BULK AT MOST 1048576: true; the input reads as it did. -/
def roomSoundUptoRow : OpenClaim := { program := "ythlamfoldfeocaadoor", sum := "cac766127aee52dad8b567f5c1f174daace8d73c34e3e281d27465f80cb474fa", func := "sluicegate/sluicegatelaw20.RoomSound", spec := "roomSound", inPlace := ["internal/abi.NoEscape", "internal/bytealg.MakeNoZero"], unfollowed := true, recurses := true, named := ["unicode/utf8.first", "unicode/utf8.acceptRanges"], plainKeys := false, apart := false, laid := [("unicode/utf8.acceptRanges", laid_unicode_utf8_acceptRanges), ("unicode/utf8.first", laid_unicode_utf8_first)], narrowed := true }
def RoomSoundUptoSaid : Prop := roomSoundUptoRow.holds Tryd.pinned (OpenSpec.upto roomSoundSpec)

/-- 'sluicegatelaw20.RoomEnds', WHERE WHAT IT READS IS OF BULK AT MOST 1048576: true; the input reads as it did. -/
def roomEndsUptoRow : OpenClaim := { program := "ythlamfoldfeocaadoor", sum := "cac766127aee52dad8b567f5c1f174daace8d73c34e3e281d27465f80cb474fa", func := "sluicegate/sluicegatelaw20.RoomEnds", spec := "roomEnds", inPlace := ["internal/abi.NoEscape", "internal/bytealg.MakeNoZero"], unfollowed := true, recurses := true, named := ["unicode/utf8.first", "unicode/utf8.acceptRanges"], plainKeys := false, apart := false, laid := [("unicode/utf8.acceptRanges", laid_unicode_utf8_acceptRanges), ("unicode/utf8.first", laid_unicode_utf8_first)], narrowed := true }
def RoomEndsUptoSaid : Prop := roomEndsUptoRow.holds Tryd.pinned (OpenSpec.upto roomEndsSpec)

/-- 'sluicegatelaw20.RoomPlays', WHERE WHAT IT READS IS OF BULK AT MOST 1048576: true; the input reads as it did. -/
def roomPlaysUptoRow : OpenClaim := { program := "ythlamfoldfeocaadoor", sum := "cac766127aee52dad8b567f5c1f174daace8d73c34e3e281d27465f80cb474fa", func := "sluicegate/sluicegatelaw20.RoomPlays", spec := "roomPlays", inPlace := ["internal/abi.NoEscape", "internal/bytealg.MakeNoZero"], unfollowed := true, recurses := true, named := ["unicode/utf8.first", "unicode/utf8.acceptRanges"], plainKeys := false, apart := false, laid := [("unicode/utf8.acceptRanges", laid_unicode_utf8_acceptRanges), ("unicode/utf8.first", laid_unicode_utf8_first)], narrowed := true }
def RoomPlaysUptoSaid : Prop := roomPlaysUptoRow.holds Tryd.pinned (OpenSpec.upto roomPlaysSpec)

/-- 'sluicegatelaw20.RoomGone', WHERE WHAT IT READS IS OF BULK AT MOST 1048576: true; the input reads as it did. -/
def roomGoneUptoRow : OpenClaim := { program := "ythlamfoldfeocaadoor", sum := "cac766127aee52dad8b567f5c1f174daace8d73c34e3e281d27465f80cb474fa", func := "sluicegate/sluicegatelaw20.RoomGone", spec := "roomGone", inPlace := ["internal/abi.NoEscape", "internal/bytealg.MakeNoZero"], unfollowed := true, recurses := true, named := ["unicode/utf8.first", "unicode/utf8.acceptRanges"], plainKeys := false, apart := false, laid := [("unicode/utf8.acceptRanges", laid_unicode_utf8_acceptRanges), ("unicode/utf8.first", laid_unicode_utf8_first)], narrowed := true }
def RoomGoneUptoSaid : Prop := roomGoneUptoRow.holds Tryd.pinned (OpenSpec.upto roomGoneSpec)

end Rows
end Go.Proofs.YthlamfoldfeocaaDoor
