/-
  NARROWER THAN 'FOR EVERY INPUT', by the rows' own cells (each row's printed sentence says how): LabelAll: laid · LabelOne: laid · LabelJoin: laid · LabelCut: laid · LabelKey: laid.
  DERIVED. THE GIVEN ROWS OF THIS SEAT. 5 by the template 'for every input the law returns true; each argument reads behind the call as it read before'; 0 by the template 'total and deterministic' (their statements: YtgmfjibmdfpkdaaDoorTotals.lean).
  GIVEN WITH THE SEED: the statements are not yours to turn. If you find one false, say at which input.
  Laid BY PROGRAM, IN A SANDBOX (cutbox-rows.mjs): the forced cells as the released guide's own fill.sh prints them over the translation fdbe3fd5350c6107… (all of the seat's roots in one cut). By AI agents, Wed Nov 11 2026. No macro, syntax, notation, axiom, sorry.
-/
import Derived.Test.YtgmfjibmdfpkdaaDoorChecked
import GoSem.PinnedTables
import GoSem.Claim
import GoSem.ClaimJoined
import GoSem.ClaimMapViews
import Derived.JoinedTies
import Derived.KernelRfl
namespace Go.Proofs.YtgmfjibmdfpkdaaDoor
/- THE CELL 'sum', in the pinned program and in every row, IS THE sha256 OF THE DUMP (.gsa) THAT YtgmfjibmdfpkdaaDoorProg.lean LOADS. Nothing in Lean hashes anything: it is a label: what it is worth is what the hold of that sum in a sandbox is worth. -/
noncomputable def Tryd.pinned : Pinned := { name := "ytgmfjibmdfpkdaadoor", sum := "fdbe3fd5350c6107b5a08f17208d3a763020ae960b79fc49d02cef4bc37fed68", checked := Tryd.checked }
namespace Rows
def none {H : Type} : Left H := { results := [], args := [] }

/- WHAT THE LISTED PACKAGE-LEVEL VARIABLES READ AS WHEN THE CALL BEGINS. Each datum BY PROGRAM (the guide's laid-datum.mjs) off the statement by which the dump's own 'gosem.cut.vars' lays the variable. In a bare row this is a premise. The card (YtgmfjibmdfpkdaaDoorCards.lean) ties it to the program's text. -/
def laid_unicode_utf8_acceptRanges {H : Type} : DataW H := .agg [.agg [.lit (.int .u8 128), .lit (.int .u8 191)], .agg [.lit (.int .u8 160), .lit (.int .u8 191)], .agg [.lit (.int .u8 128), .lit (.int .u8 159)], .agg [.lit (.int .u8 144), .lit (.int .u8 191)], .agg [.lit (.int .u8 128), .lit (.int .u8 143)], .agg [.lit (.int .u8 0), .lit (.int .u8 0)], .agg [.lit (.int .u8 0), .lit (.int .u8 0)], .agg [.lit (.int .u8 0), .lit (.int .u8 0)], .agg [.lit (.int .u8 0), .lit (.int .u8 0)], .agg [.lit (.int .u8 0), .lit (.int .u8 0)], .agg [.lit (.int .u8 0), .lit (.int .u8 0)], .agg [.lit (.int .u8 0), .lit (.int .u8 0)], .agg [.lit (.int .u8 0), .lit (.int .u8 0)], .agg [.lit (.int .u8 0), .lit (.int .u8 0)], .agg [.lit (.int .u8 0), .lit (.int .u8 0)], .agg [.lit (.int .u8 0), .lit (.int .u8 0)]]
/-- One of Go's own tables, pinned by name: the form's constant. -/
def laid_unicode_utf8_first : DataW Unit := Go.Pinned.utf8First

/-- 'sluicegatelaw3.LabelAll': WHATEVER THE INPUT: true; the input reads as it did. -/
def labelAllSpec : ChangeSpec := { name := "labelAll", fn := fun _ => fun
  | [d1, d2] => { results := [.lit (.bool true)], args := [d1, d2] }
  | _ => none }
def labelAllRow : OpenClaim := { program := "ytgmfjibmdfpkdaadoor", sum := "fdbe3fd5350c6107b5a08f17208d3a763020ae960b79fc49d02cef4bc37fed68", func := "sluicegate/sluicegatelaw3.LabelAll", spec := "labelAll", inPlace := ["internal/abi.NoEscape", "internal/bytealg.MakeNoZero"], unfollowed := true, recurses := true, named := ["unicode/utf8.first", "unicode/utf8.acceptRanges"], apart := false, laid := [("unicode/utf8.acceptRanges", laid_unicode_utf8_acceptRanges), ("unicode/utf8.first", laid_unicode_utf8_first)] }
def LabelAllSaid : Prop := labelAllRow.holds Tryd.pinned (OpenSpec.ofChange labelAllSpec)

/-- ITS FALSE NEIGHBOUR: 'it returns false'. Refute it at one input. -/
def labelAllWrong : ChangeSpec := { name := "labelAll", fn := fun _ => fun
  | [d1, d2] => { results := [.lit (.bool false)], args := [d1, d2] }
  | _ => none }
def LabelAllWrongFalsely : Prop := labelAllRow.holds Tryd.pinned (OpenSpec.ofChange labelAllWrong)

/-- 'sluicegatelaw3.LabelOne': WHATEVER THE INPUT: true; the input reads as it did. -/
def labelOneSpec : ChangeSpec := { name := "labelOne", fn := fun _ => fun
  | [d] => { results := [.lit (.bool true)], args := [d] }
  | _ => none }
def labelOneRow : OpenClaim := { program := "ytgmfjibmdfpkdaadoor", sum := "fdbe3fd5350c6107b5a08f17208d3a763020ae960b79fc49d02cef4bc37fed68", func := "sluicegate/sluicegatelaw3.LabelOne", spec := "labelOne", inPlace := ["internal/abi.NoEscape", "internal/bytealg.MakeNoZero"], unfollowed := true, recurses := true, named := ["unicode/utf8.first", "unicode/utf8.acceptRanges"], apart := false, laid := [("unicode/utf8.acceptRanges", laid_unicode_utf8_acceptRanges), ("unicode/utf8.first", laid_unicode_utf8_first)] }
def LabelOneSaid : Prop := labelOneRow.holds Tryd.pinned (OpenSpec.ofChange labelOneSpec)

/-- ITS FALSE NEIGHBOUR: 'it returns false'. Refute it at one input. -/
def labelOneWrong : ChangeSpec := { name := "labelOne", fn := fun _ => fun
  | [d] => { results := [.lit (.bool false)], args := [d] }
  | _ => none }
def LabelOneWrongFalsely : Prop := labelOneRow.holds Tryd.pinned (OpenSpec.ofChange labelOneWrong)

/-- 'sluicegatelaw3.LabelJoin': WHATEVER THE INPUT: true; the input reads as it did. -/
def labelJoinSpec : ChangeSpec := { name := "labelJoin", fn := fun _ => fun
  | [d1, d2] => { results := [.lit (.bool true)], args := [d1, d2] }
  | _ => none }
def labelJoinRow : OpenClaim := { program := "ytgmfjibmdfpkdaadoor", sum := "fdbe3fd5350c6107b5a08f17208d3a763020ae960b79fc49d02cef4bc37fed68", func := "sluicegate/sluicegatelaw3.LabelJoin", spec := "labelJoin", inPlace := ["internal/abi.NoEscape", "internal/bytealg.MakeNoZero"], unfollowed := true, recurses := true, named := ["unicode/utf8.first", "unicode/utf8.acceptRanges"], apart := false, laid := [("unicode/utf8.acceptRanges", laid_unicode_utf8_acceptRanges), ("unicode/utf8.first", laid_unicode_utf8_first)] }
def LabelJoinSaid : Prop := labelJoinRow.holds Tryd.pinned (OpenSpec.ofChange labelJoinSpec)

/-- ITS FALSE NEIGHBOUR: 'it returns false'. Refute it at one input. -/
def labelJoinWrong : ChangeSpec := { name := "labelJoin", fn := fun _ => fun
  | [d1, d2] => { results := [.lit (.bool false)], args := [d1, d2] }
  | _ => none }
def LabelJoinWrongFalsely : Prop := labelJoinRow.holds Tryd.pinned (OpenSpec.ofChange labelJoinWrong)

/-- 'sluicegatelaw3.LabelCut': WHATEVER THE INPUT: true; the input reads as it did. -/
def labelCutSpec : ChangeSpec := { name := "labelCut", fn := fun _ => fun
  | [d1, d2, d3] => { results := [.lit (.bool true)], args := [d1, d2, d3] }
  | _ => none }
def labelCutRow : OpenClaim := { program := "ytgmfjibmdfpkdaadoor", sum := "fdbe3fd5350c6107b5a08f17208d3a763020ae960b79fc49d02cef4bc37fed68", func := "sluicegate/sluicegatelaw3.LabelCut", spec := "labelCut", inPlace := ["internal/abi.NoEscape", "internal/bytealg.MakeNoZero"], unfollowed := true, recurses := true, named := ["unicode/utf8.first", "unicode/utf8.acceptRanges"], apart := false, laid := [("unicode/utf8.acceptRanges", laid_unicode_utf8_acceptRanges), ("unicode/utf8.first", laid_unicode_utf8_first)] }
def LabelCutSaid : Prop := labelCutRow.holds Tryd.pinned (OpenSpec.ofChange labelCutSpec)

/-- ITS FALSE NEIGHBOUR: 'it returns false'. Refute it at one input. -/
def labelCutWrong : ChangeSpec := { name := "labelCut", fn := fun _ => fun
  | [d1, d2, d3] => { results := [.lit (.bool false)], args := [d1, d2, d3] }
  | _ => none }
def LabelCutWrongFalsely : Prop := labelCutRow.holds Tryd.pinned (OpenSpec.ofChange labelCutWrong)

/-- 'sluicegatelaw3.LabelKey': WHATEVER THE INPUT: true; the input reads as it did. -/
def labelKeySpec : ChangeSpec := { name := "labelKey", fn := fun _ => fun
  | [d1, d2] => { results := [.lit (.bool true)], args := [d1, d2] }
  | _ => none }
def labelKeyRow : OpenClaim := { program := "ytgmfjibmdfpkdaadoor", sum := "fdbe3fd5350c6107b5a08f17208d3a763020ae960b79fc49d02cef4bc37fed68", func := "sluicegate/sluicegatelaw3.LabelKey", spec := "labelKey", inPlace := ["internal/abi.NoEscape", "internal/bytealg.MakeNoZero"], unfollowed := true, recurses := true, named := ["unicode/utf8.first", "unicode/utf8.acceptRanges"], apart := false, laid := [("unicode/utf8.acceptRanges", laid_unicode_utf8_acceptRanges), ("unicode/utf8.first", laid_unicode_utf8_first)] }
def LabelKeySaid : Prop := labelKeyRow.holds Tryd.pinned (OpenSpec.ofChange labelKeySpec)

/-- ITS FALSE NEIGHBOUR: 'it returns false'. Refute it at one input. -/
def labelKeyWrong : ChangeSpec := { name := "labelKey", fn := fun _ => fun
  | [d1, d2] => { results := [.lit (.bool false)], args := [d1, d2] }
  | _ => none }
def LabelKeyWrongFalsely : Prop := labelKeyRow.holds Tryd.pinned (OpenSpec.ofChange labelKeyWrong)

/- THE SECOND FORM. 'bulk': how many values and letters a reading holds, each counted each time it is reached (what is shared counts as often as it is met; a slice's spare places count too). A statement '..UptoSaid' is the law's where the arguments, and the package variables that the reading takes, are together of bulk at most 1048576: NARROWER than '..Said'. Prove '..Said' where nothing that the law and all that it calls make is longer than what came in: it says more and counts as full. Else prove '..UptoSaid'. A law counts once. -/
mutual
def uptoBulk {H : Type} : DataW H → Nat
  | .lit (.string bytes) => bytes.length + 1
  | .lit _ => 1
  | .nil => 1
  | .ptr d => uptoBulk d + 1
  | .slice elems spare => uptoBulkAll elems + uptoBulkAll spare + 1
  | .agg parts => uptoBulkAll parts + 1
  | .iface _ d => uptoBulk d + 1
  | .map entries => uptoBulkEntries entries + 1
  | .held _ => 1
def uptoBulkAll {H : Type} : List (DataW H) → Nat
  | [] => 0
  | d :: r => uptoBulk d + uptoBulkAll r
def uptoBulkEntries {H : Type} : List (Lit × DataW H) → Nat
  | [] => 0
  | x :: r => uptoBulkEntry x + uptoBulkEntries r
def uptoBulkEntry {H : Type} : Lit × DataW H → Nat
  | (.string bytes, d) => bytes.length + uptoBulk d + 1
  | (_, d) => uptoBulk d + 1
 end
def uptoSmall : (H : Type) → List (DataW H) → Bool := fun _ ds => decide (uptoBulkAll ds ≤ 1048576)
def OpenSpec.upto (s : _root_.Go.ChangeSpec) : _root_.Go.OpenSpec := { _root_.Go.OpenSpec.ofChange s with cond := some uptoSmall }

/-- 'sluicegatelaw3.LabelAll', WHERE WHAT IT READS IS OF BULK AT MOST 1048576: true; the input reads as it did. -/
def labelAllUptoRow : OpenClaim := { program := "ytgmfjibmdfpkdaadoor", sum := "fdbe3fd5350c6107b5a08f17208d3a763020ae960b79fc49d02cef4bc37fed68", func := "sluicegate/sluicegatelaw3.LabelAll", spec := "labelAll", inPlace := ["internal/abi.NoEscape", "internal/bytealg.MakeNoZero"], unfollowed := true, recurses := true, named := ["unicode/utf8.first", "unicode/utf8.acceptRanges"], apart := false, laid := [("unicode/utf8.acceptRanges", laid_unicode_utf8_acceptRanges), ("unicode/utf8.first", laid_unicode_utf8_first)], narrowed := true }
def LabelAllUptoSaid : Prop := labelAllUptoRow.holds Tryd.pinned (OpenSpec.upto labelAllSpec)

/-- 'sluicegatelaw3.LabelOne', WHERE WHAT IT READS IS OF BULK AT MOST 1048576: true; the input reads as it did. -/
def labelOneUptoRow : OpenClaim := { program := "ytgmfjibmdfpkdaadoor", sum := "fdbe3fd5350c6107b5a08f17208d3a763020ae960b79fc49d02cef4bc37fed68", func := "sluicegate/sluicegatelaw3.LabelOne", spec := "labelOne", inPlace := ["internal/abi.NoEscape", "internal/bytealg.MakeNoZero"], unfollowed := true, recurses := true, named := ["unicode/utf8.first", "unicode/utf8.acceptRanges"], apart := false, laid := [("unicode/utf8.acceptRanges", laid_unicode_utf8_acceptRanges), ("unicode/utf8.first", laid_unicode_utf8_first)], narrowed := true }
def LabelOneUptoSaid : Prop := labelOneUptoRow.holds Tryd.pinned (OpenSpec.upto labelOneSpec)

/-- 'sluicegatelaw3.LabelJoin', WHERE WHAT IT READS IS OF BULK AT MOST 1048576: true; the input reads as it did. -/
def labelJoinUptoRow : OpenClaim := { program := "ytgmfjibmdfpkdaadoor", sum := "fdbe3fd5350c6107b5a08f17208d3a763020ae960b79fc49d02cef4bc37fed68", func := "sluicegate/sluicegatelaw3.LabelJoin", spec := "labelJoin", inPlace := ["internal/abi.NoEscape", "internal/bytealg.MakeNoZero"], unfollowed := true, recurses := true, named := ["unicode/utf8.first", "unicode/utf8.acceptRanges"], apart := false, laid := [("unicode/utf8.acceptRanges", laid_unicode_utf8_acceptRanges), ("unicode/utf8.first", laid_unicode_utf8_first)], narrowed := true }
def LabelJoinUptoSaid : Prop := labelJoinUptoRow.holds Tryd.pinned (OpenSpec.upto labelJoinSpec)

/-- 'sluicegatelaw3.LabelCut', WHERE WHAT IT READS IS OF BULK AT MOST 1048576: true; the input reads as it did. -/
def labelCutUptoRow : OpenClaim := { program := "ytgmfjibmdfpkdaadoor", sum := "fdbe3fd5350c6107b5a08f17208d3a763020ae960b79fc49d02cef4bc37fed68", func := "sluicegate/sluicegatelaw3.LabelCut", spec := "labelCut", inPlace := ["internal/abi.NoEscape", "internal/bytealg.MakeNoZero"], unfollowed := true, recurses := true, named := ["unicode/utf8.first", "unicode/utf8.acceptRanges"], apart := false, laid := [("unicode/utf8.acceptRanges", laid_unicode_utf8_acceptRanges), ("unicode/utf8.first", laid_unicode_utf8_first)], narrowed := true }
def LabelCutUptoSaid : Prop := labelCutUptoRow.holds Tryd.pinned (OpenSpec.upto labelCutSpec)

/-- 'sluicegatelaw3.LabelKey', WHERE WHAT IT READS IS OF BULK AT MOST 1048576: true; the input reads as it did. -/
def labelKeyUptoRow : OpenClaim := { program := "ytgmfjibmdfpkdaadoor", sum := "fdbe3fd5350c6107b5a08f17208d3a763020ae960b79fc49d02cef4bc37fed68", func := "sluicegate/sluicegatelaw3.LabelKey", spec := "labelKey", inPlace := ["internal/abi.NoEscape", "internal/bytealg.MakeNoZero"], unfollowed := true, recurses := true, named := ["unicode/utf8.first", "unicode/utf8.acceptRanges"], apart := false, laid := [("unicode/utf8.acceptRanges", laid_unicode_utf8_acceptRanges), ("unicode/utf8.first", laid_unicode_utf8_first)], narrowed := true }
def LabelKeyUptoSaid : Prop := labelKeyUptoRow.holds Tryd.pinned (OpenSpec.upto labelKeySpec)

end Rows
end Go.Proofs.YtgmfjibmdfpkdaaDoor
