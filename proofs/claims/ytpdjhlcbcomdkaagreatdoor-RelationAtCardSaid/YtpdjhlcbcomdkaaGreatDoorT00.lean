/- Short rules and names for the texts that follow: rows of cells by their letters, struct loads and stores. -/
import Derived.Below
import Derived.BigQuiet
import Derived.Carry
import Derived.ChangeArms
import Derived.ChangeSame
import Derived.ChangeSlices
import Derived.Deep.CutBlock
import Derived.Deep.DeepCutAuto
import Derived.Deep.MidRow
import Derived.Deep.QuietTactic
import Derived.Deep.RegionHeld3
import Derived.Deep.RegionLaw
import Derived.Deep.RegionLawGrows
import Derived.Deep.Slices
import Derived.Great.BuildSlice
import Derived.IntWalk
import Derived.Laws.AppendOwn
import Derived.Laws.AppendOwnNone
import Derived.Laws.BitsAllLaws
import Derived.Laws.BytesString
import Derived.Laws.Cells
import Derived.Laws.IdiomStrings
import Derived.Laws.MakeOwn
import Derived.Laws.OwnMore
import Derived.Laws.RangeAny
import Derived.Laws.ResultCell
import Derived.Laws.Rows
import Derived.Laws.Slices
import Derived.Laws.StructEq
import Derived.Laws.Tables
import Derived.Lib.ConvBytes
import Derived.Lib.Hide
import Derived.Lib.IndexBytes
import Derived.Lib.MapLaws
import Derived.Lib.RuneCount
import Derived.Lib.ValidLaws
import Derived.Lib.Walk
import Derived.LoopTactic
import Derived.Maps.OwnSet
import Derived.OpenShut
import Derived.OwnWalk
import Derived.ProofKit
import Derived.Shelf.GgClosure.Gives
import Derived.SizedLaws
import Derived.StillTailTactics
import Derived.WalkKit
import Derived.WalkSpells
import Derived.WideKeyArgs
import Derived.WideKeyPair
import GoSem.Core.Value
set_option linter.unusedVariables false
namespace Go
open RowKit
/-- A row of cells by its letters. -/
inductive Q
 | Qa (a1 a2 a3 a4:Int) (a5:ByteArray) (a6:Option Addr) (a7 a8:Nat) (a9:Option Addr) (VP VQ:Nat)
 | Qb (a1 a2 a3 a4:Int)
 | Qc (a1:Bool) (a2 a3 a4 a5:Int) (a6:Option Addr) (a7 a8:Nat) (a9:Bool) (VP:Int) (VQ:Option Addr) (a12 U3:Nat) (U4:Option Addr) (Un T5:Nat) (a17:Int)
 | Qd (a1:Int) (a2 a3:Bool) (a4:Int)
 | Qe (a1 a2 a3 a4 a5 a6:Int) (a7:Option Addr) (a8 a9:Nat) (VP:Option Addr) (VQ a12:Nat) (U3:Int) (U4:Option Addr) (Un T5:Nat)
 | Qf (a1 a2:Int) (a3 a4:Bool)
 | Qg (a1:Bool) (a2 a3 a4 a5:Int) (a6:Option Addr) (a7 a8:Nat) (a9:Bool) (VP:Int) (VQ:Option Addr) (a12 U3:Nat) (U4:Option Addr) (Un T5:Nat) (a17 Rh:Int) (Mp a20:Bool) (a21:Int)
 | Qh (a1 a2 a3 a4 a5:Int)
 | Qi (a1:Option Addr) (a2:Array Value)
 | Qj (a1:Option Addr) (a2:Int)
 | Qk (a1 a2 a3:Int) (a4:Bool)
 | Ql (a1:Int) (a2:Bool) (a3 a4 a5 a6:Int) (a7:Option Addr) (a8 a9:Nat) (VP:Bool) (VQ:Int) (a12:Option Addr) (U3 U4:Nat) (Un:Option Addr) (T5 a17:Nat) (Rh Mp:Int) (a20 a21:Bool) (a22:Int) (a23:Option Addr) (a24 a25:Nat)
 | Qm (a1 a2 a3 a4:Int) (a5:Bool) (a6 a7 a8 a9:Int) (VP:Option Addr) (VQ a12:Nat) (U3:Bool) (U4:Int) (Un:Option Addr) (T5 a17:Nat) (Rh:Option Addr) (Mp a20:Nat) (a21 a22:Int) (a23 a24:Bool) (a25:Int) (a26:Option Addr) (a27 a28:Nat) (a29:Option Addr) (a30 a31:Nat) (a32:Int)
 | Qn (a1 a2 a3:Int)
 | Qo (a1:Array Value) (a2:Int)
 | Qp (a1 a2:Int) (a3:Option Addr) (a4 a5:Nat) (a6:Bool)
 | Qq (a1:Array Value) (a2 a3:Int)
 | Qs (a1 a2 a3 a4 a5 a6 a7:Int)
 | Qt (a1:Option Addr) (a2:Array Value) (a3:Int)
 | Qu (a1:Option Addr) (a2 a3:Int)
 | Qv (a1 a2:Int)
 | Qw (a1:Option Addr) (a2 a3:Nat) (a4 a5 a6:Value) (a7 a8 a9 VP VQ a12 U3 U4:Int) (Un:Option Addr)
 | Qx (a1:Option Addr) (a2 a3:Nat) (a4 a5 a6:Int)
 | Qy (a1 a2:Int)
 | Qz (a1:Array Value) (a2 a3 a4:Int)
 | Q0 (a1:Array Value) (a2:Bool)
 | Q4 (a1 a2:Int)
 | Q5 (a1:Int) (a2:ByteArray)
 | Q6 (a1 a2:Int) (a3:Bool)
 | Q7 (a1:Option Addr) (a2 a3 a4 a5:Int) (a6 a7 a8:Value)
 | Q8 (a1 a2 a3 a4 a5:Int) (a6:Bool)
 | Q9 (a1:Option Addr) (a2 a3:Nat) (a4:Int)
 | Ja (a1 a2:Int) (a3:Value)
 | Jb (a1:Int) (a2:Bool)
 | Jc (a1:Option Addr) (a2 a3:Int)
 | Jd (a1:Option Addr) (a2 a3:Array Value)
 | Je (a1 a2 a3 a4 a5 a6:Int) (a7:Value) (a8:Option Addr) (a9 VP:Nat) (VQ:Int) (a12:Option Addr) (U3 U4:Nat)
 | Jf (a1:Option Addr) (a2 a3:Nat) (a4 a5 a6:Value)
 | Jg (a1:Option Addr) (a2 a3:Nat) (a4:Option Addr) (a5 a6:Nat) (a7:Option Addr) (a8 a9:Nat)
 | Jh (a1:Option Addr) (a2 a3:Nat) (a4:Option Addr) (a5 a6:Nat) (a7:Option Addr) (a8 a9:Nat) (VP:Option Addr) (VQ a12:Nat) (U3 U4 Un T5 a17 Rh Mp a20:Int) (a21:Option Addr)
 | Ji (a1:Option Addr) (a2 a3:Nat) (a4:Array Value) (a5:Int)
 | Jj (a1:Option Addr) (a2:Int)
 | Jk (a1:Option Addr) (a2:Int) (a3:Bool)
 | Jl (a1:Option Addr) (a2:Int) (a3:Array Value)
 | Jm (a1:Option Addr) (a2 a3 a4 a5:Int) (a6:Option Addr) (a7 a8:Nat) (a9:Option Addr) (VP VQ:Nat) (a12:Option Addr) (U3 U4:Nat)
 | Jn (a1:Int) (a2:Bool)
 | Jo (a1:Bool) (a2 a3:Int) (a4:Value) (a5:Bool)
 | Jp (a1 a2:Array Value) (a3:Int)
instance {a1 a2 a3 a4 a5 a6 a7 a8 a9 VP VQ}:CoeDep Q (.Qa a1 a2 a3 a4 a5 a6 a7 a8 a9 VP VQ) (Array Value):=⟨#[.int .i64 a1,.int .i64 a2,.int .i64 a3,.int .i64 a4,.string a5,.slice a6 a7 a8,.slice a9 VP VQ]⟩
instance {a1 a2 a3 a4 a5 a6 a7 a8 a9 VP VQ}:CoeDep Q (.Qa a1 a2 a3 a4 a5 a6 a7 a8 a9 VP VQ) (List Value):=⟨[.int .i64 a1,.int .i64 a2,.int .i64 a3,.int .i64 a4,.string a5,.slice a6 a7 a8,.slice a9 VP VQ]⟩
instance {a1 a2 a3 a4}:CoeDep Q (.Qb a1 a2 a3 a4) (Array Value):=⟨#[.int .i64 a1,.int .i64 a2,.int .i64 a3,.int .i64 a4]⟩
instance {a1 a2 a3 a4}:CoeDep Q (.Qb a1 a2 a3 a4) (List Value):=⟨[.int .i64 a1,.int .i64 a2,.int .i64 a3,.int .i64 a4]⟩
instance {a1 a2 a3 a4 a5 a6 a7 a8 a9 VP VQ a12 U3 U4 Un T5 a17}:CoeDep Q (.Qc a1 a2 a3 a4 a5 a6 a7 a8 a9 VP VQ a12 U3 U4 Un T5 a17) (Array Value):=⟨#[.bool a1,.int .i64 a2,.int .u16 a3,.int .u32 a4,.int .u32 a5,.slice a6 a7 a8,.bool a9,.int .u16 VP,.slice VQ a12 U3,.slice U4 Un T5,.int .i64 a17]⟩
instance {a1 a2 a3 a4 a5 a6 a7 a8 a9 VP VQ a12 U3 U4 Un T5 a17}:CoeDep Q (.Qc a1 a2 a3 a4 a5 a6 a7 a8 a9 VP VQ a12 U3 U4 Un T5 a17) (List Value):=⟨[.bool a1,.int .i64 a2,.int .u16 a3,.int .u32 a4,.int .u32 a5,.slice a6 a7 a8,.bool a9,.int .u16 VP,.slice VQ a12 U3,.slice U4 Un T5,.int .i64 a17]⟩
instance {a1 a2 a3 a4}:CoeDep Q (.Qd a1 a2 a3 a4) (Array Value):=⟨#[.int .i64 a1,.bool a2,.bool a3,.int .u16 a4]⟩
instance {a1 a2 a3 a4}:CoeDep Q (.Qd a1 a2 a3 a4) (List Value):=⟨[.int .i64 a1,.bool a2,.bool a3,.int .u16 a4]⟩
instance {a1 a2 a3 a4 a5 a6 a7 a8 a9 VP VQ a12 U3 U4 Un T5}:CoeDep Q (.Qe a1 a2 a3 a4 a5 a6 a7 a8 a9 VP VQ a12 U3 U4 Un T5) (Array Value):=⟨#[.int .i64 a1,.int .u32 a2,.int .u64 a3,.int .u32 a4,.int .u32 a5,.int .u32 a6,.slice a7 a8 a9,.slice VP VQ a12,.int .u32 U3,.slice U4 Un T5]⟩
instance {a1 a2 a3 a4 a5 a6 a7 a8 a9 VP VQ a12 U3 U4 Un T5}:CoeDep Q (.Qe a1 a2 a3 a4 a5 a6 a7 a8 a9 VP VQ a12 U3 U4 Un T5) (List Value):=⟨[.int .i64 a1,.int .u32 a2,.int .u64 a3,.int .u32 a4,.int .u32 a5,.int .u32 a6,.slice a7 a8 a9,.slice VP VQ a12,.int .u32 U3,.slice U4 Un T5]⟩
instance {a1 a2 a3 a4}:CoeDep Q (.Qf a1 a2 a3 a4) (Array Value):=⟨#[.int .i64 a1,.int .i64 a2,.bool a3,.bool a4]⟩
instance {a1 a2 a3 a4}:CoeDep Q (.Qf a1 a2 a3 a4) (List Value):=⟨[.int .i64 a1,.int .i64 a2,.bool a3,.bool a4]⟩
instance {a1 a2 a3 a4 a5 a6 a7 a8 a9 VP VQ a12 U3 U4 Un T5 a17 Rh Mp a20 a21}:CoeDep Q (.Qg a1 a2 a3 a4 a5 a6 a7 a8 a9 VP VQ a12 U3 U4 Un T5 a17 Rh Mp a20 a21) (Array Value):=⟨#[.bool a1,.int .i64 a2,.int .u16 a3,.int .u32 a4,.int .u32 a5,.slice a6 a7 a8,.bool a9,.int .u16 VP,.slice VQ a12 U3,.slice U4 Un T5,.int .i64 a17,.int .i64 Rh,.bool Mp,.bool a20,.int .u16 a21]⟩
instance {a1 a2 a3 a4 a5 a6 a7 a8 a9 VP VQ a12 U3 U4 Un T5 a17 Rh Mp a20 a21}:CoeDep Q (.Qg a1 a2 a3 a4 a5 a6 a7 a8 a9 VP VQ a12 U3 U4 Un T5 a17 Rh Mp a20 a21) (List Value):=⟨[.bool a1,.int .i64 a2,.int .u16 a3,.int .u32 a4,.int .u32 a5,.slice a6 a7 a8,.bool a9,.int .u16 VP,.slice VQ a12 U3,.slice U4 Un T5,.int .i64 a17,.int .i64 Rh,.bool Mp,.bool a20,.int .u16 a21]⟩
instance {a1 a2 a3 a4 a5}:CoeDep Q (.Qh a1 a2 a3 a4 a5) (Array Value):=⟨#[.int .i64 a1,.int .i64 a2,.int .i64 a3,.int .i64 a4,.int .u32 a5]⟩
instance {a1 a2 a3 a4 a5}:CoeDep Q (.Qh a1 a2 a3 a4 a5) (List Value):=⟨[.int .i64 a1,.int .i64 a2,.int .i64 a3,.int .i64 a4,.int .u32 a5]⟩
instance {a1 a2}:CoeDep Q (.Qi a1 a2) (Array Value):=⟨#[.pointer a1,.agg a2]⟩
instance {a1 a2}:CoeDep Q (.Qi a1 a2) (List Value):=⟨[.pointer a1,.agg a2]⟩
instance {a1 a2}:CoeDep Q (.Qj a1 a2) (Array Value):=⟨#[.pointer a1,.int .i64 a2]⟩
instance {a1 a2}:CoeDep Q (.Qj a1 a2) (List Value):=⟨[.pointer a1,.int .i64 a2]⟩
instance {a1 a2 a3 a4}:CoeDep Q (.Qk a1 a2 a3 a4) (Array Value):=⟨#[.int .i64 a1,.int .i64 a2,.int .i64 a3,.bool a4]⟩
instance {a1 a2 a3 a4}:CoeDep Q (.Qk a1 a2 a3 a4) (List Value):=⟨[.int .i64 a1,.int .i64 a2,.int .i64 a3,.bool a4]⟩
instance {a1 a2 a3 a4 a5 a6 a7 a8 a9 VP VQ a12 U3 U4 Un T5 a17 Rh Mp a20 a21 a22 a23 a24 a25}:CoeDep Q (.Ql a1 a2 a3 a4 a5 a6 a7 a8 a9 VP VQ a12 U3 U4 Un T5 a17 Rh Mp a20 a21 a22 a23 a24 a25) (Array Value):=⟨#[.int .i64 a1,.bool a2,.int .i64 a3,.int .u16 a4,.int .u32 a5,.int .u32 a6,.slice a7 a8 a9,.bool VP,.int .u16 VQ,.slice a12 U3 U4,.slice Un T5 a17,.int .i64 Rh,.int .i64 Mp,.bool a20,.bool a21,.int .u16 a22,.slice a23 a24 a25]⟩
instance {a1 a2 a3 a4 a5 a6 a7 a8 a9 VP VQ a12 U3 U4 Un T5 a17 Rh Mp a20 a21 a22 a23 a24 a25}:CoeDep Q (.Ql a1 a2 a3 a4 a5 a6 a7 a8 a9 VP VQ a12 U3 U4 Un T5 a17 Rh Mp a20 a21 a22 a23 a24 a25) (List Value):=⟨[.int .i64 a1,.bool a2,.int .i64 a3,.int .u16 a4,.int .u32 a5,.int .u32 a6,.slice a7 a8 a9,.bool VP,.int .u16 VQ,.slice a12 U3 U4,.slice Un T5 a17,.int .i64 Rh,.int .i64 Mp,.bool a20,.bool a21,.int .u16 a22,.slice a23 a24 a25]⟩
instance {a1 a2 a3 a4 a5 a6 a7 a8 a9 VP VQ a12 U3 U4 Un T5 a17 Rh Mp a20 a21 a22 a23 a24 a25 a26 a27 a28 a29 a30 a31 a32}:CoeDep Q (.Qm a1 a2 a3 a4 a5 a6 a7 a8 a9 VP VQ a12 U3 U4 Un T5 a17 Rh Mp a20 a21 a22 a23 a24 a25 a26 a27 a28 a29 a30 a31 a32) (Array Value):=⟨#[.int .i64 a1,.int .i64 a2,.int .i64 a3,.int .i64 a4,.bool a5,.int .i64 a6,.int .u16 a7,.int .u32 a8,.int .u32 a9,.slice VP VQ a12,.bool U3,.int .u16 U4,.slice Un T5 a17,.slice Rh Mp a20,.int .i64 a21,.int .i64 a22,.bool a23,.bool a24,.int .u16 a25,.slice a26 a27 a28,.slice a29 a30 a31,.int .i64 a32]⟩
instance {a1 a2 a3 a4 a5 a6 a7 a8 a9 VP VQ a12 U3 U4 Un T5 a17 Rh Mp a20 a21 a22 a23 a24 a25 a26 a27 a28 a29 a30 a31 a32}:CoeDep Q (.Qm a1 a2 a3 a4 a5 a6 a7 a8 a9 VP VQ a12 U3 U4 Un T5 a17 Rh Mp a20 a21 a22 a23 a24 a25 a26 a27 a28 a29 a30 a31 a32) (List Value):=⟨[.int .i64 a1,.int .i64 a2,.int .i64 a3,.int .i64 a4,.bool a5,.int .i64 a6,.int .u16 a7,.int .u32 a8,.int .u32 a9,.slice VP VQ a12,.bool U3,.int .u16 U4,.slice Un T5 a17,.slice Rh Mp a20,.int .i64 a21,.int .i64 a22,.bool a23,.bool a24,.int .u16 a25,.slice a26 a27 a28,.slice a29 a30 a31,.int .i64 a32]⟩
instance {a1 a2 a3}:CoeDep Q (.Qn a1 a2 a3) (Array Value):=⟨#[.int .i64 a1,.int .i64 a2,.int .i64 a3]⟩
instance {a1 a2 a3}:CoeDep Q (.Qn a1 a2 a3) (List Value):=⟨[.int .i64 a1,.int .i64 a2,.int .i64 a3]⟩
instance {a1 a2}:CoeDep Q (.Qo a1 a2) (Array Value):=⟨#[.agg a1,.int .i64 a2]⟩
instance {a1 a2}:CoeDep Q (.Qo a1 a2) (List Value):=⟨[.agg a1,.int .i64 a2]⟩
instance {a1 a2 a3 a4 a5 a6}:CoeDep Q (.Qp a1 a2 a3 a4 a5 a6) (Array Value):=⟨#[.int .i64 a1,.int .i64 a2,.slice a3 a4 a5,.bool a6]⟩
instance {a1 a2 a3 a4 a5 a6}:CoeDep Q (.Qp a1 a2 a3 a4 a5 a6) (List Value):=⟨[.int .i64 a1,.int .i64 a2,.slice a3 a4 a5,.bool a6]⟩
instance {a1 a2 a3}:CoeDep Q (.Qq a1 a2 a3) (Array Value):=⟨#[.agg a1,.int .i64 a2,.int .i64 a3]⟩
instance {a1 a2 a3}:CoeDep Q (.Qq a1 a2 a3) (List Value):=⟨[.agg a1,.int .i64 a2,.int .i64 a3]⟩
instance {a1 a2 a3 a4 a5 a6 a7}:CoeDep Q (.Qs a1 a2 a3 a4 a5 a6 a7) (Array Value):=⟨#[.int .u32 a1,.int .u8 a2,.int .u32 a3,.int .u32 a4,.int .u32 a5,.int .u32 a6,.int .u32 a7]⟩
instance {a1 a2 a3 a4 a5 a6 a7}:CoeDep Q (.Qs a1 a2 a3 a4 a5 a6 a7) (List Value):=⟨[.int .u32 a1,.int .u8 a2,.int .u32 a3,.int .u32 a4,.int .u32 a5,.int .u32 a6,.int .u32 a7]⟩
instance {a1 a2 a3}:CoeDep Q (.Qt a1 a2 a3) (Array Value):=⟨#[.pointer a1,.agg a2,.int .i64 a3]⟩
instance {a1 a2 a3}:CoeDep Q (.Qt a1 a2 a3) (List Value):=⟨[.pointer a1,.agg a2,.int .i64 a3]⟩
instance {a1 a2 a3}:CoeDep Q (.Qu a1 a2 a3) (Array Value):=⟨#[.pointer a1,.int .i64 a2,.int .i64 a3]⟩
instance {a1 a2 a3}:CoeDep Q (.Qu a1 a2 a3) (List Value):=⟨[.pointer a1,.int .i64 a2,.int .i64 a3]⟩
instance {a1 a2}:CoeDep Q (.Qv a1 a2) (Array Value):=⟨#[.int .u8 a1,.int .u8 a2]⟩
instance {a1 a2}:CoeDep Q (.Qv a1 a2) (List Value):=⟨[.int .u8 a1,.int .u8 a2]⟩
instance {a1 a2 a3 a4 a5 a6 a7 a8 a9 VP VQ a12 U3 U4 Un}:CoeDep Q (.Qw a1 a2 a3 a4 a5 a6 a7 a8 a9 VP VQ a12 U3 U4 Un) (Array Value):=⟨#[.slice a1 a2 a3,a4,a5,a6,.int .i64 a7,.int .i64 a8,.int .i64 a9,.int .i64 VP,.int .i64 VQ,.int .i64 a12,.int .i64 U3,.int .i64 U4,.pointer Un]⟩
instance {a1 a2 a3 a4 a5 a6 a7 a8 a9 VP VQ a12 U3 U4 Un}:CoeDep Q (.Qw a1 a2 a3 a4 a5 a6 a7 a8 a9 VP VQ a12 U3 U4 Un) (List Value):=⟨[.slice a1 a2 a3,a4,a5,a6,.int .i64 a7,.int .i64 a8,.int .i64 a9,.int .i64 VP,.int .i64 VQ,.int .i64 a12,.int .i64 U3,.int .i64 U4,.pointer Un]⟩
instance {a1 a2 a3 a4 a5 a6}:CoeDep Q (.Qx a1 a2 a3 a4 a5 a6) (Array Value):=⟨#[.slice a1 a2 a3,.int .i64 a4,.int .u32 a5,.int .u16 a6]⟩
instance {a1 a2 a3 a4 a5 a6}:CoeDep Q (.Qx a1 a2 a3 a4 a5 a6) (List Value):=⟨[.slice a1 a2 a3,.int .i64 a4,.int .u32 a5,.int .u16 a6]⟩
instance {a1 a2}:CoeDep Q (.Qy a1 a2) (Array Value):=⟨#[.int .u16 a1,.int .u16 a2]⟩
instance {a1 a2}:CoeDep Q (.Qy a1 a2) (List Value):=⟨[.int .u16 a1,.int .u16 a2]⟩
instance {a1 a2 a3 a4}:CoeDep Q (.Qz a1 a2 a3 a4) (Array Value):=⟨#[.agg a1,.int .i64 a2,.int .i64 a3,.int .i64 a4]⟩
instance {a1 a2 a3 a4}:CoeDep Q (.Qz a1 a2 a3 a4) (List Value):=⟨[.agg a1,.int .i64 a2,.int .i64 a3,.int .i64 a4]⟩
instance {a1 a2}:CoeDep Q (.Q0 a1 a2) (Array Value):=⟨#[.agg a1,.bool a2]⟩
instance {a1 a2}:CoeDep Q (.Q0 a1 a2) (List Value):=⟨[.agg a1,.bool a2]⟩
instance {a1 a2}:CoeDep Q (.Q4 a1 a2) (Array Value):=⟨#[.int .i64 a1,.int .i64 a2]⟩
instance {a1 a2}:CoeDep Q (.Q4 a1 a2) (List Value):=⟨[.int .i64 a1,.int .i64 a2]⟩
instance {a1 a2}:CoeDep Q (.Q5 a1 a2) (Array Value):=⟨#[.int .i64 a1,.string a2]⟩
instance {a1 a2}:CoeDep Q (.Q5 a1 a2) (List Value):=⟨[.int .i64 a1,.string a2]⟩
instance {a1 a2 a3}:CoeDep Q (.Q6 a1 a2 a3) (Array Value):=⟨#[.int .i64 a1,.int .i64 a2,.bool a3]⟩
instance {a1 a2 a3}:CoeDep Q (.Q6 a1 a2 a3) (List Value):=⟨[.int .i64 a1,.int .i64 a2,.bool a3]⟩
instance {a1 a2 a3 a4 a5 a6 a7 a8}:CoeDep Q (.Q7 a1 a2 a3 a4 a5 a6 a7 a8) (Array Value):=⟨#[.pointer a1,.int .i64 a2,.int .i64 a3,.int .i64 a4,.int .i64 a5,a6,a7,a8]⟩
instance {a1 a2 a3 a4 a5 a6 a7 a8}:CoeDep Q (.Q7 a1 a2 a3 a4 a5 a6 a7 a8) (List Value):=⟨[.pointer a1,.int .i64 a2,.int .i64 a3,.int .i64 a4,.int .i64 a5,a6,a7,a8]⟩
instance {a1 a2 a3 a4 a5 a6}:CoeDep Q (.Q8 a1 a2 a3 a4 a5 a6) (Array Value):=⟨#[.int .i64 a1,.int .u16 a2,.int .u32 a3,.int .u32 a4,.int .u16 a5,.bool a6]⟩
instance {a1 a2 a3 a4 a5 a6}:CoeDep Q (.Q8 a1 a2 a3 a4 a5 a6) (List Value):=⟨[.int .i64 a1,.int .u16 a2,.int .u32 a3,.int .u32 a4,.int .u16 a5,.bool a6]⟩
instance {a1 a2 a3 a4}:CoeDep Q (.Q9 a1 a2 a3 a4) (Array Value):=⟨#[.slice a1 a2 a3,.int .i64 a4]⟩
instance {a1 a2 a3 a4}:CoeDep Q (.Q9 a1 a2 a3 a4) (List Value):=⟨[.slice a1 a2 a3,.int .i64 a4]⟩
instance {a1 a2 a3}:CoeDep Q (.Ja a1 a2 a3) (Array Value):=⟨#[.int .i64 a1,.int .i64 a2,a3]⟩
instance {a1 a2 a3}:CoeDep Q (.Ja a1 a2 a3) (List Value):=⟨[.int .i64 a1,.int .i64 a2,a3]⟩
instance {a1 a2}:CoeDep Q (.Jb a1 a2) (Array Value):=⟨#[.int .i64 a1,.bool a2]⟩
instance {a1 a2}:CoeDep Q (.Jb a1 a2) (List Value):=⟨[.int .i64 a1,.bool a2]⟩
instance {a1 a2 a3}:CoeDep Q (.Jc a1 a2 a3) (Array Value):=⟨#[.pointer a1,.int .i64 a2,.int .u32 a3]⟩
instance {a1 a2 a3}:CoeDep Q (.Jc a1 a2 a3) (List Value):=⟨[.pointer a1,.int .i64 a2,.int .u32 a3]⟩
instance {a1 a2 a3}:CoeDep Q (.Jd a1 a2 a3) (Array Value):=⟨#[.pointer a1,.agg a2,.agg a3]⟩
instance {a1 a2 a3}:CoeDep Q (.Jd a1 a2 a3) (List Value):=⟨[.pointer a1,.agg a2,.agg a3]⟩
instance {a1 a2 a3 a4 a5 a6 a7 a8 a9 VP VQ a12 U3 U4}:CoeDep Q (.Je a1 a2 a3 a4 a5 a6 a7 a8 a9 VP VQ a12 U3 U4) (Array Value):=⟨#[.int .i64 a1,.int .u32 a2,.int .u64 a3,.int .u32 a4,.int .u32 a5,.int .u32 a6,a7,.slice a8 a9 VP,.int .u32 VQ,.slice a12 U3 U4]⟩
instance {a1 a2 a3 a4 a5 a6 a7 a8 a9 VP VQ a12 U3 U4}:CoeDep Q (.Je a1 a2 a3 a4 a5 a6 a7 a8 a9 VP VQ a12 U3 U4) (List Value):=⟨[.int .i64 a1,.int .u32 a2,.int .u64 a3,.int .u32 a4,.int .u32 a5,.int .u32 a6,a7,.slice a8 a9 VP,.int .u32 VQ,.slice a12 U3 U4]⟩
instance {a1 a2 a3 a4 a5 a6}:CoeDep Q (.Jf a1 a2 a3 a4 a5 a6) (Array Value):=⟨#[.slice a1 a2 a3,a4,a5,a6]⟩
instance {a1 a2 a3 a4 a5 a6}:CoeDep Q (.Jf a1 a2 a3 a4 a5 a6) (List Value):=⟨[.slice a1 a2 a3,a4,a5,a6]⟩
instance {a1 a2 a3 a4 a5 a6 a7 a8 a9}:CoeDep Q (.Jg a1 a2 a3 a4 a5 a6 a7 a8 a9) (Array Value):=⟨#[.slice a1 a2 a3,.slice a4 a5 a6,.slice a7 a8 a9]⟩
instance {a1 a2 a3 a4 a5 a6 a7 a8 a9}:CoeDep Q (.Jg a1 a2 a3 a4 a5 a6 a7 a8 a9) (List Value):=⟨[.slice a1 a2 a3,.slice a4 a5 a6,.slice a7 a8 a9]⟩
instance {a1 a2 a3 a4 a5 a6 a7 a8 a9 VP VQ a12 U3 U4 Un T5 a17 Rh Mp a20 a21}:CoeDep Q (.Jh a1 a2 a3 a4 a5 a6 a7 a8 a9 VP VQ a12 U3 U4 Un T5 a17 Rh Mp a20 a21) (Array Value):=⟨#[.slice a1 a2 a3,.slice a4 a5 a6,.slice a7 a8 a9,.slice VP VQ a12,.int .i64 U3,.int .i64 U4,.int .i64 Un,.int .i64 T5,.int .i64 a17,.int .i64 Rh,.int .i64 Mp,.int .i64 a20,.pointer a21]⟩
instance {a1 a2 a3 a4 a5 a6 a7 a8 a9 VP VQ a12 U3 U4 Un T5 a17 Rh Mp a20 a21}:CoeDep Q (.Jh a1 a2 a3 a4 a5 a6 a7 a8 a9 VP VQ a12 U3 U4 Un T5 a17 Rh Mp a20 a21) (List Value):=⟨[.slice a1 a2 a3,.slice a4 a5 a6,.slice a7 a8 a9,.slice VP VQ a12,.int .i64 U3,.int .i64 U4,.int .i64 Un,.int .i64 T5,.int .i64 a17,.int .i64 Rh,.int .i64 Mp,.int .i64 a20,.pointer a21]⟩
instance {a1 a2 a3 a4 a5}:CoeDep Q (.Ji a1 a2 a3 a4 a5) (Array Value):=⟨#[.slice a1 a2 a3,.agg a4,.int .i64 a5]⟩
instance {a1 a2 a3 a4 a5}:CoeDep Q (.Ji a1 a2 a3 a4 a5) (List Value):=⟨[.slice a1 a2 a3,.agg a4,.int .i64 a5]⟩
instance {a1 a2}:CoeDep Q (.Jj a1 a2) (Array Value):=⟨#[.pointer a1,.int .u32 a2]⟩
instance {a1 a2}:CoeDep Q (.Jj a1 a2) (List Value):=⟨[.pointer a1,.int .u32 a2]⟩
instance {a1 a2 a3}:CoeDep Q (.Jk a1 a2 a3) (Array Value):=⟨#[.pointer a1,.int .i64 a2,.bool a3]⟩
instance {a1 a2 a3}:CoeDep Q (.Jk a1 a2 a3) (List Value):=⟨[.pointer a1,.int .i64 a2,.bool a3]⟩
instance {a1 a2 a3}:CoeDep Q (.Jl a1 a2 a3) (Array Value):=⟨#[.pointer a1,.int .i64 a2,.agg a3]⟩
instance {a1 a2 a3}:CoeDep Q (.Jl a1 a2 a3) (List Value):=⟨[.pointer a1,.int .i64 a2,.agg a3]⟩
instance {a1 a2 a3 a4 a5 a6 a7 a8 a9 VP VQ a12 U3 U4}:CoeDep Q (.Jm a1 a2 a3 a4 a5 a6 a7 a8 a9 VP VQ a12 U3 U4) (Array Value):=⟨#[.pointer a1,.int .i64 a2,.int .i64 a3,.int .i64 a4,.int .i64 a5,.slice a6 a7 a8,.slice a9 VP VQ,.slice a12 U3 U4]⟩
instance {a1 a2 a3 a4 a5 a6 a7 a8 a9 VP VQ a12 U3 U4}:CoeDep Q (.Jm a1 a2 a3 a4 a5 a6 a7 a8 a9 VP VQ a12 U3 U4) (List Value):=⟨[.pointer a1,.int .i64 a2,.int .i64 a3,.int .i64 a4,.int .i64 a5,.slice a6 a7 a8,.slice a9 VP VQ,.slice a12 U3 U4]⟩
instance {a1 a2}:CoeDep Q (.Jn a1 a2) (Array Value):=⟨#[.int .u64 a1,.bool a2]⟩
instance {a1 a2}:CoeDep Q (.Jn a1 a2) (List Value):=⟨[.int .u64 a1,.bool a2]⟩
instance {a1 a2 a3 a4 a5}:CoeDep Q (.Jo a1 a2 a3 a4 a5) (Array Value):=⟨#[.bool a1,.int .i64 a2,.int .i64 a3,a4,.bool a5]⟩
instance {a1 a2 a3 a4 a5}:CoeDep Q (.Jo a1 a2 a3 a4 a5) (List Value):=⟨[.bool a1,.int .i64 a2,.int .i64 a3,a4,.bool a5]⟩
instance {a1 a2 a3}:CoeDep Q (.Jp a1 a2 a3) (Array Value):=⟨#[.agg a1,.agg a2,.int .i64 a3]⟩
instance {a1 a2 a3}:CoeDep Q (.Jp a1 a2 a3) (List Value):=⟨[.agg a1,.agg a2,.int .i64 a3]⟩
instance:Coe World Nat:=⟨fun w=>w.heap.size⟩
theorem Zh{p:Prop}(h:p):RowKit.Hid p:=h
theorem Zk{p:Prop}(h:p:=by kernel_rfl):p:=h
theorem Zo{p:Prop}(h:p:=by omega):p:=h
theorem Zr{p:Prop}(h:p:=by rfl):p:=h
theorem Zn{p:Prop}(h:p:=by go_num):p:=h
theorem Zd{p:Prop}(h:p:=by decide):p:=h
theorem Zi{p:Prop}(h:p:=by simp):p:=h
theorem RowKit.Hid.o{p:Prop}(h:RowKit.Hid p):p:=h
theorem Tr{a b c:World}(h:RowKit.Hid (RowKit.Below a.heap.size a b))(g:RowKit.Below b.heap.size b c):RowKit.Below a.heap.size a c:=h.o.trans (g.mono h.o.size)
theorem Zc{w:World}{b:Nat}{cs:Array Value}{e:TypeId}{v:Value}(h:w.heap[b]? = some (.cells cs e))(j:Nat)(hv:cs[j]? = some v):w.cell? ⟨b, j, none⟩ = some v := by simp only[World.cell?, h]; exact hv
section
variable {P:Program} {ops:Array Oper} {rest:List Oper} {o:Oper} {a:Act} {w:World} {Q':Exit → Act → World → Prop}
theorem Zs{ty:TypeId}{x y:Operand}{g:Nat}{cells:Array Value}{t:TypeId}{old:Array Value}(hg:w.heap[g]? = some (.cells old t (0, 0)))(h:wpList P ops Q' rest a (w.setRow g cells))(LH:o.guard = none := by rfl)(ho:o.op = .store ty x y := by rfl)(hd:o.dst = none := by rfl)(hx:a.eval x = .pointer (some ⟨g, 0, none⟩) := by first|rfl|with_unfolding_all rfl)(hy:a.eval y = .agg cells := by first|rfl|with_unfolding_all rfl)(hi:(P.info? ty).map (·.size) = some cells.size := by kernel_rfl)(hold:old.size = cells.size := by kernel_rfl)(h1:cells.all (·.oneCell') = true := by kernel_rfl):wpList P ops Q' (o :: rest) a w := wpList_store_row LH ty x y ho g cells hx hy t old hg hi hold h1 (by rw[hd]; exact h)
theorem Zl{ty:TypeId}{x:Operand}{g:Nat}{t:TypeId}{cs:Array Value}{fr:Nat×Nat}{d:TypeDesc}(hg:w.heap[g]? = some (.cells cs t fr))(hu:P.underlying ty = some d)(h:wpList P ops Q' rest (a.put o.dst (.agg cs)) w)(LH:o.guard = none := by rfl)(ho:o.op = .load ty x := by rfl)(hx:a.eval x = .pointer (some ⟨g, 0, none⟩) := by first|rfl|with_unfolding_all rfl)(hd:(match d with | .struct _ | .array _ _ => true | _ => false) = true := by rfl)(hi:(P.info? ty).map (·.size) = some cs.size := by kernel_rfl):wpList P ops Q' (o :: rest) a w := wpList_load_row LH ty x ho g hx t cs fr d hg hu hd hi h
theorem Zm{ty:TypeId}{x:Operand}{b i:Nat}{cs:List Value}{d:TypeDesc}(hc:w.rangeAt b i cs)(hu:P.underlying ty = some d)(h:wpList P ops Q' rest (a.put o.dst (.agg cs.toArray)) w)(LH:o.guard = none := by rfl)(ho:o.op = .load ty x := by rfl)(hx:a.eval x = .pointer (some ⟨b, i, none⟩) := by first|rfl|with_unfolding_all rfl)(hd:d.isRow = true := by rfl)(hi:(P.info? ty).map (·.size) = some cs.length := by kernel_rfl):wpList P ops Q' (o :: rest) a w := wpList_load_mid LH ty x ho b i hx cs d hc hu hd hi h
end
abbrev Zw:=@Nat.le_refl
abbrev Z3:=@if_neg
abbrev WM:=@beq_eq_false_iff_ne
abbrev ZU:=@if_pos
abbrev Ve:=@List.getElem?_eq_getElem
abbrev YI:=@Below.refl
abbrev Wl:=@Int.toNat_natCast
abbrev Wz:=@decide_eq_false
abbrev Ww:=@decide_eq_true
abbrev UG:=@List.length_append
abbrev Q_:=@List.getD_eq_getElem?_getD
abbrev Sy:=@List.getElem?_cons_zero
abbrev R4:=@List.getElem?_cons_succ
abbrev UW:=@Bool.and_eq_true
abbrev SN:=@List.getElem?_toArray
abbrev Rw:=@Int.eq_ofNat_of_zero_le
abbrev TV:=@World.ownsRow_nil
abbrev VD:=@bodyPost_ret
abbrev Sz:=@decide_eq_true_eq
abbrev Tx:=@List.length_map
abbrev SY:=@List.length_take
abbrev R5:=@wp_region_noPanic
abbrev Mg:=@RowKit.Below.heap_setCell
abbrev Te:=@IntWalk.i64_in
abbrev OD:=@List.flatMap_append
abbrev Ra:=@List.length_drop
abbrev OB:=@Nat.lt_of_lt_of_le
abbrev QZ:=@NoPanic.normal
abbrev OC:=@List.getElem_mem
abbrev TH:=@Nat.zero_le
abbrev D_:=@Array.getElem?_eq_none
abbrev AH:=@List.eq_nil_of_length_eq_zero
abbrev Ou:=@Array.size_push
abbrev Np:=@IntKind.wrap_u32
abbrev Nv:=@List.map_append
abbrev PW:=@Nat.zero_add
abbrev J7:=@List.mem_singleton
abbrev EM:=@List.take_of_length_le
abbrev P6:=@Int.ofNat_lt
abbrev PX:=@Nat.le_trans
abbrev J8:=@Bool.eq_false_iff
abbrev WO:=@Or.inl
abbrev WB:=@Or.inr
abbrev RH:=@bne_iff_ne
abbrev Hz:=@List.nil_append
abbrev J9:=@List.mem_cons
abbrev EN:=@List.mem_append
abbrev nZ:=@World.cell?_setCell_same
abbrev J_:=@Nat.le_succ
abbrev n7:=@Int.natCast_nonneg
abbrev rW:=@List.append_nil
abbrev n9:=@List.take_length
abbrev wI:=@List.mem_map
abbrev n_:=@List.range_succ
abbrev cL:=@List.append_assoc
abbrev Z1d:=@List.getElem?_append_right
abbrev iO:=@Nat.le_of_lt
abbrev Z1f:=@List.mem_filter
abbrev Z1g:=@Nat.add_zero
end Go
