/- Short rules and names for the texts that follow: rows of cells by their letters, struct loads and stores. -/
import Derived.Below
import Derived.BigQuiet
import Derived.Carry
import Derived.ChangeArms
import Derived.ChangeSame
import Derived.ChangeSlices
import Derived.Deep.CutBlock
import Derived.Deep.DeepCutAuto
import Derived.Deep.MidRow
import Derived.Deep.QuietTactic
import Derived.Deep.RegionHeld3
import Derived.Deep.RegionLaw
import Derived.Deep.RegionLawGrows
import Derived.Deep.Slices
import Derived.Great.BuildSlice
import Derived.IntWalk
import Derived.Laws.AppendOwn
import Derived.Laws.AppendOwnNone
import Derived.Laws.BitsAllLaws
import Derived.Laws.BytesString
import Derived.Laws.Cells
import Derived.Laws.IdiomStrings
import Derived.Laws.OwnMore
import Derived.Laws.RangeAny
import Derived.Laws.ResultCell
import Derived.Laws.Rows
import Derived.Laws.Slices
import Derived.Laws.StructEq
import Derived.Laws.Tables
import Derived.Lib.ConvBytes
import Derived.Lib.Hide
import Derived.Lib.IndexBytes
import Derived.Lib.MapLaws
import Derived.Lib.RuneCount
import Derived.Lib.ValidLaws
import Derived.Lib.Walk
import Derived.LoopTactic
import Derived.Maps.OwnSet
import Derived.OpenShut
import Derived.OwnWalk
import Derived.ProofKit
import Derived.Shelf.GgClosure.Gives
import Derived.SizedLaws
import Derived.StillTailTactics
import Derived.WalkKit
import Derived.WalkSpells
import Derived.WideKeyArgs
import Derived.WideKeyPair
import GoSem.Core.Value
set_option linter.unusedVariables false
namespace Go
open RowKit
/-- A row of cells by its letters. -/
inductive Q
 | Qa (a1 a2 a3 a4:Int) (a5:ByteArray) (a6:Option Addr) (a7 a8:Nat) (a9:Option Addr) (VL VM:Nat)
 | Qb (a1:Bool) (a2 a3 a4 a5:Int) (a6:Option Addr) (a7 a8:Nat) (a9:Bool) (VL:Int) (VM:Option Addr) (a12 U1:Nat) (U2:Option Addr) (Un T5:Nat) (a17:Int)
 | Qc (a1 a2 a3 a4:Int)
 | Qd (a1:Int) (a2 a3:Bool) (a4:Int)
 | Qe (a1 a2 a3 a4 a5 a6:Int) (a7:Option Addr) (a8 a9:Nat) (VL:Option Addr) (VM a12:Nat) (U1:Int) (U2:Option Addr) (Un T5:Nat)
 | Qf (a1 a2:Int) (a3 a4:Bool)
 | Qg (a1:Bool) (a2 a3 a4 a5:Int) (a6:Option Addr) (a7 a8:Nat) (a9:Bool) (VL:Int) (VM:Option Addr) (a12 U1:Nat) (U2:Option Addr) (Un T5:Nat) (a17 Rp:Int) (MP a20:Bool) (a21:Int)
 | Qh (a1 a2 a3 a4 a5:Int)
 | Qi (a1:Option Addr) (a2:Array Value)
 | Qj (a1:Int) (a2:Bool) (a3 a4 a5 a6:Int) (a7:Option Addr) (a8 a9:Nat) (VL:Bool) (VM:Int) (a12:Option Addr) (U1 U2:Nat) (Un:Option Addr) (T5 a17:Nat) (Rp MP:Int) (a20 a21:Bool) (a22:Int) (a23:Option Addr) (a24 a25:Nat)
 | Qk (a1:Option Addr) (a2:Int)
 | Ql (a1 a2 a3:Int) (a4:Bool)
 | Qm (a1 a2 a3 a4:Int) (a5:Bool) (a6 a7 a8 a9:Int) (VL:Option Addr) (VM a12:Nat) (U1:Bool) (U2:Int) (Un:Option Addr) (T5 a17:Nat) (Rp:Option Addr) (MP a20:Nat) (a21 a22:Int) (a23 a24:Bool) (a25:Int) (a26:Option Addr) (a27 a28:Nat) (a29:Option Addr) (a30 a31:Nat) (a32:Int)
 | Qn (a1 a2 a3:Int)
 | Qo (a1:Array Value) (a2:Int)
 | Qp (a1 a2 a3 a4 a5:Int) (a6:Bool)
 | Qq (a1 a2:Int) (a3:Option Addr) (a4 a5:Nat) (a6:Bool)
 | Qs (a1:Array Value) (a2 a3:Int)
 | Qt (a1 a2 a3 a4 a5 a6 a7:Int)
 | Qu (a1:Option Addr) (a2 a3:Int)
 | Qv (a1 a2:Int)
 | Qw (a1:Option Addr) (a2 a3:Nat) (a4 a5 a6:Int)
 | Qx (a1:Option Addr) (a2 a3:Nat) (a4 a5 a6:Value) (a7 a8 a9 VL VM a12 U1 U2:Int) (Un:Option Addr)
 | Qy (a1 a2:Int)
 | Qz (a1 a2:Int)
 | Q0 (a1:Array Value) (a2 a3 a4:Int)
 | Q1 (a1:Array Value) (a2:Bool)
 | Q3 (a1:Int) (a2:ByteArray)
 | Q4 (a1:Option Addr) (a2:Array Value) (a3:Int)
 | Q5 (a1 a2:Int) (a3:Bool)
 | Q6 (a1:Option Addr) (a2 a3 a4 a5:Int) (a6 a7 a8:Value)
 | Q7 (a1:Option Addr) (a2 a3:Nat) (a4:Int)
 | Q8 (a1 a2:Int) (a3:Value)
 | Q9 (a1:Int) (a2:Bool)
 | Ja (a1:Option Addr) (a2 a3:Int)
 | Jb (a1:Option Addr) (a2 a3:Array Value)
 | Jc (a1 a2 a3 a4 a5 a6:Int) (a7:Value) (a8:Option Addr) (a9 VL:Nat) (VM:Int) (a12:Option Addr) (U1 U2:Nat)
 | Jd (a1:Option Addr) (a2 a3:Nat) (a4 a5 a6:Value)
 | Je (a1:Option Addr) (a2 a3:Nat) (a4:Option Addr) (a5 a6:Nat) (a7:Option Addr) (a8 a9:Nat)
 | Jf (a1:Option Addr) (a2 a3:Nat) (a4:Option Addr) (a5 a6:Nat) (a7:Option Addr) (a8 a9:Nat) (VL:Option Addr) (VM a12:Nat) (U1 U2 Un T5 a17 Rp MP a20:Int) (a21:Option Addr)
 | Jg (a1:Option Addr) (a2:Int)
 | Jh (a1:Option Addr) (a2:Int) (a3:Bool)
 | Ji (a1:Option Addr) (a2:Int) (a3:Array Value)
 | Jj (a1:Option Addr) (a2 a3 a4 a5:Int) (a6:Option Addr) (a7 a8:Nat) (a9:Option Addr) (VL VM:Nat) (a12:Option Addr) (U1 U2:Nat)
 | Jk (a1:Int) (a2:Bool)
 | Jl (a1:Bool) (a2 a3:Int) (a4:Value) (a5:Bool)
 | Jm (a1 a2:Array Value) (a3:Int)
 | Jn (a1:Option Addr) (a2 a3:Nat) (a4:Array Value) (a5:Int)
instance {a1 a2 a3 a4 a5 a6 a7 a8 a9 VL VM}:CoeDep Q (.Qa a1 a2 a3 a4 a5 a6 a7 a8 a9 VL VM) (Array Value):=⟨#[.int .i64 a1,.int .i64 a2,.int .i64 a3,.int .i64 a4,.string a5,.slice a6 a7 a8,.slice a9 VL VM]⟩
instance {a1 a2 a3 a4 a5 a6 a7 a8 a9 VL VM}:CoeDep Q (.Qa a1 a2 a3 a4 a5 a6 a7 a8 a9 VL VM) (List Value):=⟨[.int .i64 a1,.int .i64 a2,.int .i64 a3,.int .i64 a4,.string a5,.slice a6 a7 a8,.slice a9 VL VM]⟩
instance {a1 a2 a3 a4 a5 a6 a7 a8 a9 VL VM a12 U1 U2 Un T5 a17}:CoeDep Q (.Qb a1 a2 a3 a4 a5 a6 a7 a8 a9 VL VM a12 U1 U2 Un T5 a17) (Array Value):=⟨#[.bool a1,.int .i64 a2,.int .u16 a3,.int .u32 a4,.int .u32 a5,.slice a6 a7 a8,.bool a9,.int .u16 VL,.slice VM a12 U1,.slice U2 Un T5,.int .i64 a17]⟩
instance {a1 a2 a3 a4 a5 a6 a7 a8 a9 VL VM a12 U1 U2 Un T5 a17}:CoeDep Q (.Qb a1 a2 a3 a4 a5 a6 a7 a8 a9 VL VM a12 U1 U2 Un T5 a17) (List Value):=⟨[.bool a1,.int .i64 a2,.int .u16 a3,.int .u32 a4,.int .u32 a5,.slice a6 a7 a8,.bool a9,.int .u16 VL,.slice VM a12 U1,.slice U2 Un T5,.int .i64 a17]⟩
instance {a1 a2 a3 a4}:CoeDep Q (.Qc a1 a2 a3 a4) (Array Value):=⟨#[.int .i64 a1,.int .i64 a2,.int .i64 a3,.int .i64 a4]⟩
instance {a1 a2 a3 a4}:CoeDep Q (.Qc a1 a2 a3 a4) (List Value):=⟨[.int .i64 a1,.int .i64 a2,.int .i64 a3,.int .i64 a4]⟩
instance {a1 a2 a3 a4}:CoeDep Q (.Qd a1 a2 a3 a4) (Array Value):=⟨#[.int .i64 a1,.bool a2,.bool a3,.int .u16 a4]⟩
instance {a1 a2 a3 a4}:CoeDep Q (.Qd a1 a2 a3 a4) (List Value):=⟨[.int .i64 a1,.bool a2,.bool a3,.int .u16 a4]⟩
instance {a1 a2 a3 a4 a5 a6 a7 a8 a9 VL VM a12 U1 U2 Un T5}:CoeDep Q (.Qe a1 a2 a3 a4 a5 a6 a7 a8 a9 VL VM a12 U1 U2 Un T5) (Array Value):=⟨#[.int .i64 a1,.int .u32 a2,.int .u64 a3,.int .u32 a4,.int .u32 a5,.int .u32 a6,.slice a7 a8 a9,.slice VL VM a12,.int .u32 U1,.slice U2 Un T5]⟩
instance {a1 a2 a3 a4 a5 a6 a7 a8 a9 VL VM a12 U1 U2 Un T5}:CoeDep Q (.Qe a1 a2 a3 a4 a5 a6 a7 a8 a9 VL VM a12 U1 U2 Un T5) (List Value):=⟨[.int .i64 a1,.int .u32 a2,.int .u64 a3,.int .u32 a4,.int .u32 a5,.int .u32 a6,.slice a7 a8 a9,.slice VL VM a12,.int .u32 U1,.slice U2 Un T5]⟩
instance {a1 a2 a3 a4}:CoeDep Q (.Qf a1 a2 a3 a4) (Array Value):=⟨#[.int .i64 a1,.int .i64 a2,.bool a3,.bool a4]⟩
instance {a1 a2 a3 a4}:CoeDep Q (.Qf a1 a2 a3 a4) (List Value):=⟨[.int .i64 a1,.int .i64 a2,.bool a3,.bool a4]⟩
instance {a1 a2 a3 a4 a5 a6 a7 a8 a9 VL VM a12 U1 U2 Un T5 a17 Rp MP a20 a21}:CoeDep Q (.Qg a1 a2 a3 a4 a5 a6 a7 a8 a9 VL VM a12 U1 U2 Un T5 a17 Rp MP a20 a21) (Array Value):=⟨#[.bool a1,.int .i64 a2,.int .u16 a3,.int .u32 a4,.int .u32 a5,.slice a6 a7 a8,.bool a9,.int .u16 VL,.slice VM a12 U1,.slice U2 Un T5,.int .i64 a17,.int .i64 Rp,.bool MP,.bool a20,.int .u16 a21]⟩
instance {a1 a2 a3 a4 a5 a6 a7 a8 a9 VL VM a12 U1 U2 Un T5 a17 Rp MP a20 a21}:CoeDep Q (.Qg a1 a2 a3 a4 a5 a6 a7 a8 a9 VL VM a12 U1 U2 Un T5 a17 Rp MP a20 a21) (List Value):=⟨[.bool a1,.int .i64 a2,.int .u16 a3,.int .u32 a4,.int .u32 a5,.slice a6 a7 a8,.bool a9,.int .u16 VL,.slice VM a12 U1,.slice U2 Un T5,.int .i64 a17,.int .i64 Rp,.bool MP,.bool a20,.int .u16 a21]⟩
instance {a1 a2 a3 a4 a5}:CoeDep Q (.Qh a1 a2 a3 a4 a5) (Array Value):=⟨#[.int .i64 a1,.int .i64 a2,.int .i64 a3,.int .i64 a4,.int .u32 a5]⟩
instance {a1 a2 a3 a4 a5}:CoeDep Q (.Qh a1 a2 a3 a4 a5) (List Value):=⟨[.int .i64 a1,.int .i64 a2,.int .i64 a3,.int .i64 a4,.int .u32 a5]⟩
instance {a1 a2}:CoeDep Q (.Qi a1 a2) (Array Value):=⟨#[.pointer a1,.agg a2]⟩
instance {a1 a2}:CoeDep Q (.Qi a1 a2) (List Value):=⟨[.pointer a1,.agg a2]⟩
instance {a1 a2 a3 a4 a5 a6 a7 a8 a9 VL VM a12 U1 U2 Un T5 a17 Rp MP a20 a21 a22 a23 a24 a25}:CoeDep Q (.Qj a1 a2 a3 a4 a5 a6 a7 a8 a9 VL VM a12 U1 U2 Un T5 a17 Rp MP a20 a21 a22 a23 a24 a25) (Array Value):=⟨#[.int .i64 a1,.bool a2,.int .i64 a3,.int .u16 a4,.int .u32 a5,.int .u32 a6,.slice a7 a8 a9,.bool VL,.int .u16 VM,.slice a12 U1 U2,.slice Un T5 a17,.int .i64 Rp,.int .i64 MP,.bool a20,.bool a21,.int .u16 a22,.slice a23 a24 a25]⟩
instance {a1 a2 a3 a4 a5 a6 a7 a8 a9 VL VM a12 U1 U2 Un T5 a17 Rp MP a20 a21 a22 a23 a24 a25}:CoeDep Q (.Qj a1 a2 a3 a4 a5 a6 a7 a8 a9 VL VM a12 U1 U2 Un T5 a17 Rp MP a20 a21 a22 a23 a24 a25) (List Value):=⟨[.int .i64 a1,.bool a2,.int .i64 a3,.int .u16 a4,.int .u32 a5,.int .u32 a6,.slice a7 a8 a9,.bool VL,.int .u16 VM,.slice a12 U1 U2,.slice Un T5 a17,.int .i64 Rp,.int .i64 MP,.bool a20,.bool a21,.int .u16 a22,.slice a23 a24 a25]⟩
instance {a1 a2}:CoeDep Q (.Qk a1 a2) (Array Value):=⟨#[.pointer a1,.int .i64 a2]⟩
instance {a1 a2}:CoeDep Q (.Qk a1 a2) (List Value):=⟨[.pointer a1,.int .i64 a2]⟩
instance {a1 a2 a3 a4}:CoeDep Q (.Ql a1 a2 a3 a4) (Array Value):=⟨#[.int .i64 a1,.int .i64 a2,.int .i64 a3,.bool a4]⟩
instance {a1 a2 a3 a4}:CoeDep Q (.Ql a1 a2 a3 a4) (List Value):=⟨[.int .i64 a1,.int .i64 a2,.int .i64 a3,.bool a4]⟩
instance {a1 a2 a3 a4 a5 a6 a7 a8 a9 VL VM a12 U1 U2 Un T5 a17 Rp MP a20 a21 a22 a23 a24 a25 a26 a27 a28 a29 a30 a31 a32}:CoeDep Q (.Qm a1 a2 a3 a4 a5 a6 a7 a8 a9 VL VM a12 U1 U2 Un T5 a17 Rp MP a20 a21 a22 a23 a24 a25 a26 a27 a28 a29 a30 a31 a32) (Array Value):=⟨#[.int .i64 a1,.int .i64 a2,.int .i64 a3,.int .i64 a4,.bool a5,.int .i64 a6,.int .u16 a7,.int .u32 a8,.int .u32 a9,.slice VL VM a12,.bool U1,.int .u16 U2,.slice Un T5 a17,.slice Rp MP a20,.int .i64 a21,.int .i64 a22,.bool a23,.bool a24,.int .u16 a25,.slice a26 a27 a28,.slice a29 a30 a31,.int .i64 a32]⟩
instance {a1 a2 a3 a4 a5 a6 a7 a8 a9 VL VM a12 U1 U2 Un T5 a17 Rp MP a20 a21 a22 a23 a24 a25 a26 a27 a28 a29 a30 a31 a32}:CoeDep Q (.Qm a1 a2 a3 a4 a5 a6 a7 a8 a9 VL VM a12 U1 U2 Un T5 a17 Rp MP a20 a21 a22 a23 a24 a25 a26 a27 a28 a29 a30 a31 a32) (List Value):=⟨[.int .i64 a1,.int .i64 a2,.int .i64 a3,.int .i64 a4,.bool a5,.int .i64 a6,.int .u16 a7,.int .u32 a8,.int .u32 a9,.slice VL VM a12,.bool U1,.int .u16 U2,.slice Un T5 a17,.slice Rp MP a20,.int .i64 a21,.int .i64 a22,.bool a23,.bool a24,.int .u16 a25,.slice a26 a27 a28,.slice a29 a30 a31,.int .i64 a32]⟩
instance {a1 a2 a3}:CoeDep Q (.Qn a1 a2 a3) (Array Value):=⟨#[.int .i64 a1,.int .i64 a2,.int .i64 a3]⟩
instance {a1 a2 a3}:CoeDep Q (.Qn a1 a2 a3) (List Value):=⟨[.int .i64 a1,.int .i64 a2,.int .i64 a3]⟩
instance {a1 a2}:CoeDep Q (.Qo a1 a2) (Array Value):=⟨#[.agg a1,.int .i64 a2]⟩
instance {a1 a2}:CoeDep Q (.Qo a1 a2) (List Value):=⟨[.agg a1,.int .i64 a2]⟩
instance {a1 a2 a3 a4 a5 a6}:CoeDep Q (.Qp a1 a2 a3 a4 a5 a6) (Array Value):=⟨#[.int .i64 a1,.int .u16 a2,.int .u32 a3,.int .u32 a4,.int .u16 a5,.bool a6]⟩
instance {a1 a2 a3 a4 a5 a6}:CoeDep Q (.Qp a1 a2 a3 a4 a5 a6) (List Value):=⟨[.int .i64 a1,.int .u16 a2,.int .u32 a3,.int .u32 a4,.int .u16 a5,.bool a6]⟩
instance {a1 a2 a3 a4 a5 a6}:CoeDep Q (.Qq a1 a2 a3 a4 a5 a6) (Array Value):=⟨#[.int .i64 a1,.int .i64 a2,.slice a3 a4 a5,.bool a6]⟩
instance {a1 a2 a3 a4 a5 a6}:CoeDep Q (.Qq a1 a2 a3 a4 a5 a6) (List Value):=⟨[.int .i64 a1,.int .i64 a2,.slice a3 a4 a5,.bool a6]⟩
instance {a1 a2 a3}:CoeDep Q (.Qs a1 a2 a3) (Array Value):=⟨#[.agg a1,.int .i64 a2,.int .i64 a3]⟩
instance {a1 a2 a3}:CoeDep Q (.Qs a1 a2 a3) (List Value):=⟨[.agg a1,.int .i64 a2,.int .i64 a3]⟩
instance {a1 a2 a3 a4 a5 a6 a7}:CoeDep Q (.Qt a1 a2 a3 a4 a5 a6 a7) (Array Value):=⟨#[.int .u32 a1,.int .u8 a2,.int .u32 a3,.int .u32 a4,.int .u32 a5,.int .u32 a6,.int .u32 a7]⟩
instance {a1 a2 a3 a4 a5 a6 a7}:CoeDep Q (.Qt a1 a2 a3 a4 a5 a6 a7) (List Value):=⟨[.int .u32 a1,.int .u8 a2,.int .u32 a3,.int .u32 a4,.int .u32 a5,.int .u32 a6,.int .u32 a7]⟩
instance {a1 a2 a3}:CoeDep Q (.Qu a1 a2 a3) (Array Value):=⟨#[.pointer a1,.int .i64 a2,.int .i64 a3]⟩
instance {a1 a2 a3}:CoeDep Q (.Qu a1 a2 a3) (List Value):=⟨[.pointer a1,.int .i64 a2,.int .i64 a3]⟩
instance {a1 a2}:CoeDep Q (.Qv a1 a2) (Array Value):=⟨#[.int .u8 a1,.int .u8 a2]⟩
instance {a1 a2}:CoeDep Q (.Qv a1 a2) (List Value):=⟨[.int .u8 a1,.int .u8 a2]⟩
instance {a1 a2 a3 a4 a5 a6}:CoeDep Q (.Qw a1 a2 a3 a4 a5 a6) (Array Value):=⟨#[.slice a1 a2 a3,.int .i64 a4,.int .u32 a5,.int .u16 a6]⟩
instance {a1 a2 a3 a4 a5 a6}:CoeDep Q (.Qw a1 a2 a3 a4 a5 a6) (List Value):=⟨[.slice a1 a2 a3,.int .i64 a4,.int .u32 a5,.int .u16 a6]⟩
instance {a1 a2 a3 a4 a5 a6 a7 a8 a9 VL VM a12 U1 U2 Un}:CoeDep Q (.Qx a1 a2 a3 a4 a5 a6 a7 a8 a9 VL VM a12 U1 U2 Un) (Array Value):=⟨#[.slice a1 a2 a3,a4,a5,a6,.int .i64 a7,.int .i64 a8,.int .i64 a9,.int .i64 VL,.int .i64 VM,.int .i64 a12,.int .i64 U1,.int .i64 U2,.pointer Un]⟩
instance {a1 a2 a3 a4 a5 a6 a7 a8 a9 VL VM a12 U1 U2 Un}:CoeDep Q (.Qx a1 a2 a3 a4 a5 a6 a7 a8 a9 VL VM a12 U1 U2 Un) (List Value):=⟨[.slice a1 a2 a3,a4,a5,a6,.int .i64 a7,.int .i64 a8,.int .i64 a9,.int .i64 VL,.int .i64 VM,.int .i64 a12,.int .i64 U1,.int .i64 U2,.pointer Un]⟩
instance {a1 a2}:CoeDep Q (.Qy a1 a2) (Array Value):=⟨#[.int .u16 a1,.int .u16 a2]⟩
instance {a1 a2}:CoeDep Q (.Qy a1 a2) (List Value):=⟨[.int .u16 a1,.int .u16 a2]⟩
instance {a1 a2}:CoeDep Q (.Qz a1 a2) (Array Value):=⟨#[.int .i64 a1,.int .i64 a2]⟩
instance {a1 a2}:CoeDep Q (.Qz a1 a2) (List Value):=⟨[.int .i64 a1,.int .i64 a2]⟩
instance {a1 a2 a3 a4}:CoeDep Q (.Q0 a1 a2 a3 a4) (Array Value):=⟨#[.agg a1,.int .i64 a2,.int .i64 a3,.int .i64 a4]⟩
instance {a1 a2 a3 a4}:CoeDep Q (.Q0 a1 a2 a3 a4) (List Value):=⟨[.agg a1,.int .i64 a2,.int .i64 a3,.int .i64 a4]⟩
instance {a1 a2}:CoeDep Q (.Q1 a1 a2) (Array Value):=⟨#[.agg a1,.bool a2]⟩
instance {a1 a2}:CoeDep Q (.Q1 a1 a2) (List Value):=⟨[.agg a1,.bool a2]⟩
instance {a1 a2}:CoeDep Q (.Q3 a1 a2) (Array Value):=⟨#[.int .i64 a1,.string a2]⟩
instance {a1 a2}:CoeDep Q (.Q3 a1 a2) (List Value):=⟨[.int .i64 a1,.string a2]⟩
instance {a1 a2 a3}:CoeDep Q (.Q4 a1 a2 a3) (Array Value):=⟨#[.pointer a1,.agg a2,.int .i64 a3]⟩
instance {a1 a2 a3}:CoeDep Q (.Q4 a1 a2 a3) (List Value):=⟨[.pointer a1,.agg a2,.int .i64 a3]⟩
instance {a1 a2 a3}:CoeDep Q (.Q5 a1 a2 a3) (Array Value):=⟨#[.int .i64 a1,.int .i64 a2,.bool a3]⟩
instance {a1 a2 a3}:CoeDep Q (.Q5 a1 a2 a3) (List Value):=⟨[.int .i64 a1,.int .i64 a2,.bool a3]⟩
instance {a1 a2 a3 a4 a5 a6 a7 a8}:CoeDep Q (.Q6 a1 a2 a3 a4 a5 a6 a7 a8) (Array Value):=⟨#[.pointer a1,.int .i64 a2,.int .i64 a3,.int .i64 a4,.int .i64 a5,a6,a7,a8]⟩
instance {a1 a2 a3 a4 a5 a6 a7 a8}:CoeDep Q (.Q6 a1 a2 a3 a4 a5 a6 a7 a8) (List Value):=⟨[.pointer a1,.int .i64 a2,.int .i64 a3,.int .i64 a4,.int .i64 a5,a6,a7,a8]⟩
instance {a1 a2 a3 a4}:CoeDep Q (.Q7 a1 a2 a3 a4) (Array Value):=⟨#[.slice a1 a2 a3,.int .i64 a4]⟩
instance {a1 a2 a3 a4}:CoeDep Q (.Q7 a1 a2 a3 a4) (List Value):=⟨[.slice a1 a2 a3,.int .i64 a4]⟩
instance {a1 a2 a3}:CoeDep Q (.Q8 a1 a2 a3) (Array Value):=⟨#[.int .i64 a1,.int .i64 a2,a3]⟩
instance {a1 a2 a3}:CoeDep Q (.Q8 a1 a2 a3) (List Value):=⟨[.int .i64 a1,.int .i64 a2,a3]⟩
instance {a1 a2}:CoeDep Q (.Q9 a1 a2) (Array Value):=⟨#[.int .i64 a1,.bool a2]⟩
instance {a1 a2}:CoeDep Q (.Q9 a1 a2) (List Value):=⟨[.int .i64 a1,.bool a2]⟩
instance {a1 a2 a3}:CoeDep Q (.Ja a1 a2 a3) (Array Value):=⟨#[.pointer a1,.int .i64 a2,.int .u32 a3]⟩
instance {a1 a2 a3}:CoeDep Q (.Ja a1 a2 a3) (List Value):=⟨[.pointer a1,.int .i64 a2,.int .u32 a3]⟩
instance {a1 a2 a3}:CoeDep Q (.Jb a1 a2 a3) (Array Value):=⟨#[.pointer a1,.agg a2,.agg a3]⟩
instance {a1 a2 a3}:CoeDep Q (.Jb a1 a2 a3) (List Value):=⟨[.pointer a1,.agg a2,.agg a3]⟩
instance {a1 a2 a3 a4 a5 a6 a7 a8 a9 VL VM a12 U1 U2}:CoeDep Q (.Jc a1 a2 a3 a4 a5 a6 a7 a8 a9 VL VM a12 U1 U2) (Array Value):=⟨#[.int .i64 a1,.int .u32 a2,.int .u64 a3,.int .u32 a4,.int .u32 a5,.int .u32 a6,a7,.slice a8 a9 VL,.int .u32 VM,.slice a12 U1 U2]⟩
instance {a1 a2 a3 a4 a5 a6 a7 a8 a9 VL VM a12 U1 U2}:CoeDep Q (.Jc a1 a2 a3 a4 a5 a6 a7 a8 a9 VL VM a12 U1 U2) (List Value):=⟨[.int .i64 a1,.int .u32 a2,.int .u64 a3,.int .u32 a4,.int .u32 a5,.int .u32 a6,a7,.slice a8 a9 VL,.int .u32 VM,.slice a12 U1 U2]⟩
instance {a1 a2 a3 a4 a5 a6}:CoeDep Q (.Jd a1 a2 a3 a4 a5 a6) (Array Value):=⟨#[.slice a1 a2 a3,a4,a5,a6]⟩
instance {a1 a2 a3 a4 a5 a6}:CoeDep Q (.Jd a1 a2 a3 a4 a5 a6) (List Value):=⟨[.slice a1 a2 a3,a4,a5,a6]⟩
instance {a1 a2 a3 a4 a5 a6 a7 a8 a9}:CoeDep Q (.Je a1 a2 a3 a4 a5 a6 a7 a8 a9) (Array Value):=⟨#[.slice a1 a2 a3,.slice a4 a5 a6,.slice a7 a8 a9]⟩
instance {a1 a2 a3 a4 a5 a6 a7 a8 a9}:CoeDep Q (.Je a1 a2 a3 a4 a5 a6 a7 a8 a9) (List Value):=⟨[.slice a1 a2 a3,.slice a4 a5 a6,.slice a7 a8 a9]⟩
instance {a1 a2 a3 a4 a5 a6 a7 a8 a9 VL VM a12 U1 U2 Un T5 a17 Rp MP a20 a21}:CoeDep Q (.Jf a1 a2 a3 a4 a5 a6 a7 a8 a9 VL VM a12 U1 U2 Un T5 a17 Rp MP a20 a21) (Array Value):=⟨#[.slice a1 a2 a3,.slice a4 a5 a6,.slice a7 a8 a9,.slice VL VM a12,.int .i64 U1,.int .i64 U2,.int .i64 Un,.int .i64 T5,.int .i64 a17,.int .i64 Rp,.int .i64 MP,.int .i64 a20,.pointer a21]⟩
instance {a1 a2 a3 a4 a5 a6 a7 a8 a9 VL VM a12 U1 U2 Un T5 a17 Rp MP a20 a21}:CoeDep Q (.Jf a1 a2 a3 a4 a5 a6 a7 a8 a9 VL VM a12 U1 U2 Un T5 a17 Rp MP a20 a21) (List Value):=⟨[.slice a1 a2 a3,.slice a4 a5 a6,.slice a7 a8 a9,.slice VL VM a12,.int .i64 U1,.int .i64 U2,.int .i64 Un,.int .i64 T5,.int .i64 a17,.int .i64 Rp,.int .i64 MP,.int .i64 a20,.pointer a21]⟩
instance {a1 a2}:CoeDep Q (.Jg a1 a2) (Array Value):=⟨#[.pointer a1,.int .u32 a2]⟩
instance {a1 a2}:CoeDep Q (.Jg a1 a2) (List Value):=⟨[.pointer a1,.int .u32 a2]⟩
instance {a1 a2 a3}:CoeDep Q (.Jh a1 a2 a3) (Array Value):=⟨#[.pointer a1,.int .i64 a2,.bool a3]⟩
instance {a1 a2 a3}:CoeDep Q (.Jh a1 a2 a3) (List Value):=⟨[.pointer a1,.int .i64 a2,.bool a3]⟩
instance {a1 a2 a3}:CoeDep Q (.Ji a1 a2 a3) (Array Value):=⟨#[.pointer a1,.int .i64 a2,.agg a3]⟩
instance {a1 a2 a3}:CoeDep Q (.Ji a1 a2 a3) (List Value):=⟨[.pointer a1,.int .i64 a2,.agg a3]⟩
instance {a1 a2 a3 a4 a5 a6 a7 a8 a9 VL VM a12 U1 U2}:CoeDep Q (.Jj a1 a2 a3 a4 a5 a6 a7 a8 a9 VL VM a12 U1 U2) (Array Value):=⟨#[.pointer a1,.int .i64 a2,.int .i64 a3,.int .i64 a4,.int .i64 a5,.slice a6 a7 a8,.slice a9 VL VM,.slice a12 U1 U2]⟩
instance {a1 a2 a3 a4 a5 a6 a7 a8 a9 VL VM a12 U1 U2}:CoeDep Q (.Jj a1 a2 a3 a4 a5 a6 a7 a8 a9 VL VM a12 U1 U2) (List Value):=⟨[.pointer a1,.int .i64 a2,.int .i64 a3,.int .i64 a4,.int .i64 a5,.slice a6 a7 a8,.slice a9 VL VM,.slice a12 U1 U2]⟩
instance {a1 a2}:CoeDep Q (.Jk a1 a2) (Array Value):=⟨#[.int .u64 a1,.bool a2]⟩
instance {a1 a2}:CoeDep Q (.Jk a1 a2) (List Value):=⟨[.int .u64 a1,.bool a2]⟩
instance {a1 a2 a3 a4 a5}:CoeDep Q (.Jl a1 a2 a3 a4 a5) (Array Value):=⟨#[.bool a1,.int .i64 a2,.int .i64 a3,a4,.bool a5]⟩
instance {a1 a2 a3 a4 a5}:CoeDep Q (.Jl a1 a2 a3 a4 a5) (List Value):=⟨[.bool a1,.int .i64 a2,.int .i64 a3,a4,.bool a5]⟩
instance {a1 a2 a3}:CoeDep Q (.Jm a1 a2 a3) (Array Value):=⟨#[.agg a1,.agg a2,.int .i64 a3]⟩
instance {a1 a2 a3}:CoeDep Q (.Jm a1 a2 a3) (List Value):=⟨[.agg a1,.agg a2,.int .i64 a3]⟩
instance {a1 a2 a3 a4 a5}:CoeDep Q (.Jn a1 a2 a3 a4 a5) (Array Value):=⟨#[.slice a1 a2 a3,.agg a4,.int .i64 a5]⟩
instance {a1 a2 a3 a4 a5}:CoeDep Q (.Jn a1 a2 a3 a4 a5) (List Value):=⟨[.slice a1 a2 a3,.agg a4,.int .i64 a5]⟩
instance:Coe World Nat:=⟨fun w=>w.heap.size⟩
theorem Zh {p:Prop} (h:p):RowKit.Hid p:=h
theorem Zk {p:Prop} (h:p:=by kernel_rfl):p:=h
theorem Zo {p:Prop} (h:p:=by omega):p:=h
theorem Zr {p:Prop} (h:p:=by rfl):p:=h
theorem Zn {p:Prop} (h:p:=by go_num):p:=h
theorem Zd {p:Prop} (h:p:=by decide):p:=h
theorem Zi {p:Prop} (h:p:=by simp):p:=h
theorem RowKit.Hid.o {p:Prop} (h:RowKit.Hid p):p:=h
theorem Zc {w:World} {b:Nat} {cs:Array Value} {e:TypeId} {v:Value} (h:w.heap[b]? = some (.cells cs e)) (j:Nat) (hv:cs[j]? = some v):w.cell? ⟨b, j, none⟩ = some v := by simp only [World.cell?, h]; exact hv
section
variable {P:Program} {ops:Array Oper} {rest:List Oper} {o:Oper} {a:Act} {w:World} {Q':Exit → Act → World → Prop}
theorem Zs {ty:TypeId} {x y:Operand} {g:Nat} {cells:Array Value} {t:TypeId} {old:Array Value} (hg:w.heap[g]? = some (.cells old t (0, 0))) (h:wpList P ops Q' rest a (w.setRow g cells)) (Mb:o.guard = none := by rfl) (ho:o.op = .store ty x y := by rfl) (hd:o.dst = none := by rfl) (hx:a.eval x = .pointer (some ⟨g, 0, none⟩) := by first|rfl|with_unfolding_all rfl) (hy:a.eval y = .agg cells := by first|rfl|with_unfolding_all rfl) (hi:(P.info? ty).map (·.size) = some cells.size := by kernel_rfl) (hold:old.size = cells.size := by kernel_rfl) (h1:cells.all (·.oneCell') = true := by kernel_rfl):wpList P ops Q' (o :: rest) a w := wpList_store_row Mb ty x y ho g cells hx hy t old hg hi hold h1 (by rw [hd]; exact h)
theorem Zl {ty:TypeId} {x:Operand} {g:Nat} {t:TypeId} {cs:Array Value} {fr:Nat × Nat} {d:TypeDesc} (hg:w.heap[g]? = some (.cells cs t fr)) (hu:P.underlying ty = some d) (h:wpList P ops Q' rest (a.put o.dst (.agg cs)) w) (Mb:o.guard = none := by rfl) (ho:o.op = .load ty x := by rfl) (hx:a.eval x = .pointer (some ⟨g, 0, none⟩) := by first|rfl|with_unfolding_all rfl) (hd:(match d with | .struct _ | .array _ _ => true | _ => false) = true := by rfl) (hi:(P.info? ty).map (·.size) = some cs.size := by kernel_rfl):wpList P ops Q' (o :: rest) a w := wpList_load_row Mb ty x ho g hx t cs fr d hg hu hd hi h
theorem Zm {ty:TypeId} {x:Operand} {b i:Nat} {cs:List Value} {d:TypeDesc} (hc:w.rangeAt b i cs) (hu:P.underlying ty = some d) (h:wpList P ops Q' rest (a.put o.dst (.agg cs.toArray)) w) (Mb:o.guard = none := by rfl) (ho:o.op = .load ty x := by rfl) (hx:a.eval x = .pointer (some ⟨b, i, none⟩) := by first|rfl|with_unfolding_all rfl) (hd:d.isRow = true := by rfl) (hi:(P.info? ty).map (·.size) = some cs.length := by kernel_rfl):wpList P ops Q' (o :: rest) a w := wpList_load_mid Mb ty x ho b i hx cs d hc hu hd hi h
end
abbrev Zw:=@Nat.le_refl
abbrev Z4:=@if_neg
abbrev WR:=@beq_eq_false_iff_ne
abbrev YJ:=@Below.refl
abbrev Vb:=@List.getElem?_eq_getElem
abbrev ZR:=@if_pos
abbrev Wz:=@Int.toNat_natCast
abbrev WI:=@decide_eq_false
abbrev SC:=@List.getD_eq_getElem?_getD
abbrev Wi:=@decide_eq_true
abbrev UE:=@List.length_append
abbrev SD:=@List.getElem?_cons_zero
abbrev R8:=@List.getElem?_cons_succ
abbrev UR:=@Bool.and_eq_true
abbrev SE:=@List.getElem?_toArray
abbrev TY:=@World.ownsRow_nil
abbrev Rf:=@Int.eq_ofNat_of_zero_le
abbrev VD:=@bodyPost_ret
abbrev SX:=@wp_region_noPanic
abbrev TB:=@List.length_map
abbrev S4:=@List.length_take
abbrev MH:=@RowKit.Below.heap_setCell
abbrev Tm:=@IntWalk.i64_in
abbrev OQ:=@List.flatMap_append
abbrev Rg:=@List.length_drop
abbrev OS:=@Nat.lt_of_lt_of_le
abbrev Pz:=@decide_eq_true_eq
abbrev RA:=@NoPanic.normal
abbrev PA:=@List.getElem_mem
abbrev E7:=@Array.getElem?_eq_none
abbrev Tk:=@Nat.zero_le
abbrev BN:=@List.eq_nil_of_length_eq_zero
abbrev OI:=@Array.size_push
abbrev NI:=@IntKind.wrap_u32
abbrev NR:=@List.map_append
abbrev QD:=@Nat.zero_add
abbrev FL:=@List.take_of_length_le
abbrev KM:=@Bool.eq_false_iff
abbrev J1:=@List.mem_singleton
abbrev PO:=@Nat.le_trans
abbrev OP:=@Int.ofNat_lt
abbrev RQ:=@bne_iff_ne
abbrev J2:=@List.nil_append
abbrev Ws:=@Or.inl
abbrev Wh:=@Or.inr
abbrev KN:=@List.mem_cons
abbrev qC:=@World.cell?_setCell_same
abbrev DN:=@List.mem_append
abbrev Ix:=@Nat.le_succ
abbrev qD:=@Int.natCast_nonneg
abbrev um:=@List.append_nil
abbrev qE:=@List.range_succ
abbrev nv:=@List.take_length
abbrev vO:=@List.mem_map
abbrev Z1c:=@List.getElem?_append_right
abbrev gb:=@List.append_assoc
abbrev Z1e:=@List.getElem?_append_left
abbrev gf:=@Nat.le_of_lt
abbrev Z1g:=@List.mem_filter
end Go
