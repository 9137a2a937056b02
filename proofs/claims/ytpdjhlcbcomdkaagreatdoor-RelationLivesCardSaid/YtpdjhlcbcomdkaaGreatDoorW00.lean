/- Short rules and names for the texts that follow: rows of cells by their letters, struct loads and stores. -/
import Derived.Below
import Derived.BigQuiet
import Derived.Carry
import Derived.ChangeArms
import Derived.ChangeSame
import Derived.ChangeSlices
import Derived.Deep.CutBlock
import Derived.Deep.DeepCutAuto
import Derived.Deep.MidRow
import Derived.Deep.QuietTactic
import Derived.Deep.RegionHeld3
import Derived.Deep.RegionLaw
import Derived.Deep.RegionLawGrows
import Derived.Deep.Slices
import Derived.Great.BuildSlice
import Derived.IntWalk
import Derived.Laws.AppendOwn
import Derived.Laws.AppendOwnNone
import Derived.Laws.BitsAllLaws
import Derived.Laws.BytesString
import Derived.Laws.Cells
import Derived.Laws.IdiomStrings
import Derived.Laws.OwnMore
import Derived.Laws.RangeAny
import Derived.Laws.ResultCell
import Derived.Laws.Rows
import Derived.Laws.Slices
import Derived.Laws.StructEq
import Derived.Laws.Tables
import Derived.Lib.ConvBytes
import Derived.Lib.Hide
import Derived.Lib.IndexBytes
import Derived.Lib.MapLaws
import Derived.Lib.RuneCount
import Derived.Lib.ValidLaws
import Derived.Lib.Walk
import Derived.LoopTactic
import Derived.Maps.OwnSet
import Derived.OpenShut
import Derived.OwnWalk
import Derived.ProofKit
import Derived.Shelf.GgClosure.Gives
import Derived.SizedLaws
import Derived.StillTailTactics
import Derived.WalkKit
import Derived.WalkSpells
import Derived.WideKeyArgs
import Derived.WideKeyPair
import GoSem.Core.Value
set_option linter.unusedVariables false
namespace Go
open RowKit
/-- A row of cells by its letters. -/
inductive Q
 | Qa (a1 a2 a3 a4:Int) (a5:ByteArray) (a6:Option Addr) (a7 a8:Nat) (a9:Option Addr) (VU VV:Nat)
 | Qb (a1:Bool) (a2 a3 a4 a5:Int) (a6:Option Addr) (a7 a8:Nat) (a9:Bool) (VU:Int) (VV:Option Addr) (a12 U8:Nat) (U9:Option Addr) (Uw Ue:Nat) (a17:Int)
 | Qc (a1:Int) (a2 a3:Bool) (a4:Int)
 | Qd (a1 a2 a3 a4 a5 a6:Int) (a7:Option Addr) (a8 a9:Nat) (VU:Option Addr) (VV a12:Nat) (U8:Int) (U9:Option Addr) (Uw Ue:Nat)
 | Qe (a1 a2 a3 a4:Int)
 | Qf (a1 a2:Int) (a3 a4:Bool)
 | Qg (a1:Bool) (a2 a3 a4 a5:Int) (a6:Option Addr) (a7 a8:Nat) (a9:Bool) (VU:Int) (VV:Option Addr) (a12 U8:Nat) (U9:Option Addr) (Uw Ue:Nat) (a17 RH:Int) (M6 a20:Bool) (a21:Int)
 | Qh (a1 a2 a3 a4 a5:Int)
 | Qi (a1:Option Addr) (a2:Array Value)
 | Qj (a1:Option Addr) (a2:Int)
 | Qk (a1 a2 a3:Int) (a4:Bool)
 | Ql (a1:Int) (a2:Bool) (a3 a4 a5 a6:Int) (a7:Option Addr) (a8 a9:Nat) (VU:Bool) (VV:Int) (a12:Option Addr) (U8 U9:Nat) (Uw:Option Addr) (Ue a17:Nat) (RH M6:Int) (a20 a21:Bool) (a22:Int) (a23:Option Addr) (a24 a25:Nat)
 | Qm (a1 a2 a3 a4:Int) (a5:Bool) (a6 a7 a8 a9:Int) (VU:Option Addr) (VV a12:Nat) (U8:Bool) (U9:Int) (Uw:Option Addr) (Ue a17:Nat) (RH:Option Addr) (M6 a20:Nat) (a21 a22:Int) (a23 a24:Bool) (a25:Int) (a26:Option Addr) (aO a28:Nat) (aP:Option Addr) (aQ a31:Nat) (a32:Int)
 | Qn (a1 a2 a3:Int)
 | Qo (a1:Array Value) (a2:Int)
 | Qp (a1 a2:Int) (a3:Option Addr) (a4 a5:Nat) (a6:Bool)
 | Qq (a1:Array Value) (a2 a3:Int)
 | Qr (a1 a2 a3 a4 a5 a6 a7:Int)
 | Qs (a1:Option Addr) (a2 a3:Int)
 | Qt (a1 a2:Int)
 | Qu (a1:Option Addr) (a2 a3:Nat) (a4 a5 a6:Value) (a7 a8 a9 VU VV a12 U8 U9:Int) (Uw:Option Addr)
 | Qv (a1:Option Addr) (a2 a3:Nat) (a4 a5 a6:Int)
 | Qw (a1 a2:Int)
 | Qx (a1:Array Value) (a2 a3 a4:Int)
 | Qy (a1:Array Value) (a2:Bool)
 | Qz (a1 a2:Int)
 | Q0 (a1:Int) (a2:ByteArray)
 | Q1 (a1:Option Addr) (a2:Array Value) (a3:Int)
 | Q3 (a1 a2:Int) (a3:Bool)
 | Q4 (a1 a2 a3 a4 a5:Int) (a6:Bool)
 | Q5 (a1:Option Addr) (a2 a3 a4 a5:Int) (a6 a7 a8:Value)
 | Q6 (a1:Option Addr) (a2 a3:Nat) (a4:Int)
 | Q7 (a1 a2:Int) (a3:Value)
 | Q8 (a1:Int) (a2:Bool)
 | Q9 (a1:Option Addr) (a2 a3:Int)
 | Ja (a1:Option Addr) (a2 a3:Array Value)
 | Jb (a1 a2 a3 a4 a5 a6:Int) (a7:Value) (a8:Option Addr) (a9 VU:Nat) (VV:Int) (a12:Option Addr) (U8 U9:Nat)
 | Jc (a1:Option Addr) (a2 a3:Nat) (a4 a5 a6:Value)
 | Jd (a1:Option Addr) (a2 a3:Nat) (a4:Option Addr) (a5 a6:Nat) (a7:Option Addr) (a8 a9:Nat)
 | Je (a1:Option Addr) (a2 a3:Nat) (a4:Option Addr) (a5 a6:Nat) (a7:Option Addr) (a8 a9:Nat) (VU:Option Addr) (VV a12:Nat) (U8 U9 Uw Ue a17 RH M6 a20:Int) (a21:Option Addr)
 | Jf (a1:Option Addr) (a2:Int)
 | Jg (a1:Option Addr) (a2:Int) (a3:Bool)
 | Jh (a1:Option Addr) (a2:Int) (a3:Array Value)
 | Ji (a1:Option Addr) (a2 a3 a4 a5:Int) (a6:Option Addr) (a7 a8:Nat) (a9:Option Addr) (VU VV:Nat) (a12:Option Addr) (U8 U9:Nat)
 | Jj (a1:Int) (a2:Bool)
 | Jk (a1:Bool) (a2 a3:Int) (a4:Value) (a5:Bool)
 | Jl (a1 a2:Array Value) (a3:Int)
instance {a1 a2 a3 a4 a5 a6 a7 a8 a9 VU VV}:CoeDep Q (.Qa a1 a2 a3 a4 a5 a6 a7 a8 a9 VU VV) (Array Value):=⟨#[.int .i64 a1,.int .i64 a2,.int .i64 a3,.int .i64 a4,.string a5,.slice a6 a7 a8,.slice a9 VU VV]⟩
instance {a1 a2 a3 a4 a5 a6 a7 a8 a9 VU VV}:CoeDep Q (.Qa a1 a2 a3 a4 a5 a6 a7 a8 a9 VU VV) (List Value):=⟨[.int .i64 a1,.int .i64 a2,.int .i64 a3,.int .i64 a4,.string a5,.slice a6 a7 a8,.slice a9 VU VV]⟩
instance {a1 a2 a3 a4 a5 a6 a7 a8 a9 VU VV a12 U8 U9 Uw Ue a17}:CoeDep Q (.Qb a1 a2 a3 a4 a5 a6 a7 a8 a9 VU VV a12 U8 U9 Uw Ue a17) (Array Value):=⟨#[.bool a1,.int .i64 a2,.int .u16 a3,.int .u32 a4,.int .u32 a5,.slice a6 a7 a8,.bool a9,.int .u16 VU,.slice VV a12 U8,.slice U9 Uw Ue,.int .i64 a17]⟩
instance {a1 a2 a3 a4 a5 a6 a7 a8 a9 VU VV a12 U8 U9 Uw Ue a17}:CoeDep Q (.Qb a1 a2 a3 a4 a5 a6 a7 a8 a9 VU VV a12 U8 U9 Uw Ue a17) (List Value):=⟨[.bool a1,.int .i64 a2,.int .u16 a3,.int .u32 a4,.int .u32 a5,.slice a6 a7 a8,.bool a9,.int .u16 VU,.slice VV a12 U8,.slice U9 Uw Ue,.int .i64 a17]⟩
instance {a1 a2 a3 a4}:CoeDep Q (.Qc a1 a2 a3 a4) (Array Value):=⟨#[.int .i64 a1,.bool a2,.bool a3,.int .u16 a4]⟩
instance {a1 a2 a3 a4}:CoeDep Q (.Qc a1 a2 a3 a4) (List Value):=⟨[.int .i64 a1,.bool a2,.bool a3,.int .u16 a4]⟩
instance {a1 a2 a3 a4 a5 a6 a7 a8 a9 VU VV a12 U8 U9 Uw Ue}:CoeDep Q (.Qd a1 a2 a3 a4 a5 a6 a7 a8 a9 VU VV a12 U8 U9 Uw Ue) (Array Value):=⟨#[.int .i64 a1,.int .u32 a2,.int .u64 a3,.int .u32 a4,.int .u32 a5,.int .u32 a6,.slice a7 a8 a9,.slice VU VV a12,.int .u32 U8,.slice U9 Uw Ue]⟩
instance {a1 a2 a3 a4 a5 a6 a7 a8 a9 VU VV a12 U8 U9 Uw Ue}:CoeDep Q (.Qd a1 a2 a3 a4 a5 a6 a7 a8 a9 VU VV a12 U8 U9 Uw Ue) (List Value):=⟨[.int .i64 a1,.int .u32 a2,.int .u64 a3,.int .u32 a4,.int .u32 a5,.int .u32 a6,.slice a7 a8 a9,.slice VU VV a12,.int .u32 U8,.slice U9 Uw Ue]⟩
instance {a1 a2 a3 a4}:CoeDep Q (.Qe a1 a2 a3 a4) (Array Value):=⟨#[.int .i64 a1,.int .i64 a2,.int .i64 a3,.int .i64 a4]⟩
instance {a1 a2 a3 a4}:CoeDep Q (.Qe a1 a2 a3 a4) (List Value):=⟨[.int .i64 a1,.int .i64 a2,.int .i64 a3,.int .i64 a4]⟩
instance {a1 a2 a3 a4}:CoeDep Q (.Qf a1 a2 a3 a4) (Array Value):=⟨#[.int .i64 a1,.int .i64 a2,.bool a3,.bool a4]⟩
instance {a1 a2 a3 a4}:CoeDep Q (.Qf a1 a2 a3 a4) (List Value):=⟨[.int .i64 a1,.int .i64 a2,.bool a3,.bool a4]⟩
instance {a1 a2 a3 a4 a5 a6 a7 a8 a9 VU VV a12 U8 U9 Uw Ue a17 RH M6 a20 a21}:CoeDep Q (.Qg a1 a2 a3 a4 a5 a6 a7 a8 a9 VU VV a12 U8 U9 Uw Ue a17 RH M6 a20 a21) (Array Value):=⟨#[.bool a1,.int .i64 a2,.int .u16 a3,.int .u32 a4,.int .u32 a5,.slice a6 a7 a8,.bool a9,.int .u16 VU,.slice VV a12 U8,.slice U9 Uw Ue,.int .i64 a17,.int .i64 RH,.bool M6,.bool a20,.int .u16 a21]⟩
instance {a1 a2 a3 a4 a5 a6 a7 a8 a9 VU VV a12 U8 U9 Uw Ue a17 RH M6 a20 a21}:CoeDep Q (.Qg a1 a2 a3 a4 a5 a6 a7 a8 a9 VU VV a12 U8 U9 Uw Ue a17 RH M6 a20 a21) (List Value):=⟨[.bool a1,.int .i64 a2,.int .u16 a3,.int .u32 a4,.int .u32 a5,.slice a6 a7 a8,.bool a9,.int .u16 VU,.slice VV a12 U8,.slice U9 Uw Ue,.int .i64 a17,.int .i64 RH,.bool M6,.bool a20,.int .u16 a21]⟩
instance {a1 a2 a3 a4 a5}:CoeDep Q (.Qh a1 a2 a3 a4 a5) (Array Value):=⟨#[.int .i64 a1,.int .i64 a2,.int .i64 a3,.int .i64 a4,.int .u32 a5]⟩
instance {a1 a2 a3 a4 a5}:CoeDep Q (.Qh a1 a2 a3 a4 a5) (List Value):=⟨[.int .i64 a1,.int .i64 a2,.int .i64 a3,.int .i64 a4,.int .u32 a5]⟩
instance {a1 a2}:CoeDep Q (.Qi a1 a2) (Array Value):=⟨#[.pointer a1,.agg a2]⟩
instance {a1 a2}:CoeDep Q (.Qi a1 a2) (List Value):=⟨[.pointer a1,.agg a2]⟩
instance {a1 a2}:CoeDep Q (.Qj a1 a2) (Array Value):=⟨#[.pointer a1,.int .i64 a2]⟩
instance {a1 a2}:CoeDep Q (.Qj a1 a2) (List Value):=⟨[.pointer a1,.int .i64 a2]⟩
instance {a1 a2 a3 a4}:CoeDep Q (.Qk a1 a2 a3 a4) (Array Value):=⟨#[.int .i64 a1,.int .i64 a2,.int .i64 a3,.bool a4]⟩
instance {a1 a2 a3 a4}:CoeDep Q (.Qk a1 a2 a3 a4) (List Value):=⟨[.int .i64 a1,.int .i64 a2,.int .i64 a3,.bool a4]⟩
instance {a1 a2 a3 a4 a5 a6 a7 a8 a9 VU VV a12 U8 U9 Uw Ue a17 RH M6 a20 a21 a22 a23 a24 a25}:CoeDep Q (.Ql a1 a2 a3 a4 a5 a6 a7 a8 a9 VU VV a12 U8 U9 Uw Ue a17 RH M6 a20 a21 a22 a23 a24 a25) (Array Value):=⟨#[.int .i64 a1,.bool a2,.int .i64 a3,.int .u16 a4,.int .u32 a5,.int .u32 a6,.slice a7 a8 a9,.bool VU,.int .u16 VV,.slice a12 U8 U9,.slice Uw Ue a17,.int .i64 RH,.int .i64 M6,.bool a20,.bool a21,.int .u16 a22,.slice a23 a24 a25]⟩
instance {a1 a2 a3 a4 a5 a6 a7 a8 a9 VU VV a12 U8 U9 Uw Ue a17 RH M6 a20 a21 a22 a23 a24 a25}:CoeDep Q (.Ql a1 a2 a3 a4 a5 a6 a7 a8 a9 VU VV a12 U8 U9 Uw Ue a17 RH M6 a20 a21 a22 a23 a24 a25) (List Value):=⟨[.int .i64 a1,.bool a2,.int .i64 a3,.int .u16 a4,.int .u32 a5,.int .u32 a6,.slice a7 a8 a9,.bool VU,.int .u16 VV,.slice a12 U8 U9,.slice Uw Ue a17,.int .i64 RH,.int .i64 M6,.bool a20,.bool a21,.int .u16 a22,.slice a23 a24 a25]⟩
instance {a1 a2 a3 a4 a5 a6 a7 a8 a9 VU VV a12 U8 U9 Uw Ue a17 RH M6 a20 a21 a22 a23 a24 a25 a26 aO a28 aP aQ a31 a32}:CoeDep Q (.Qm a1 a2 a3 a4 a5 a6 a7 a8 a9 VU VV a12 U8 U9 Uw Ue a17 RH M6 a20 a21 a22 a23 a24 a25 a26 aO a28 aP aQ a31 a32) (Array Value):=⟨#[.int .i64 a1,.int .i64 a2,.int .i64 a3,.int .i64 a4,.bool a5,.int .i64 a6,.int .u16 a7,.int .u32 a8,.int .u32 a9,.slice VU VV a12,.bool U8,.int .u16 U9,.slice Uw Ue a17,.slice RH M6 a20,.int .i64 a21,.int .i64 a22,.bool a23,.bool a24,.int .u16 a25,.slice a26 aO a28,.slice aP aQ a31,.int .i64 a32]⟩
instance {a1 a2 a3 a4 a5 a6 a7 a8 a9 VU VV a12 U8 U9 Uw Ue a17 RH M6 a20 a21 a22 a23 a24 a25 a26 aO a28 aP aQ a31 a32}:CoeDep Q (.Qm a1 a2 a3 a4 a5 a6 a7 a8 a9 VU VV a12 U8 U9 Uw Ue a17 RH M6 a20 a21 a22 a23 a24 a25 a26 aO a28 aP aQ a31 a32) (List Value):=⟨[.int .i64 a1,.int .i64 a2,.int .i64 a3,.int .i64 a4,.bool a5,.int .i64 a6,.int .u16 a7,.int .u32 a8,.int .u32 a9,.slice VU VV a12,.bool U8,.int .u16 U9,.slice Uw Ue a17,.slice RH M6 a20,.int .i64 a21,.int .i64 a22,.bool a23,.bool a24,.int .u16 a25,.slice a26 aO a28,.slice aP aQ a31,.int .i64 a32]⟩
instance {a1 a2 a3}:CoeDep Q (.Qn a1 a2 a3) (Array Value):=⟨#[.int .i64 a1,.int .i64 a2,.int .i64 a3]⟩
instance {a1 a2 a3}:CoeDep Q (.Qn a1 a2 a3) (List Value):=⟨[.int .i64 a1,.int .i64 a2,.int .i64 a3]⟩
instance {a1 a2}:CoeDep Q (.Qo a1 a2) (Array Value):=⟨#[.agg a1,.int .i64 a2]⟩
instance {a1 a2}:CoeDep Q (.Qo a1 a2) (List Value):=⟨[.agg a1,.int .i64 a2]⟩
instance {a1 a2 a3 a4 a5 a6}:CoeDep Q (.Qp a1 a2 a3 a4 a5 a6) (Array Value):=⟨#[.int .i64 a1,.int .i64 a2,.slice a3 a4 a5,.bool a6]⟩
instance {a1 a2 a3 a4 a5 a6}:CoeDep Q (.Qp a1 a2 a3 a4 a5 a6) (List Value):=⟨[.int .i64 a1,.int .i64 a2,.slice a3 a4 a5,.bool a6]⟩
instance {a1 a2 a3}:CoeDep Q (.Qq a1 a2 a3) (Array Value):=⟨#[.agg a1,.int .i64 a2,.int .i64 a3]⟩
instance {a1 a2 a3}:CoeDep Q (.Qq a1 a2 a3) (List Value):=⟨[.agg a1,.int .i64 a2,.int .i64 a3]⟩
instance {a1 a2 a3 a4 a5 a6 a7}:CoeDep Q (.Qr a1 a2 a3 a4 a5 a6 a7) (Array Value):=⟨#[.int .u32 a1,.int .u8 a2,.int .u32 a3,.int .u32 a4,.int .u32 a5,.int .u32 a6,.int .u32 a7]⟩
instance {a1 a2 a3 a4 a5 a6 a7}:CoeDep Q (.Qr a1 a2 a3 a4 a5 a6 a7) (List Value):=⟨[.int .u32 a1,.int .u8 a2,.int .u32 a3,.int .u32 a4,.int .u32 a5,.int .u32 a6,.int .u32 a7]⟩
instance {a1 a2 a3}:CoeDep Q (.Qs a1 a2 a3) (Array Value):=⟨#[.pointer a1,.int .i64 a2,.int .i64 a3]⟩
instance {a1 a2 a3}:CoeDep Q (.Qs a1 a2 a3) (List Value):=⟨[.pointer a1,.int .i64 a2,.int .i64 a3]⟩
instance {a1 a2}:CoeDep Q (.Qt a1 a2) (Array Value):=⟨#[.int .u8 a1,.int .u8 a2]⟩
instance {a1 a2}:CoeDep Q (.Qt a1 a2) (List Value):=⟨[.int .u8 a1,.int .u8 a2]⟩
instance {a1 a2 a3 a4 a5 a6 a7 a8 a9 VU VV a12 U8 U9 Uw}:CoeDep Q (.Qu a1 a2 a3 a4 a5 a6 a7 a8 a9 VU VV a12 U8 U9 Uw) (Array Value):=⟨#[.slice a1 a2 a3,a4,a5,a6,.int .i64 a7,.int .i64 a8,.int .i64 a9,.int .i64 VU,.int .i64 VV,.int .i64 a12,.int .i64 U8,.int .i64 U9,.pointer Uw]⟩
instance {a1 a2 a3 a4 a5 a6 a7 a8 a9 VU VV a12 U8 U9 Uw}:CoeDep Q (.Qu a1 a2 a3 a4 a5 a6 a7 a8 a9 VU VV a12 U8 U9 Uw) (List Value):=⟨[.slice a1 a2 a3,a4,a5,a6,.int .i64 a7,.int .i64 a8,.int .i64 a9,.int .i64 VU,.int .i64 VV,.int .i64 a12,.int .i64 U8,.int .i64 U9,.pointer Uw]⟩
instance {a1 a2 a3 a4 a5 a6}:CoeDep Q (.Qv a1 a2 a3 a4 a5 a6) (Array Value):=⟨#[.slice a1 a2 a3,.int .i64 a4,.int .u32 a5,.int .u16 a6]⟩
instance {a1 a2 a3 a4 a5 a6}:CoeDep Q (.Qv a1 a2 a3 a4 a5 a6) (List Value):=⟨[.slice a1 a2 a3,.int .i64 a4,.int .u32 a5,.int .u16 a6]⟩
instance {a1 a2}:CoeDep Q (.Qw a1 a2) (Array Value):=⟨#[.int .u16 a1,.int .u16 a2]⟩
instance {a1 a2}:CoeDep Q (.Qw a1 a2) (List Value):=⟨[.int .u16 a1,.int .u16 a2]⟩
instance {a1 a2 a3 a4}:CoeDep Q (.Qx a1 a2 a3 a4) (Array Value):=⟨#[.agg a1,.int .i64 a2,.int .i64 a3,.int .i64 a4]⟩
instance {a1 a2 a3 a4}:CoeDep Q (.Qx a1 a2 a3 a4) (List Value):=⟨[.agg a1,.int .i64 a2,.int .i64 a3,.int .i64 a4]⟩
instance {a1 a2}:CoeDep Q (.Qy a1 a2) (Array Value):=⟨#[.agg a1,.bool a2]⟩
instance {a1 a2}:CoeDep Q (.Qy a1 a2) (List Value):=⟨[.agg a1,.bool a2]⟩
instance {a1 a2}:CoeDep Q (.Qz a1 a2) (Array Value):=⟨#[.int .i64 a1,.int .i64 a2]⟩
instance {a1 a2}:CoeDep Q (.Qz a1 a2) (List Value):=⟨[.int .i64 a1,.int .i64 a2]⟩
instance {a1 a2}:CoeDep Q (.Q0 a1 a2) (Array Value):=⟨#[.int .i64 a1,.string a2]⟩
instance {a1 a2}:CoeDep Q (.Q0 a1 a2) (List Value):=⟨[.int .i64 a1,.string a2]⟩
instance {a1 a2 a3}:CoeDep Q (.Q1 a1 a2 a3) (Array Value):=⟨#[.pointer a1,.agg a2,.int .i64 a3]⟩
instance {a1 a2 a3}:CoeDep Q (.Q1 a1 a2 a3) (List Value):=⟨[.pointer a1,.agg a2,.int .i64 a3]⟩
instance {a1 a2 a3}:CoeDep Q (.Q3 a1 a2 a3) (Array Value):=⟨#[.int .i64 a1,.int .i64 a2,.bool a3]⟩
instance {a1 a2 a3}:CoeDep Q (.Q3 a1 a2 a3) (List Value):=⟨[.int .i64 a1,.int .i64 a2,.bool a3]⟩
instance {a1 a2 a3 a4 a5 a6}:CoeDep Q (.Q4 a1 a2 a3 a4 a5 a6) (Array Value):=⟨#[.int .i64 a1,.int .u16 a2,.int .u32 a3,.int .u32 a4,.int .u16 a5,.bool a6]⟩
instance {a1 a2 a3 a4 a5 a6}:CoeDep Q (.Q4 a1 a2 a3 a4 a5 a6) (List Value):=⟨[.int .i64 a1,.int .u16 a2,.int .u32 a3,.int .u32 a4,.int .u16 a5,.bool a6]⟩
instance {a1 a2 a3 a4 a5 a6 a7 a8}:CoeDep Q (.Q5 a1 a2 a3 a4 a5 a6 a7 a8) (Array Value):=⟨#[.pointer a1,.int .i64 a2,.int .i64 a3,.int .i64 a4,.int .i64 a5,a6,a7,a8]⟩
instance {a1 a2 a3 a4 a5 a6 a7 a8}:CoeDep Q (.Q5 a1 a2 a3 a4 a5 a6 a7 a8) (List Value):=⟨[.pointer a1,.int .i64 a2,.int .i64 a3,.int .i64 a4,.int .i64 a5,a6,a7,a8]⟩
instance {a1 a2 a3 a4}:CoeDep Q (.Q6 a1 a2 a3 a4) (Array Value):=⟨#[.slice a1 a2 a3,.int .i64 a4]⟩
instance {a1 a2 a3 a4}:CoeDep Q (.Q6 a1 a2 a3 a4) (List Value):=⟨[.slice a1 a2 a3,.int .i64 a4]⟩
instance {a1 a2 a3}:CoeDep Q (.Q7 a1 a2 a3) (Array Value):=⟨#[.int .i64 a1,.int .i64 a2,a3]⟩
instance {a1 a2 a3}:CoeDep Q (.Q7 a1 a2 a3) (List Value):=⟨[.int .i64 a1,.int .i64 a2,a3]⟩
instance {a1 a2}:CoeDep Q (.Q8 a1 a2) (Array Value):=⟨#[.int .i64 a1,.bool a2]⟩
instance {a1 a2}:CoeDep Q (.Q8 a1 a2) (List Value):=⟨[.int .i64 a1,.bool a2]⟩
instance {a1 a2 a3}:CoeDep Q (.Q9 a1 a2 a3) (Array Value):=⟨#[.pointer a1,.int .i64 a2,.int .u32 a3]⟩
instance {a1 a2 a3}:CoeDep Q (.Q9 a1 a2 a3) (List Value):=⟨[.pointer a1,.int .i64 a2,.int .u32 a3]⟩
instance {a1 a2 a3}:CoeDep Q (.Ja a1 a2 a3) (Array Value):=⟨#[.pointer a1,.agg a2,.agg a3]⟩
instance {a1 a2 a3}:CoeDep Q (.Ja a1 a2 a3) (List Value):=⟨[.pointer a1,.agg a2,.agg a3]⟩
instance {a1 a2 a3 a4 a5 a6 a7 a8 a9 VU VV a12 U8 U9}:CoeDep Q (.Jb a1 a2 a3 a4 a5 a6 a7 a8 a9 VU VV a12 U8 U9) (Array Value):=⟨#[.int .i64 a1,.int .u32 a2,.int .u64 a3,.int .u32 a4,.int .u32 a5,.int .u32 a6,a7,.slice a8 a9 VU,.int .u32 VV,.slice a12 U8 U9]⟩
instance {a1 a2 a3 a4 a5 a6 a7 a8 a9 VU VV a12 U8 U9}:CoeDep Q (.Jb a1 a2 a3 a4 a5 a6 a7 a8 a9 VU VV a12 U8 U9) (List Value):=⟨[.int .i64 a1,.int .u32 a2,.int .u64 a3,.int .u32 a4,.int .u32 a5,.int .u32 a6,a7,.slice a8 a9 VU,.int .u32 VV,.slice a12 U8 U9]⟩
instance {a1 a2 a3 a4 a5 a6}:CoeDep Q (.Jc a1 a2 a3 a4 a5 a6) (Array Value):=⟨#[.slice a1 a2 a3,a4,a5,a6]⟩
instance {a1 a2 a3 a4 a5 a6}:CoeDep Q (.Jc a1 a2 a3 a4 a5 a6) (List Value):=⟨[.slice a1 a2 a3,a4,a5,a6]⟩
instance {a1 a2 a3 a4 a5 a6 a7 a8 a9}:CoeDep Q (.Jd a1 a2 a3 a4 a5 a6 a7 a8 a9) (Array Value):=⟨#[.slice a1 a2 a3,.slice a4 a5 a6,.slice a7 a8 a9]⟩
instance {a1 a2 a3 a4 a5 a6 a7 a8 a9}:CoeDep Q (.Jd a1 a2 a3 a4 a5 a6 a7 a8 a9) (List Value):=⟨[.slice a1 a2 a3,.slice a4 a5 a6,.slice a7 a8 a9]⟩
instance {a1 a2 a3 a4 a5 a6 a7 a8 a9 VU VV a12 U8 U9 Uw Ue a17 RH M6 a20 a21}:CoeDep Q (.Je a1 a2 a3 a4 a5 a6 a7 a8 a9 VU VV a12 U8 U9 Uw Ue a17 RH M6 a20 a21) (Array Value):=⟨#[.slice a1 a2 a3,.slice a4 a5 a6,.slice a7 a8 a9,.slice VU VV a12,.int .i64 U8,.int .i64 U9,.int .i64 Uw,.int .i64 Ue,.int .i64 a17,.int .i64 RH,.int .i64 M6,.int .i64 a20,.pointer a21]⟩
instance {a1 a2 a3 a4 a5 a6 a7 a8 a9 VU VV a12 U8 U9 Uw Ue a17 RH M6 a20 a21}:CoeDep Q (.Je a1 a2 a3 a4 a5 a6 a7 a8 a9 VU VV a12 U8 U9 Uw Ue a17 RH M6 a20 a21) (List Value):=⟨[.slice a1 a2 a3,.slice a4 a5 a6,.slice a7 a8 a9,.slice VU VV a12,.int .i64 U8,.int .i64 U9,.int .i64 Uw,.int .i64 Ue,.int .i64 a17,.int .i64 RH,.int .i64 M6,.int .i64 a20,.pointer a21]⟩
instance {a1 a2}:CoeDep Q (.Jf a1 a2) (Array Value):=⟨#[.pointer a1,.int .u32 a2]⟩
instance {a1 a2}:CoeDep Q (.Jf a1 a2) (List Value):=⟨[.pointer a1,.int .u32 a2]⟩
instance {a1 a2 a3}:CoeDep Q (.Jg a1 a2 a3) (Array Value):=⟨#[.pointer a1,.int .i64 a2,.bool a3]⟩
instance {a1 a2 a3}:CoeDep Q (.Jg a1 a2 a3) (List Value):=⟨[.pointer a1,.int .i64 a2,.bool a3]⟩
instance {a1 a2 a3}:CoeDep Q (.Jh a1 a2 a3) (Array Value):=⟨#[.pointer a1,.int .i64 a2,.agg a3]⟩
instance {a1 a2 a3}:CoeDep Q (.Jh a1 a2 a3) (List Value):=⟨[.pointer a1,.int .i64 a2,.agg a3]⟩
instance {a1 a2 a3 a4 a5 a6 a7 a8 a9 VU VV a12 U8 U9}:CoeDep Q (.Ji a1 a2 a3 a4 a5 a6 a7 a8 a9 VU VV a12 U8 U9) (Array Value):=⟨#[.pointer a1,.int .i64 a2,.int .i64 a3,.int .i64 a4,.int .i64 a5,.slice a6 a7 a8,.slice a9 VU VV,.slice a12 U8 U9]⟩
instance {a1 a2 a3 a4 a5 a6 a7 a8 a9 VU VV a12 U8 U9}:CoeDep Q (.Ji a1 a2 a3 a4 a5 a6 a7 a8 a9 VU VV a12 U8 U9) (List Value):=⟨[.pointer a1,.int .i64 a2,.int .i64 a3,.int .i64 a4,.int .i64 a5,.slice a6 a7 a8,.slice a9 VU VV,.slice a12 U8 U9]⟩
instance {a1 a2}:CoeDep Q (.Jj a1 a2) (Array Value):=⟨#[.int .u64 a1,.bool a2]⟩
instance {a1 a2}:CoeDep Q (.Jj a1 a2) (List Value):=⟨[.int .u64 a1,.bool a2]⟩
instance {a1 a2 a3 a4 a5}:CoeDep Q (.Jk a1 a2 a3 a4 a5) (Array Value):=⟨#[.bool a1,.int .i64 a2,.int .i64 a3,a4,.bool a5]⟩
instance {a1 a2 a3 a4 a5}:CoeDep Q (.Jk a1 a2 a3 a4 a5) (List Value):=⟨[.bool a1,.int .i64 a2,.int .i64 a3,a4,.bool a5]⟩
instance {a1 a2 a3}:CoeDep Q (.Jl a1 a2 a3) (Array Value):=⟨#[.agg a1,.agg a2,.int .i64 a3]⟩
instance {a1 a2 a3}:CoeDep Q (.Jl a1 a2 a3) (List Value):=⟨[.agg a1,.agg a2,.int .i64 a3]⟩
instance:Coe World Nat:=⟨fun w=>w.heap.size⟩
theorem Zh {p:Prop} (h:p):RowKit.Hid p:=h
theorem Zk {p:Prop} (h:p:=by kernel_rfl):p:=h
theorem Zo {p:Prop} (h:p:=by omega):p:=h
theorem Zr {p:Prop} (h:p:=by rfl):p:=h
theorem Zn {p:Prop} (h:p:=by go_num):p:=h
theorem Zd {p:Prop} (h:p:=by decide):p:=h
theorem Zi {p:Prop} (h:p:=by simp):p:=h
theorem RowKit.Hid.o {p:Prop} (h:RowKit.Hid p):p:=h
theorem Zc {w:World} {b:Nat} {cs:Array Value} {e:TypeId} {v:Value} (h:w.heap[b]? = some (.cells cs e)) (j:Nat) (hv:cs[j]? = some v):w.cell? ⟨b, j, none⟩ = some v := by simp only [World.cell?, h]; exact hv
section
variable {P:Program} {ops:Array Oper} {rest:List Oper} {o:Oper} {a:Act} {w:World} {Q':Exit → Act → World → Prop}
theorem Zs {ty:TypeId} {x y:Operand} {g:Nat} {cells:Array Value} {t:TypeId} {old:Array Value} (hg:w.heap[g]? = some (.cells old t (0, 0))) (h:wpList P ops Q' rest a (w.setRow g cells)) (Mq:o.guard = none := by rfl) (ho:o.op = .store ty x y := by rfl) (hd:o.dst = none := by rfl) (hx:a.eval x = .pointer (some ⟨g, 0, none⟩) := by rfl) (hy:a.eval y = .agg cells := by rfl) (hi:(P.info? ty).map (·.size) = some cells.size := by kernel_rfl) (hold:old.size = cells.size := by kernel_rfl) (h1:cells.all (·.oneCell') = true := by kernel_rfl):wpList P ops Q' (o :: rest) a w := wpList_store_row Mq ty x y ho g cells hx hy t old hg hi hold h1 (by rw [hd]; exact h)
theorem Zl {ty:TypeId} {x:Operand} {g:Nat} {t:TypeId} {cs:Array Value} {fr:Nat × Nat} {d:TypeDesc} (hg:w.heap[g]? = some (.cells cs t fr)) (hu:P.underlying ty = some d) (h:wpList P ops Q' rest (a.put o.dst (.agg cs)) w) (Mq:o.guard = none := by rfl) (ho:o.op = .load ty x := by rfl) (hx:a.eval x = .pointer (some ⟨g, 0, none⟩) := by rfl) (hd:(match d with | .struct _ | .array _ _ => true | _ => false) = true := by rfl) (hi:(P.info? ty).map (·.size) = some cs.size := by kernel_rfl):wpList P ops Q' (o :: rest) a w := wpList_load_row Mq ty x ho g hx t cs fr d hg hu hd hi h
theorem Zm {ty:TypeId} {x:Operand} {b i:Nat} {cs:List Value} {d:TypeDesc} (hc:w.rangeAt b i cs) (hu:P.underlying ty = some d) (h:wpList P ops Q' rest (a.put o.dst (.agg cs.toArray)) w) (Mq:o.guard = none := by rfl) (ho:o.op = .load ty x := by rfl) (hx:a.eval x = .pointer (some ⟨b, i, none⟩) := by rfl) (hd:d.isRow = true := by rfl) (hi:(P.info? ty).map (·.size) = some cs.length := by kernel_rfl):wpList P ops Q' (o :: rest) a w := wpList_load_mid Mq ty x ho b i hx cs d hc hu hd hi h
end
abbrev Zw:=@Nat.le_refl
abbrev Z4:=@if_neg
abbrev WQ:=@beq_eq_false_iff_ne
abbrev U7:=@List.getElem?_eq_getElem
abbrev ZQ:=@if_pos
abbrev YH:=@Below.refl
abbrev Wv:=@Int.toNat_natCast
abbrev WB:=@decide_eq_false
abbrev We:=@decide_eq_true
abbrev S6:=@List.getElem?_cons_zero
abbrev UM:=@List.length_append
abbrev Rw:=@List.getD_eq_getElem?_getD
abbrev SJ:=@List.getElem?_cons_succ
abbrev SK:=@List.getElem?_toArray
abbrev Ua:=@World.ownsRow_nil
abbrev QT:=@Int.eq_ofNat_of_zero_le
abbrev VJ:=@bodyPost_ret
abbrev TU:=@Bool.and_eq_true
abbrev Tg:=@List.length_take
abbrev Sd:=@wp_region_noPanic
abbrev Tx:=@List.length_map
abbrev MW:=@RowKit.Below.heap_setCell
abbrev Ty:=@IntWalk.i64_in
abbrev O_:=@List.flatMap_append
abbrev Rx:=@List.length_drop
abbrev Pb:=@Nat.lt_of_lt_of_le
abbrev QY:=@NoPanic.normal
abbrev Oh:=@decide_eq_true_eq
abbrev Ot:=@List.getElem_mem
abbrev Fm:=@Array.getElem?_eq_none
abbrev Tw:=@Nat.zero_le
abbrev Cc:=@List.eq_nil_of_length_eq_zero
abbrev O6:=@Array.size_push
abbrev NW:=@IntKind.wrap_u32
abbrev N7:=@List.map_append
abbrev QP:=@Nat.zero_add
abbrev F5:=@List.take_of_length_le
abbrev K4:=@Bool.eq_false_iff
abbrev Kc:=@List.mem_singleton
abbrev PW:=@Nat.le_trans
abbrev Ou:=@Int.ofNat_lt
abbrev R6:=@bne_iff_ne
abbrev Jy:=@List.nil_append
abbrev Ww:=@Or.inl
abbrev Mg:=@List.mem_cons
abbrev Wi:=@Or.inr
abbrev rp:=@World.cell?_setCell_same
abbrev D5:=@List.mem_append
abbrev IP:=@Nat.le_succ
abbrev wC:=@List.append_nil
abbrev rq:=@Int.natCast_nonneg
abbrev ru:=@List.range_succ
abbrev nZ:=@List.take_length
abbrev wD:=@List.mem_map
abbrev gV:=@List.append_assoc
abbrev Z1d:=@List.getElem?_append_right
abbrev gW:=@Nat.le_of_lt
abbrev gX:=@Nat.add_zero
abbrev aN:=@List.mem_filter
end Go
