/- Short rules and names for the texts that follow: rows of cells by their letters, struct loads and stores. -/
import Derived.Below
import Derived.BigQuiet
import Derived.Carry
import Derived.ChangeArms
import Derived.ChangeSame
import Derived.ChangeSlices
import Derived.Deep.CutBlock
import Derived.Deep.DeepCutAuto
import Derived.Deep.MidRow
import Derived.Deep.QuietTactic
import Derived.Deep.RegionHeld3
import Derived.Deep.RegionLaw
import Derived.Deep.RegionLawGrows
import Derived.Deep.Slices
import Derived.Great.BuildSlice
import Derived.IntWalk
import Derived.Laws.AppendOwn
import Derived.Laws.AppendOwnNone
import Derived.Laws.BitsAllLaws
import Derived.Laws.BytesString
import Derived.Laws.Cells
import Derived.Laws.IdiomStrings
import Derived.Laws.OwnMore
import Derived.Laws.RangeAny
import Derived.Laws.ResultCell
import Derived.Laws.Rows
import Derived.Laws.Slices
import Derived.Laws.StructEq
import Derived.Laws.Tables
import Derived.Lib.ConvBytes
import Derived.Lib.Hide
import Derived.Lib.IndexBytes
import Derived.Lib.MapLaws
import Derived.Lib.RuneCount
import Derived.Lib.ValidLaws
import Derived.Lib.Walk
import Derived.LoopTactic
import Derived.Maps.OwnSet
import Derived.OpenShut
import Derived.OwnWalk
import Derived.ProofKit
import Derived.Shelf.GgClosure.Gives
import Derived.SizedLaws
import Derived.StillTailTactics
import Derived.WalkKit
import Derived.WalkSpells
import Derived.WideKeyArgs
import Derived.WideKeyPair
import GoSem.Core.Value
set_option linter.unusedVariables false
namespace Go
open RowKit
/-- A row of cells by its letters. -/
inductive Q
 | Qa (a1 a2 a3 a4:Int) (a5:ByteArray) (a6:Option Addr) (a7 a8:Nat) (a9:Option Addr) (Vn Vo:Nat)
 | Qb (a1:Bool) (a2 a3 a4 a5:Int) (a6:Option Addr) (a7 a8:Nat) (a9:Bool) (Vn:Int) (Vo:Option Addr) (a12 Ub:Nat) (Uc:Option Addr) (TC SA:Nat) (a17:Int)
 | Qc (a1 a2 a3 a4 a5 a6:Int) (a7:Option Addr) (a8 a9:Nat) (Vn:Option Addr) (Vo a12:Nat) (Ub:Int) (Uc:Option Addr) (TC SA:Nat)
 | Qd (a1:Int) (a2 a3:Bool) (a4:Int)
 | Qe (a1 a2 a3 a4:Int)
 | Qf (a1:Option Addr) (a2:Array Value)
 | Qg (a1 a2 a3:Int) (a4:Bool)
 | Qh (a1:Int) (a2:Bool) (a3 a4 a5 a6:Int) (a7:Option Addr) (a8 a9:Nat) (Vn:Bool) (Vo:Int) (a12:Option Addr) (Ub Uc:Nat) (TC:Option Addr) (SA a17:Nat) (NF NG:Int) (a20 a21:Bool) (a22:Int) (a23:Option Addr) (a24 a25:Nat)
 | Qi (a1 a2 a3 a4 a5:Int)
 | Qj (a1 a2:Int) (a3:Option Addr) (a4 a5:Nat) (a6:Bool)
 | Qk (a1 a2 a3:Int)
 | Ql (a1:Option Addr) (a2:Int)
 | Qm (a1 a2 a3 a4:Int) (a5:Bool) (a6 a7 a8 a9:Int) (Vn:Option Addr) (Vo a12:Nat) (Ub:Bool) (Uc:Int) (TC:Option Addr) (SA a17:Nat) (NF:Option Addr) (NG a20:Nat) (a21 a22:Int) (a23 a24:Bool) (a25:Int) (a26:Option Addr) (eO a28:Nat) (eP:Option Addr) (eQ a31:Nat) (a32:Int)
 | Qn (a1:Array Value) (a2:Int)
 | Qo (a1:Array Value) (a2 a3:Int)
 | Qp (a1:Option Addr) (a2 a3:Nat) (a4:Option Addr) (a5 a6:Nat) (a7:Option Addr) (a8 a9:Nat)
 | Qq (a1 a2 a3 a4 a5 a6 a7:Int)
 | Qs (a1:Option Addr) (a2 a3:Int)
 | Qt (a1:Bool) (a2 a3 a4 a5:Int) (a6:Option Addr) (a7 a8:Nat) (a9:Bool) (Vn:Int) (Vo:Option Addr) (a12 Ub:Nat) (Uc:Option Addr) (TC SA:Nat) (a17 NF:Int) (NG a20:Bool) (a21:Int)
 | Qu (a1:Option Addr) (a2 a3:Nat) (a4 a5 a6:Value) (a7 a8 a9 Vn Vo a12 Ub Uc:Int) (TC:Option Addr)
 | Qv (a1 a2:Int)
 | Qw (a1:Int) (a2:ByteArray)
 | Qx (a1:Array Value) (a2:Bool)
 | Qy (a1:Array Value) (a2 a3 a4:Int)
 | Qz (a1 a2:Int)
 | Q0 (a1 a2:Int)
 | Q1 (a1 a2:Int) (a3:Bool)
 | Q3 (a1:Option Addr) (a2:Array Value) (a3:Int)
 | Q4 (a1:Option Addr) (a2 a3:Nat) (a4:Int)
 | Q5 (a1 a2 a3 a4 a5 a6 a7 a8:Int)
 | Q6 (a1 a2:Int) (a3:Value)
 | Q7 (a1:Int) (a2:Bool)
 | Q8 (a1:Option Addr) (a2 a3:Int)
 | Q9 (a1:Option Addr) (a2 a3:Array Value)
 | Ja (a1 a2 a3 a4 a5 a6:Int) (a7:Value) (a8:Option Addr) (a9 Vn:Nat) (Vo:Int) (a12:Option Addr) (Ub Uc:Nat)
 | Jb (a1:Option Addr) (a2 a3:Nat) (a4:Option Addr) (a5 a6:Nat) (a7:Option Addr) (a8 a9:Nat) (Vn:Option Addr) (Vo a12:Nat) (Ub Uc TC SA a17 NF NG a20:Int) (a21:Option Addr)
 | Jc (a1:Option Addr) (a2:Int)
 | Jd (a1:Option Addr) (a2:Int) (a3:Bool)
 | Je (a1:Int) (a2:Bool)
 | Jf (a1:Bool) (a2 a3:Int) (a4:Value) (a5:Bool)
 | Jg (a1:Option Addr) (a2:Int) (a3:Array Value)
 | Jh (a1 a2:Array Value) (a3:Int)
instance {a1 a2 a3 a4 a5 a6 a7 a8 a9 Vn Vo}:CoeDep Q (.Qa a1 a2 a3 a4 a5 a6 a7 a8 a9 Vn Vo) (Array Value):=⟨#[.int .i64 a1,.int .i64 a2,.int .i64 a3,.int .i64 a4,.string a5,.slice a6 a7 a8,.slice a9 Vn Vo]⟩
instance {a1 a2 a3 a4 a5 a6 a7 a8 a9 Vn Vo}:CoeDep Q (.Qa a1 a2 a3 a4 a5 a6 a7 a8 a9 Vn Vo) (List Value):=⟨[.int .i64 a1,.int .i64 a2,.int .i64 a3,.int .i64 a4,.string a5,.slice a6 a7 a8,.slice a9 Vn Vo]⟩
instance {a1 a2 a3 a4 a5 a6 a7 a8 a9 Vn Vo a12 Ub Uc TC SA a17}:CoeDep Q (.Qb a1 a2 a3 a4 a5 a6 a7 a8 a9 Vn Vo a12 Ub Uc TC SA a17) (Array Value):=⟨#[.bool a1,.int .i64 a2,.int .u16 a3,.int .u32 a4,.int .u32 a5,.slice a6 a7 a8,.bool a9,.int .u16 Vn,.slice Vo a12 Ub,.slice Uc TC SA,.int .i64 a17]⟩
instance {a1 a2 a3 a4 a5 a6 a7 a8 a9 Vn Vo a12 Ub Uc TC SA a17}:CoeDep Q (.Qb a1 a2 a3 a4 a5 a6 a7 a8 a9 Vn Vo a12 Ub Uc TC SA a17) (List Value):=⟨[.bool a1,.int .i64 a2,.int .u16 a3,.int .u32 a4,.int .u32 a5,.slice a6 a7 a8,.bool a9,.int .u16 Vn,.slice Vo a12 Ub,.slice Uc TC SA,.int .i64 a17]⟩
instance {a1 a2 a3 a4 a5 a6 a7 a8 a9 Vn Vo a12 Ub Uc TC SA}:CoeDep Q (.Qc a1 a2 a3 a4 a5 a6 a7 a8 a9 Vn Vo a12 Ub Uc TC SA) (Array Value):=⟨#[.int .i64 a1,.int .u32 a2,.int .u64 a3,.int .u32 a4,.int .u32 a5,.int .u32 a6,.slice a7 a8 a9,.slice Vn Vo a12,.int .u32 Ub,.slice Uc TC SA]⟩
instance {a1 a2 a3 a4 a5 a6 a7 a8 a9 Vn Vo a12 Ub Uc TC SA}:CoeDep Q (.Qc a1 a2 a3 a4 a5 a6 a7 a8 a9 Vn Vo a12 Ub Uc TC SA) (List Value):=⟨[.int .i64 a1,.int .u32 a2,.int .u64 a3,.int .u32 a4,.int .u32 a5,.int .u32 a6,.slice a7 a8 a9,.slice Vn Vo a12,.int .u32 Ub,.slice Uc TC SA]⟩
instance {a1 a2 a3 a4}:CoeDep Q (.Qd a1 a2 a3 a4) (Array Value):=⟨#[.int .i64 a1,.bool a2,.bool a3,.int .u16 a4]⟩
instance {a1 a2 a3 a4}:CoeDep Q (.Qd a1 a2 a3 a4) (List Value):=⟨[.int .i64 a1,.bool a2,.bool a3,.int .u16 a4]⟩
instance {a1 a2 a3 a4}:CoeDep Q (.Qe a1 a2 a3 a4) (Array Value):=⟨#[.int .i64 a1,.int .i64 a2,.int .i64 a3,.int .i64 a4]⟩
instance {a1 a2 a3 a4}:CoeDep Q (.Qe a1 a2 a3 a4) (List Value):=⟨[.int .i64 a1,.int .i64 a2,.int .i64 a3,.int .i64 a4]⟩
instance {a1 a2}:CoeDep Q (.Qf a1 a2) (Array Value):=⟨#[.pointer a1,.agg a2]⟩
instance {a1 a2}:CoeDep Q (.Qf a1 a2) (List Value):=⟨[.pointer a1,.agg a2]⟩
instance {a1 a2 a3 a4}:CoeDep Q (.Qg a1 a2 a3 a4) (Array Value):=⟨#[.int .i64 a1,.int .i64 a2,.int .i64 a3,.bool a4]⟩
instance {a1 a2 a3 a4}:CoeDep Q (.Qg a1 a2 a3 a4) (List Value):=⟨[.int .i64 a1,.int .i64 a2,.int .i64 a3,.bool a4]⟩
instance {a1 a2 a3 a4 a5 a6 a7 a8 a9 Vn Vo a12 Ub Uc TC SA a17 NF NG a20 a21 a22 a23 a24 a25}:CoeDep Q (.Qh a1 a2 a3 a4 a5 a6 a7 a8 a9 Vn Vo a12 Ub Uc TC SA a17 NF NG a20 a21 a22 a23 a24 a25) (Array Value):=⟨#[.int .i64 a1,.bool a2,.int .i64 a3,.int .u16 a4,.int .u32 a5,.int .u32 a6,.slice a7 a8 a9,.bool Vn,.int .u16 Vo,.slice a12 Ub Uc,.slice TC SA a17,.int .i64 NF,.int .i64 NG,.bool a20,.bool a21,.int .u16 a22,.slice a23 a24 a25]⟩
instance {a1 a2 a3 a4 a5 a6 a7 a8 a9 Vn Vo a12 Ub Uc TC SA a17 NF NG a20 a21 a22 a23 a24 a25}:CoeDep Q (.Qh a1 a2 a3 a4 a5 a6 a7 a8 a9 Vn Vo a12 Ub Uc TC SA a17 NF NG a20 a21 a22 a23 a24 a25) (List Value):=⟨[.int .i64 a1,.bool a2,.int .i64 a3,.int .u16 a4,.int .u32 a5,.int .u32 a6,.slice a7 a8 a9,.bool Vn,.int .u16 Vo,.slice a12 Ub Uc,.slice TC SA a17,.int .i64 NF,.int .i64 NG,.bool a20,.bool a21,.int .u16 a22,.slice a23 a24 a25]⟩
instance {a1 a2 a3 a4 a5}:CoeDep Q (.Qi a1 a2 a3 a4 a5) (Array Value):=⟨#[.int .i64 a1,.int .i64 a2,.int .i64 a3,.int .i64 a4,.int .u32 a5]⟩
instance {a1 a2 a3 a4 a5}:CoeDep Q (.Qi a1 a2 a3 a4 a5) (List Value):=⟨[.int .i64 a1,.int .i64 a2,.int .i64 a3,.int .i64 a4,.int .u32 a5]⟩
instance {a1 a2 a3 a4 a5 a6}:CoeDep Q (.Qj a1 a2 a3 a4 a5 a6) (Array Value):=⟨#[.int .i64 a1,.int .i64 a2,.slice a3 a4 a5,.bool a6]⟩
instance {a1 a2 a3 a4 a5 a6}:CoeDep Q (.Qj a1 a2 a3 a4 a5 a6) (List Value):=⟨[.int .i64 a1,.int .i64 a2,.slice a3 a4 a5,.bool a6]⟩
instance {a1 a2 a3}:CoeDep Q (.Qk a1 a2 a3) (Array Value):=⟨#[.int .i64 a1,.int .i64 a2,.int .i64 a3]⟩
instance {a1 a2 a3}:CoeDep Q (.Qk a1 a2 a3) (List Value):=⟨[.int .i64 a1,.int .i64 a2,.int .i64 a3]⟩
instance {a1 a2}:CoeDep Q (.Ql a1 a2) (Array Value):=⟨#[.pointer a1,.int .i64 a2]⟩
instance {a1 a2}:CoeDep Q (.Ql a1 a2) (List Value):=⟨[.pointer a1,.int .i64 a2]⟩
instance {a1 a2 a3 a4 a5 a6 a7 a8 a9 Vn Vo a12 Ub Uc TC SA a17 NF NG a20 a21 a22 a23 a24 a25 a26 eO a28 eP eQ a31 a32}:CoeDep Q (.Qm a1 a2 a3 a4 a5 a6 a7 a8 a9 Vn Vo a12 Ub Uc TC SA a17 NF NG a20 a21 a22 a23 a24 a25 a26 eO a28 eP eQ a31 a32) (Array Value):=⟨#[.int .i64 a1,.int .i64 a2,.int .i64 a3,.int .i64 a4,.bool a5,.int .i64 a6,.int .u16 a7,.int .u32 a8,.int .u32 a9,.slice Vn Vo a12,.bool Ub,.int .u16 Uc,.slice TC SA a17,.slice NF NG a20,.int .i64 a21,.int .i64 a22,.bool a23,.bool a24,.int .u16 a25,.slice a26 eO a28,.slice eP eQ a31,.int .i64 a32]⟩
instance {a1 a2 a3 a4 a5 a6 a7 a8 a9 Vn Vo a12 Ub Uc TC SA a17 NF NG a20 a21 a22 a23 a24 a25 a26 eO a28 eP eQ a31 a32}:CoeDep Q (.Qm a1 a2 a3 a4 a5 a6 a7 a8 a9 Vn Vo a12 Ub Uc TC SA a17 NF NG a20 a21 a22 a23 a24 a25 a26 eO a28 eP eQ a31 a32) (List Value):=⟨[.int .i64 a1,.int .i64 a2,.int .i64 a3,.int .i64 a4,.bool a5,.int .i64 a6,.int .u16 a7,.int .u32 a8,.int .u32 a9,.slice Vn Vo a12,.bool Ub,.int .u16 Uc,.slice TC SA a17,.slice NF NG a20,.int .i64 a21,.int .i64 a22,.bool a23,.bool a24,.int .u16 a25,.slice a26 eO a28,.slice eP eQ a31,.int .i64 a32]⟩
instance {a1 a2}:CoeDep Q (.Qn a1 a2) (Array Value):=⟨#[.agg a1,.int .i64 a2]⟩
instance {a1 a2}:CoeDep Q (.Qn a1 a2) (List Value):=⟨[.agg a1,.int .i64 a2]⟩
instance {a1 a2 a3}:CoeDep Q (.Qo a1 a2 a3) (Array Value):=⟨#[.agg a1,.int .i64 a2,.int .i64 a3]⟩
instance {a1 a2 a3}:CoeDep Q (.Qo a1 a2 a3) (List Value):=⟨[.agg a1,.int .i64 a2,.int .i64 a3]⟩
instance {a1 a2 a3 a4 a5 a6 a7 a8 a9}:CoeDep Q (.Qp a1 a2 a3 a4 a5 a6 a7 a8 a9) (Array Value):=⟨#[.slice a1 a2 a3,.slice a4 a5 a6,.slice a7 a8 a9]⟩
instance {a1 a2 a3 a4 a5 a6 a7 a8 a9}:CoeDep Q (.Qp a1 a2 a3 a4 a5 a6 a7 a8 a9) (List Value):=⟨[.slice a1 a2 a3,.slice a4 a5 a6,.slice a7 a8 a9]⟩
instance {a1 a2 a3 a4 a5 a6 a7}:CoeDep Q (.Qq a1 a2 a3 a4 a5 a6 a7) (Array Value):=⟨#[.int .u32 a1,.int .u8 a2,.int .u32 a3,.int .u32 a4,.int .u32 a5,.int .u32 a6,.int .u32 a7]⟩
instance {a1 a2 a3 a4 a5 a6 a7}:CoeDep Q (.Qq a1 a2 a3 a4 a5 a6 a7) (List Value):=⟨[.int .u32 a1,.int .u8 a2,.int .u32 a3,.int .u32 a4,.int .u32 a5,.int .u32 a6,.int .u32 a7]⟩
instance {a1 a2 a3}:CoeDep Q (.Qs a1 a2 a3) (Array Value):=⟨#[.pointer a1,.int .i64 a2,.int .i64 a3]⟩
instance {a1 a2 a3}:CoeDep Q (.Qs a1 a2 a3) (List Value):=⟨[.pointer a1,.int .i64 a2,.int .i64 a3]⟩
instance {a1 a2 a3 a4 a5 a6 a7 a8 a9 Vn Vo a12 Ub Uc TC SA a17 NF NG a20 a21}:CoeDep Q (.Qt a1 a2 a3 a4 a5 a6 a7 a8 a9 Vn Vo a12 Ub Uc TC SA a17 NF NG a20 a21) (Array Value):=⟨#[.bool a1,.int .i64 a2,.int .u16 a3,.int .u32 a4,.int .u32 a5,.slice a6 a7 a8,.bool a9,.int .u16 Vn,.slice Vo a12 Ub,.slice Uc TC SA,.int .i64 a17,.int .i64 NF,.bool NG,.bool a20,.int .u16 a21]⟩
instance {a1 a2 a3 a4 a5 a6 a7 a8 a9 Vn Vo a12 Ub Uc TC SA a17 NF NG a20 a21}:CoeDep Q (.Qt a1 a2 a3 a4 a5 a6 a7 a8 a9 Vn Vo a12 Ub Uc TC SA a17 NF NG a20 a21) (List Value):=⟨[.bool a1,.int .i64 a2,.int .u16 a3,.int .u32 a4,.int .u32 a5,.slice a6 a7 a8,.bool a9,.int .u16 Vn,.slice Vo a12 Ub,.slice Uc TC SA,.int .i64 a17,.int .i64 NF,.bool NG,.bool a20,.int .u16 a21]⟩
instance {a1 a2 a3 a4 a5 a6 a7 a8 a9 Vn Vo a12 Ub Uc TC}:CoeDep Q (.Qu a1 a2 a3 a4 a5 a6 a7 a8 a9 Vn Vo a12 Ub Uc TC) (Array Value):=⟨#[.slice a1 a2 a3,a4,a5,a6,.int .i64 a7,.int .i64 a8,.int .i64 a9,.int .i64 Vn,.int .i64 Vo,.int .i64 a12,.int .i64 Ub,.int .i64 Uc,.pointer TC]⟩
instance {a1 a2 a3 a4 a5 a6 a7 a8 a9 Vn Vo a12 Ub Uc TC}:CoeDep Q (.Qu a1 a2 a3 a4 a5 a6 a7 a8 a9 Vn Vo a12 Ub Uc TC) (List Value):=⟨[.slice a1 a2 a3,a4,a5,a6,.int .i64 a7,.int .i64 a8,.int .i64 a9,.int .i64 Vn,.int .i64 Vo,.int .i64 a12,.int .i64 Ub,.int .i64 Uc,.pointer TC]⟩
instance {a1 a2}:CoeDep Q (.Qv a1 a2) (Array Value):=⟨#[.int .u8 a1,.int .u8 a2]⟩
instance {a1 a2}:CoeDep Q (.Qv a1 a2) (List Value):=⟨[.int .u8 a1,.int .u8 a2]⟩
instance {a1 a2}:CoeDep Q (.Qw a1 a2) (Array Value):=⟨#[.int .i64 a1,.string a2]⟩
instance {a1 a2}:CoeDep Q (.Qw a1 a2) (List Value):=⟨[.int .i64 a1,.string a2]⟩
instance {a1 a2}:CoeDep Q (.Qx a1 a2) (Array Value):=⟨#[.agg a1,.bool a2]⟩
instance {a1 a2}:CoeDep Q (.Qx a1 a2) (List Value):=⟨[.agg a1,.bool a2]⟩
instance {a1 a2 a3 a4}:CoeDep Q (.Qy a1 a2 a3 a4) (Array Value):=⟨#[.agg a1,.int .i64 a2,.int .i64 a3,.int .i64 a4]⟩
instance {a1 a2 a3 a4}:CoeDep Q (.Qy a1 a2 a3 a4) (List Value):=⟨[.agg a1,.int .i64 a2,.int .i64 a3,.int .i64 a4]⟩
instance {a1 a2}:CoeDep Q (.Qz a1 a2) (Array Value):=⟨#[.int .i64 a1,.int .i64 a2]⟩
instance {a1 a2}:CoeDep Q (.Qz a1 a2) (List Value):=⟨[.int .i64 a1,.int .i64 a2]⟩
instance {a1 a2}:CoeDep Q (.Q0 a1 a2) (Array Value):=⟨#[.int .u16 a1,.int .u16 a2]⟩
instance {a1 a2}:CoeDep Q (.Q0 a1 a2) (List Value):=⟨[.int .u16 a1,.int .u16 a2]⟩
instance {a1 a2 a3}:CoeDep Q (.Q1 a1 a2 a3) (Array Value):=⟨#[.int .i64 a1,.int .i64 a2,.bool a3]⟩
instance {a1 a2 a3}:CoeDep Q (.Q1 a1 a2 a3) (List Value):=⟨[.int .i64 a1,.int .i64 a2,.bool a3]⟩
instance {a1 a2 a3}:CoeDep Q (.Q3 a1 a2 a3) (Array Value):=⟨#[.pointer a1,.agg a2,.int .i64 a3]⟩
instance {a1 a2 a3}:CoeDep Q (.Q3 a1 a2 a3) (List Value):=⟨[.pointer a1,.agg a2,.int .i64 a3]⟩
instance {a1 a2 a3 a4}:CoeDep Q (.Q4 a1 a2 a3 a4) (Array Value):=⟨#[.slice a1 a2 a3,.int .i64 a4]⟩
instance {a1 a2 a3 a4}:CoeDep Q (.Q4 a1 a2 a3 a4) (List Value):=⟨[.slice a1 a2 a3,.int .i64 a4]⟩
instance {a1 a2 a3 a4 a5 a6 a7 a8}:CoeDep Q (.Q5 a1 a2 a3 a4 a5 a6 a7 a8) (Array Value):=⟨#[.int .i64 a1,.int .i64 a2,.int .i64 a3,.int .i64 a4,.int .i64 a5,.int .i64 a6,.int .i64 a7,.int .i64 a8]⟩
instance {a1 a2 a3 a4 a5 a6 a7 a8}:CoeDep Q (.Q5 a1 a2 a3 a4 a5 a6 a7 a8) (List Value):=⟨[.int .i64 a1,.int .i64 a2,.int .i64 a3,.int .i64 a4,.int .i64 a5,.int .i64 a6,.int .i64 a7,.int .i64 a8]⟩
instance {a1 a2 a3}:CoeDep Q (.Q6 a1 a2 a3) (Array Value):=⟨#[.int .i64 a1,.int .i64 a2,a3]⟩
instance {a1 a2 a3}:CoeDep Q (.Q6 a1 a2 a3) (List Value):=⟨[.int .i64 a1,.int .i64 a2,a3]⟩
instance {a1 a2}:CoeDep Q (.Q7 a1 a2) (Array Value):=⟨#[.int .i64 a1,.bool a2]⟩
instance {a1 a2}:CoeDep Q (.Q7 a1 a2) (List Value):=⟨[.int .i64 a1,.bool a2]⟩
instance {a1 a2 a3}:CoeDep Q (.Q8 a1 a2 a3) (Array Value):=⟨#[.pointer a1,.int .i64 a2,.int .u32 a3]⟩
instance {a1 a2 a3}:CoeDep Q (.Q8 a1 a2 a3) (List Value):=⟨[.pointer a1,.int .i64 a2,.int .u32 a3]⟩
instance {a1 a2 a3}:CoeDep Q (.Q9 a1 a2 a3) (Array Value):=⟨#[.pointer a1,.agg a2,.agg a3]⟩
instance {a1 a2 a3}:CoeDep Q (.Q9 a1 a2 a3) (List Value):=⟨[.pointer a1,.agg a2,.agg a3]⟩
instance {a1 a2 a3 a4 a5 a6 a7 a8 a9 Vn Vo a12 Ub Uc}:CoeDep Q (.Ja a1 a2 a3 a4 a5 a6 a7 a8 a9 Vn Vo a12 Ub Uc) (Array Value):=⟨#[.int .i64 a1,.int .u32 a2,.int .u64 a3,.int .u32 a4,.int .u32 a5,.int .u32 a6,a7,.slice a8 a9 Vn,.int .u32 Vo,.slice a12 Ub Uc]⟩
instance {a1 a2 a3 a4 a5 a6 a7 a8 a9 Vn Vo a12 Ub Uc}:CoeDep Q (.Ja a1 a2 a3 a4 a5 a6 a7 a8 a9 Vn Vo a12 Ub Uc) (List Value):=⟨[.int .i64 a1,.int .u32 a2,.int .u64 a3,.int .u32 a4,.int .u32 a5,.int .u32 a6,a7,.slice a8 a9 Vn,.int .u32 Vo,.slice a12 Ub Uc]⟩
instance {a1 a2 a3 a4 a5 a6 a7 a8 a9 Vn Vo a12 Ub Uc TC SA a17 NF NG a20 a21}:CoeDep Q (.Jb a1 a2 a3 a4 a5 a6 a7 a8 a9 Vn Vo a12 Ub Uc TC SA a17 NF NG a20 a21) (Array Value):=⟨#[.slice a1 a2 a3,.slice a4 a5 a6,.slice a7 a8 a9,.slice Vn Vo a12,.int .i64 Ub,.int .i64 Uc,.int .i64 TC,.int .i64 SA,.int .i64 a17,.int .i64 NF,.int .i64 NG,.int .i64 a20,.pointer a21]⟩
instance {a1 a2 a3 a4 a5 a6 a7 a8 a9 Vn Vo a12 Ub Uc TC SA a17 NF NG a20 a21}:CoeDep Q (.Jb a1 a2 a3 a4 a5 a6 a7 a8 a9 Vn Vo a12 Ub Uc TC SA a17 NF NG a20 a21) (List Value):=⟨[.slice a1 a2 a3,.slice a4 a5 a6,.slice a7 a8 a9,.slice Vn Vo a12,.int .i64 Ub,.int .i64 Uc,.int .i64 TC,.int .i64 SA,.int .i64 a17,.int .i64 NF,.int .i64 NG,.int .i64 a20,.pointer a21]⟩
instance {a1 a2}:CoeDep Q (.Jc a1 a2) (Array Value):=⟨#[.pointer a1,.int .u32 a2]⟩
instance {a1 a2}:CoeDep Q (.Jc a1 a2) (List Value):=⟨[.pointer a1,.int .u32 a2]⟩
instance {a1 a2 a3}:CoeDep Q (.Jd a1 a2 a3) (Array Value):=⟨#[.pointer a1,.int .i64 a2,.bool a3]⟩
instance {a1 a2 a3}:CoeDep Q (.Jd a1 a2 a3) (List Value):=⟨[.pointer a1,.int .i64 a2,.bool a3]⟩
instance {a1 a2}:CoeDep Q (.Je a1 a2) (Array Value):=⟨#[.int .u64 a1,.bool a2]⟩
instance {a1 a2}:CoeDep Q (.Je a1 a2) (List Value):=⟨[.int .u64 a1,.bool a2]⟩
instance {a1 a2 a3 a4 a5}:CoeDep Q (.Jf a1 a2 a3 a4 a5) (Array Value):=⟨#[.bool a1,.int .i64 a2,.int .i64 a3,a4,.bool a5]⟩
instance {a1 a2 a3 a4 a5}:CoeDep Q (.Jf a1 a2 a3 a4 a5) (List Value):=⟨[.bool a1,.int .i64 a2,.int .i64 a3,a4,.bool a5]⟩
instance {a1 a2 a3}:CoeDep Q (.Jg a1 a2 a3) (Array Value):=⟨#[.pointer a1,.int .i64 a2,.agg a3]⟩
instance {a1 a2 a3}:CoeDep Q (.Jg a1 a2 a3) (List Value):=⟨[.pointer a1,.int .i64 a2,.agg a3]⟩
instance {a1 a2 a3}:CoeDep Q (.Jh a1 a2 a3) (Array Value):=⟨#[.agg a1,.agg a2,.int .i64 a3]⟩
instance {a1 a2 a3}:CoeDep Q (.Jh a1 a2 a3) (List Value):=⟨[.agg a1,.agg a2,.int .i64 a3]⟩
instance:Coe World Nat:=⟨fun w=>w.heap.size⟩
theorem Zh {p:Prop} (h:p):RowKit.Hid p:=h
theorem Zk {p:Prop} (h:p:=by kernel_rfl):p:=h
theorem Zo {p:Prop} (h:p:=by omega):p:=h
theorem Zr {p:Prop} (h:p:=by rfl):p:=h
theorem Zn {p:Prop} (h:p:=by go_num):p:=h
theorem Zd {p:Prop} (h:p:=by decide):p:=h
theorem Zi {p:Prop} (h:p:=by simp):p:=h
theorem RowKit.Hid.o {p:Prop} (h:RowKit.Hid p):p:=h
theorem Zc {w:World} {b:Nat} {cs:Array Value} {e:TypeId} {v:Value} (h:w.heap[b]? = some (.cells cs e)) (j:Nat) (hv:cs[j]? = some v):w.cell? ⟨b, j, none⟩ = some v := by simp only [World.cell?, h]; exact hv
section
variable {P:Program} {ops:Array Oper} {rest:List Oper} {o:Oper} {a:Act} {w:World} {Q':Exit → Act → World → Prop}
theorem Zs {ty:TypeId} {x y:Operand} {g:Nat} {cells:Array Value} {t:TypeId} {old:Array Value} (hg:w.heap[g]? = some (.cells old t (0, 0))) (h:wpList P ops Q' rest a (w.setRow g cells)) (Ld:o.guard = none := by rfl) (ho:o.op = .store ty x y := by rfl) (hd:o.dst = none := by rfl) (hx:a.eval x = .pointer (some ⟨g, 0, none⟩) := by first|rfl|with_unfolding_all rfl) (hy:a.eval y = .agg cells := by first|rfl|with_unfolding_all rfl) (hi:(P.info? ty).map (·.size) = some cells.size := by kernel_rfl) (hold:old.size = cells.size := by kernel_rfl) (h1:cells.all (·.oneCell') = true := by kernel_rfl):wpList P ops Q' (o :: rest) a w := wpList_store_row Ld ty x y ho g cells hx hy t old hg hi hold h1 (by rw [hd]; exact h)
theorem Zl {ty:TypeId} {x:Operand} {g:Nat} {t:TypeId} {cs:Array Value} {fr:Nat × Nat} {d:TypeDesc} (hg:w.heap[g]? = some (.cells cs t fr)) (hu:P.underlying ty = some d) (h:wpList P ops Q' rest (a.put o.dst (.agg cs)) w) (Ld:o.guard = none := by rfl) (ho:o.op = .load ty x := by rfl) (hx:a.eval x = .pointer (some ⟨g, 0, none⟩) := by first|rfl|with_unfolding_all rfl) (hd:(match d with | .struct _ | .array _ _ => true | _ => false) = true := by rfl) (hi:(P.info? ty).map (·.size) = some cs.size := by kernel_rfl):wpList P ops Q' (o :: rest) a w := wpList_load_row Ld ty x ho g hx t cs fr d hg hu hd hi h
theorem Zm {ty:TypeId} {x:Operand} {b i:Nat} {cs:List Value} {d:TypeDesc} (hc:w.rangeAt b i cs) (hu:P.underlying ty = some d) (h:wpList P ops Q' rest (a.put o.dst (.agg cs.toArray)) w) (Ld:o.guard = none := by rfl) (ho:o.op = .load ty x := by rfl) (hx:a.eval x = .pointer (some ⟨b, i, none⟩) := by first|rfl|with_unfolding_all rfl) (hd:d.isRow = true := by rfl) (hi:(P.info? ty).map (·.size) = some cs.length := by kernel_rfl):wpList P ops Q' (o :: rest) a w := wpList_load_mid Ld ty x ho b i hx cs d hc hu hd hi h
end
abbrev ZB:=@Nat.le_refl
abbrev Z6:=@if_neg
abbrev VQ:=@List.getElem?_eq_getElem
abbrev WT:=@beq_eq_false_iff_ne
abbrev Xf:=@Int.toNat_natCast
abbrev ZX:=@if_pos
abbrev YG:=@Below.refl
abbrev WN:=@decide_eq_false
abbrev Sq:=@List.getD_eq_getElem?_getD
abbrev Ws:=@decide_eq_true
abbrev R8:=@List.getElem?_cons_zero
abbrev RT:=@List.getElem?_cons_succ
abbrev Us:=@World.ownsRow_nil
abbrev Rn:=@Int.eq_ofNat_of_zero_le
abbrev R9:=@List.getElem?_toArray
abbrev VR:=@bodyPost_ret
abbrev Ui:=@Bool.and_eq_true
abbrev UM:=@List.length_map
abbrev SP:=@List.length_append
abbrev TU:=@List.length_take
abbrev Ua:=@IntWalk.i64_in
abbrev QL:=@List.flatMap_append
abbrev RU:=@List.length_drop
abbrev QN:=@wp_region_noPanic
abbrev Px:=@Nat.lt_of_lt_of_le
abbrev Gt:=@Array.getElem?_eq_none
abbrev Rg:=@Array.size_push
abbrev Pw:=@List.getElem_mem
abbrev Hk:=@RowKit.Below.heap_setCell
abbrev DM:=@List.eq_nil_of_length_eq_zero
abbrev TS:=@Nat.zero_le
abbrev NB:=@decide_eq_true_eq
abbrev I8:=@List.take_of_length_le
abbrev Py:=@NoPanic.normal
abbrev NC:=@IntKind.wrap_u32
abbrev Rh:=@Nat.le_trans
abbrev ND:=@List.map_append
abbrev TF:=@bne_iff_ne
abbrev Ls:=@Bool.eq_false_iff
abbrev KF:=@List.nil_append
abbrev I9:=@List.mem_singleton
abbrev OD:=@Nat.zero_add
abbrev Wj:=@Or.inr
abbrev KG:=@List.mem_cons
abbrev Wc:=@Or.inl
abbrev um:=@World.cell?_setCell_same
abbrev yF:=@Int.natCast_nonneg
abbrev De:=@List.mem_append
abbrev Df:=@List.append_nil
abbrev JK:=@Nat.le_succ
abbrev Aq:=@List.range_succ
abbrev Gs:=@Int.ofNat_lt
abbrev qX:=@List.take_length
abbrev yG:=@List.mem_map
abbrev pL:=@List.append_assoc
abbrev bz:=@List.getElem?_append_right
abbrev lq:=@List.mem_filter
abbrev lu:=@Nat.le_of_lt
end Go
