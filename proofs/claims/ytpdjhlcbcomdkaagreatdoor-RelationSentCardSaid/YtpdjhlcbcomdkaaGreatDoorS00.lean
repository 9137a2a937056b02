import Derived.Below
import Derived.BigQuiet
import Derived.Carry
import Derived.ChangeArms
import Derived.ChangeSame
import Derived.ChangeSlices
import Derived.Deep.CutBlock
import Derived.Deep.DeepCutAuto
import Derived.Deep.Light
import Derived.Deep.MidRow
import Derived.Deep.QuietTactic
import Derived.Deep.RegionHeld3
import Derived.Deep.RegionLaw
import Derived.Deep.RegionLawGrows
import Derived.Deep.Slices
import Derived.Great.BuildSlice
import Derived.IntWalk
import Derived.Laws.AppendOwn
import Derived.Laws.AppendOwnNone
import Derived.Laws.BitsAllLaws
import Derived.Laws.BytesString
import Derived.Laws.Cells
import Derived.Laws.IdiomStrings
import Derived.Laws.MakeOwn
import Derived.Laws.OwnMore
import Derived.Laws.RangeAny
import Derived.Laws.ResultCell
import Derived.Laws.Rows
import Derived.Laws.Slices
import Derived.Laws.StructEq
import Derived.Laws.Tables
import Derived.Lib.ConvBytes
import Derived.Lib.Hide
import Derived.Lib.IndexBytes
import Derived.Lib.MapLaws
import Derived.Lib.RuneCount
import Derived.Lib.ValidLaws
import Derived.Lib.Walk
import Derived.LoopTactic
import Derived.Maps.OwnSet
import Derived.OpenShut
import Derived.OwnWalk
import Derived.ProofKit
import Derived.Shelf.GgClosure.Gives
import Derived.SizedLaws
import Derived.StillTailTactics
import Derived.WalkKit
import Derived.WalkSpells
import Derived.WideKeyArgs
import Derived.WideKeyPair
import GoSem.Core.Value
set_option linter.all false
set_option autoImplicit true
namespace Go
open RowKit
/-- A row of cells by its letters. -/
inductive Q
 | Qa (a b c d:Int) (e:ByteArray) (f:Option Addr) (g h:Nat) (i:Option Addr) (j k:Nat)
 | Qb (a b c d:Int)
 | Qc (a:Bool) (b c d e:Int) (f:Option Addr) (g h:Nat) (i:Bool) (j:Int) (k:Option Addr) (l m:Nat) (n:Option Addr) (o p:Nat) (q:Int)
 | Qd (a:Int) (b c:Bool) (d:Int)
 | Qe (a b c d e f:Int) (g:Option Addr) (h i:Nat) (j:Option Addr) (k l:Nat) (m:Int) (n:Option Addr) (o p:Nat)
 | Qf (a b:Int) (c d:Bool)
 | Qg (a:Bool) (b c d e:Int) (f:Option Addr) (g h:Nat) (i:Bool) (j:Int) (k:Option Addr) (l m:Nat) (n:Option Addr) (o p:Nat) (q r:Int) (s t:Bool) (u:Int)
 | Qh (a b c d e:Int)
 | Qi (a:Option Addr) (b:Array Value)
 | Qj (a:Int) (b:Bool) (c d e f:Int) (g:Option Addr) (h i:Nat) (j:Bool) (k:Int) (l:Option Addr) (m n:Nat) (o:Option Addr) (p q:Nat) (r s:Int) (t u:Bool) (v:Int) (w:Option Addr) (x y:Nat)
 | Qk (a:Option Addr) (b:Int)
 | Ql (a b c:Int) (d:Bool)
 | Qm (a b c d:Int) (e:Bool) (f g h i:Int) (j:Option Addr) (k l:Nat) (m:Bool) (n:Int) (o:Option Addr) (p q:Nat) (r:Option Addr) (s t:Nat) (u v:Int) (w x:Bool) (y:Int) (z:Option Addr) (a1 a2:Nat) (a3:Option Addr) (a4 a5:Nat) (a6:Int)
 | Qn (a b c:Int)
 | Qo (a:Array Value) (b:Int)
 | Qp (a b c d e:Int) (f:Bool)
 | Qq (a b:Int) (c:Option Addr) (d e:Nat) (f:Bool)
 | Qs (a:Array Value) (b c:Int)
 | Qt (a b c d e f g:Int)
 | Qu (a:Option Addr) (b:Array Value) (c:Int)
 | Qv (a:Option Addr) (b c:Int)
 | Qw (a b:Int)
 | Qx (a:Option Addr) (b c:Nat) (d e f:Value) (g h i j k l m n:Int) (o:Option Addr)
 | Qy (a:Option Addr) (b c:Nat) (d e f:Int)
 | Qz (a b:Int)
 | Q0 (a:Array Value) (b c d:Int)
 | Q4 (a:Array Value) (b:Bool)
 | Q5 (a b:Int)
 | Q6 (a:Int) (b:ByteArray)
 | Q7 (a b:Int) (c:Bool)
 | Q8 (a:Option Addr) (b c d e:Int) (f g h:Value)
 | Q9 (a b c d:Int)
 | Ja (a:Option Addr) (b c:Nat) (d:Int)
 | Jb (a b:Int) (c:Value)
 | Jc (a:Int) (b:Bool)
 | Jd (a:Option Addr) (b c:Int)
 | Je (a:Option Addr) (b c:Array Value)
 | Jf (a b c d e f:Int) (g:Value) (h:Option Addr) (i j:Nat) (k:Int) (l:Option Addr) (m n:Nat)
 | Jg (a:Option Addr) (b c:Nat) (d e f:Value)
 | Jh (a:Option Addr) (b c:Nat) (d:Option Addr) (e f:Nat) (g:Option Addr) (h i:Nat)
 | Ji (a:Option Addr) (b c:Nat) (d:Option Addr) (e f:Nat) (g:Option Addr) (h i:Nat) (j:Option Addr) (k l:Nat) (m n o p q r s t:Int) (u:Option Addr)
 | Jj (a:Option Addr) (b c:Nat) (d:Array Value)
 | Jk (a:Option Addr) (b:Int)
 | Jl (a:Option Addr) (b:Int) (c:Bool)
 | Jm (a:Option Addr) (b:Int) (c:Array Value)
 | Jn (a:Option Addr) (b c d e:Int) (f:Option Addr) (g h:Nat) (i:Option Addr) (j k:Nat) (l:Option Addr) (m n:Nat)
 | Jo (a:Int) (b:Bool)
 | Jp (a:Bool) (b c:Int) (d:Value) (e:Bool)
 | Jq (a b:Array Value) (c:Int)
instance:CoeDep Q (.Qa a b c d e f g h i j k) (Array Value):=⟨#[.int .i64 a,.int .i64 b,.int .i64 c,.int .i64 d,.string e,.slice f g h,.slice i j k]⟩
instance:CoeDep Q (.Qa a b c d e f g h i j k) (List Value):=⟨[.int .i64 a,.int .i64 b,.int .i64 c,.int .i64 d,.string e,.slice f g h,.slice i j k]⟩
instance:CoeDep Q (.Qb a b c d) (Array Value):=⟨#[.int .i64 a,.int .i64 b,.int .i64 c,.int .i64 d]⟩
instance:CoeDep Q (.Qb a b c d) (List Value):=⟨[.int .i64 a,.int .i64 b,.int .i64 c,.int .i64 d]⟩
instance:CoeDep Q (.Qc a b c d e f g h i j k l m n o p q) (Array Value):=⟨#[.bool a,.int .i64 b,.int .u16 c,.int .u32 d,.int .u32 e,.slice f g h,.bool i,.int .u16 j,.slice k l m,.slice n o p,.int .i64 q]⟩
instance:CoeDep Q (.Qc a b c d e f g h i j k l m n o p q) (List Value):=⟨[.bool a,.int .i64 b,.int .u16 c,.int .u32 d,.int .u32 e,.slice f g h,.bool i,.int .u16 j,.slice k l m,.slice n o p,.int .i64 q]⟩
instance:CoeDep Q (.Qd a b c d) (Array Value):=⟨#[.int .i64 a,.bool b,.bool c,.int .u16 d]⟩
instance:CoeDep Q (.Qd a b c d) (List Value):=⟨[.int .i64 a,.bool b,.bool c,.int .u16 d]⟩
instance:CoeDep Q (.Qe a b c d e f g h i j k l m n o p) (Array Value):=⟨#[.int .i64 a,.int .u32 b,.int .u64 c,.int .u32 d,.int .u32 e,.int .u32 f,.slice g h i,.slice j k l,.int .u32 m,.slice n o p]⟩
instance:CoeDep Q (.Qe a b c d e f g h i j k l m n o p) (List Value):=⟨[.int .i64 a,.int .u32 b,.int .u64 c,.int .u32 d,.int .u32 e,.int .u32 f,.slice g h i,.slice j k l,.int .u32 m,.slice n o p]⟩
instance:CoeDep Q (.Qf a b c d) (Array Value):=⟨#[.int .i64 a,.int .i64 b,.bool c,.bool d]⟩
instance:CoeDep Q (.Qf a b c d) (List Value):=⟨[.int .i64 a,.int .i64 b,.bool c,.bool d]⟩
instance:CoeDep Q (.Qg a b c d e f g h i j k l m n o p q r s t u) (Array Value):=⟨#[.bool a,.int .i64 b,.int .u16 c,.int .u32 d,.int .u32 e,.slice f g h,.bool i,.int .u16 j,.slice k l m,.slice n o p,.int .i64 q,.int .i64 r,.bool s,.bool t,.int .u16 u]⟩
instance:CoeDep Q (.Qg a b c d e f g h i j k l m n o p q r s t u) (List Value):=⟨[.bool a,.int .i64 b,.int .u16 c,.int .u32 d,.int .u32 e,.slice f g h,.bool i,.int .u16 j,.slice k l m,.slice n o p,.int .i64 q,.int .i64 r,.bool s,.bool t,.int .u16 u]⟩
instance:CoeDep Q (.Qh a b c d e) (Array Value):=⟨#[.int .i64 a,.int .i64 b,.int .i64 c,.int .i64 d,.int .u32 e]⟩
instance:CoeDep Q (.Qh a b c d e) (List Value):=⟨[.int .i64 a,.int .i64 b,.int .i64 c,.int .i64 d,.int .u32 e]⟩
instance:CoeDep Q (.Qi a b) (Array Value):=⟨#[.pointer a,.agg b]⟩
instance:CoeDep Q (.Qi a b) (List Value):=⟨[.pointer a,.agg b]⟩
instance:CoeDep Q (.Qj a b c d e f g h i j k l m n o p q r s t u v w x y) (Array Value):=⟨#[.int .i64 a,.bool b,.int .i64 c,.int .u16 d,.int .u32 e,.int .u32 f,.slice g h i,.bool j,.int .u16 k,.slice l m n,.slice o p q,.int .i64 r,.int .i64 s,.bool t,.bool u,.int .u16 v,.slice w x y]⟩
instance:CoeDep Q (.Qj a b c d e f g h i j k l m n o p q r s t u v w x y) (List Value):=⟨[.int .i64 a,.bool b,.int .i64 c,.int .u16 d,.int .u32 e,.int .u32 f,.slice g h i,.bool j,.int .u16 k,.slice l m n,.slice o p q,.int .i64 r,.int .i64 s,.bool t,.bool u,.int .u16 v,.slice w x y]⟩
instance:CoeDep Q (.Qk a b) (Array Value):=⟨#[.pointer a,.int .i64 b]⟩
instance:CoeDep Q (.Qk a b) (List Value):=⟨[.pointer a,.int .i64 b]⟩
instance:CoeDep Q (.Ql a b c d) (Array Value):=⟨#[.int .i64 a,.int .i64 b,.int .i64 c,.bool d]⟩
instance:CoeDep Q (.Ql a b c d) (List Value):=⟨[.int .i64 a,.int .i64 b,.int .i64 c,.bool d]⟩
instance:CoeDep Q (.Qm a b c d e f g h i j k l m n o p q r s t u v w x y z a1 a2 a3 a4 a5 a6) (Array Value):=⟨#[.int .i64 a,.int .i64 b,.int .i64 c,.int .i64 d,.bool e,.int .i64 f,.int .u16 g,.int .u32 h,.int .u32 i,.slice j k l,.bool m,.int .u16 n,.slice o p q,.slice r s t,.int .i64 u,.int .i64 v,.bool w,.bool x,.int .u16 y,.slice z a1 a2,.slice a3 a4 a5,.int .i64 a6]⟩
instance:CoeDep Q (.Qm a b c d e f g h i j k l m n o p q r s t u v w x y z a1 a2 a3 a4 a5 a6) (List Value):=⟨[.int .i64 a,.int .i64 b,.int .i64 c,.int .i64 d,.bool e,.int .i64 f,.int .u16 g,.int .u32 h,.int .u32 i,.slice j k l,.bool m,.int .u16 n,.slice o p q,.slice r s t,.int .i64 u,.int .i64 v,.bool w,.bool x,.int .u16 y,.slice z a1 a2,.slice a3 a4 a5,.int .i64 a6]⟩
instance:CoeDep Q (.Qn a b c) (Array Value):=⟨#[.int .i64 a,.int .i64 b,.int .i64 c]⟩
instance:CoeDep Q (.Qn a b c) (List Value):=⟨[.int .i64 a,.int .i64 b,.int .i64 c]⟩
instance:CoeDep Q (.Qo a b) (Array Value):=⟨#[.agg a,.int .i64 b]⟩
instance:CoeDep Q (.Qo a b) (List Value):=⟨[.agg a,.int .i64 b]⟩
instance:CoeDep Q (.Qp a b c d e f) (Array Value):=⟨#[.int .i64 a,.int .u16 b,.int .u32 c,.int .u32 d,.int .u16 e,.bool f]⟩
instance:CoeDep Q (.Qp a b c d e f) (List Value):=⟨[.int .i64 a,.int .u16 b,.int .u32 c,.int .u32 d,.int .u16 e,.bool f]⟩
instance:CoeDep Q (.Qq a b c d e f) (Array Value):=⟨#[.int .i64 a,.int .i64 b,.slice c d e,.bool f]⟩
instance:CoeDep Q (.Qq a b c d e f) (List Value):=⟨[.int .i64 a,.int .i64 b,.slice c d e,.bool f]⟩
instance:CoeDep Q (.Qs a b c) (Array Value):=⟨#[.agg a,.int .i64 b,.int .i64 c]⟩
instance:CoeDep Q (.Qs a b c) (List Value):=⟨[.agg a,.int .i64 b,.int .i64 c]⟩
instance:CoeDep Q (.Qt a b c d e f g) (Array Value):=⟨#[.int .u32 a,.int .u8 b,.int .u32 c,.int .u32 d,.int .u32 e,.int .u32 f,.int .u32 g]⟩
instance:CoeDep Q (.Qt a b c d e f g) (List Value):=⟨[.int .u32 a,.int .u8 b,.int .u32 c,.int .u32 d,.int .u32 e,.int .u32 f,.int .u32 g]⟩
instance:CoeDep Q (.Qu a b c) (Array Value):=⟨#[.pointer a,.agg b,.int .i64 c]⟩
instance:CoeDep Q (.Qu a b c) (List Value):=⟨[.pointer a,.agg b,.int .i64 c]⟩
instance:CoeDep Q (.Qv a b c) (Array Value):=⟨#[.pointer a,.int .i64 b,.int .i64 c]⟩
instance:CoeDep Q (.Qv a b c) (List Value):=⟨[.pointer a,.int .i64 b,.int .i64 c]⟩
instance:CoeDep Q (.Qw a b) (Array Value):=⟨#[.int .u8 a,.int .u8 b]⟩
instance:CoeDep Q (.Qw a b) (List Value):=⟨[.int .u8 a,.int .u8 b]⟩
instance:CoeDep Q (.Qx a b c d e f g h i j k l m n o) (Array Value):=⟨#[.slice a b c,d,e,f,.int .i64 g,.int .i64 h,.int .i64 i,.int .i64 j,.int .i64 k,.int .i64 l,.int .i64 m,.int .i64 n,.pointer o]⟩
instance:CoeDep Q (.Qx a b c d e f g h i j k l m n o) (List Value):=⟨[.slice a b c,d,e,f,.int .i64 g,.int .i64 h,.int .i64 i,.int .i64 j,.int .i64 k,.int .i64 l,.int .i64 m,.int .i64 n,.pointer o]⟩
instance:CoeDep Q (.Qy a b c d e f) (Array Value):=⟨#[.slice a b c,.int .i64 d,.int .u32 e,.int .u16 f]⟩
instance:CoeDep Q (.Qy a b c d e f) (List Value):=⟨[.slice a b c,.int .i64 d,.int .u32 e,.int .u16 f]⟩
instance:CoeDep Q (.Qz a b) (Array Value):=⟨#[.int .u16 a,.int .u16 b]⟩
instance:CoeDep Q (.Qz a b) (List Value):=⟨[.int .u16 a,.int .u16 b]⟩
instance:CoeDep Q (.Q0 a b c d) (Array Value):=⟨#[.agg a,.int .i64 b,.int .i64 c,.int .i64 d]⟩
instance:CoeDep Q (.Q0 a b c d) (List Value):=⟨[.agg a,.int .i64 b,.int .i64 c,.int .i64 d]⟩
instance:CoeDep Q (.Q4 a b) (Array Value):=⟨#[.agg a,.bool b]⟩
instance:CoeDep Q (.Q4 a b) (List Value):=⟨[.agg a,.bool b]⟩
instance:CoeDep Q (.Q5 a b) (Array Value):=⟨#[.int .i64 a,.int .i64 b]⟩
instance:CoeDep Q (.Q5 a b) (List Value):=⟨[.int .i64 a,.int .i64 b]⟩
instance:CoeDep Q (.Q6 a b) (Array Value):=⟨#[.int .i64 a,.string b]⟩
instance:CoeDep Q (.Q6 a b) (List Value):=⟨[.int .i64 a,.string b]⟩
instance:CoeDep Q (.Q7 a b c) (Array Value):=⟨#[.int .i64 a,.int .i64 b,.bool c]⟩
instance:CoeDep Q (.Q7 a b c) (List Value):=⟨[.int .i64 a,.int .i64 b,.bool c]⟩
instance:CoeDep Q (.Q8 a b c d e f g h) (Array Value):=⟨#[.pointer a,.int .i64 b,.int .i64 c,.int .i64 d,.int .i64 e,f,g,h]⟩
instance:CoeDep Q (.Q8 a b c d e f g h) (List Value):=⟨[.pointer a,.int .i64 b,.int .i64 c,.int .i64 d,.int .i64 e,f,g,h]⟩
instance:CoeDep Q (.Q9 a b c d) (Array Value):=⟨#[.int .u16 a,.int .u32 b,.int .u32 c,.int .u16 d]⟩
instance:CoeDep Q (.Q9 a b c d) (List Value):=⟨[.int .u16 a,.int .u32 b,.int .u32 c,.int .u16 d]⟩
instance:CoeDep Q (.Ja a b c d) (Array Value):=⟨#[.slice a b c,.int .i64 d]⟩
instance:CoeDep Q (.Ja a b c d) (List Value):=⟨[.slice a b c,.int .i64 d]⟩
instance:CoeDep Q (.Jb a b c) (Array Value):=⟨#[.int .i64 a,.int .i64 b,c]⟩
instance:CoeDep Q (.Jb a b c) (List Value):=⟨[.int .i64 a,.int .i64 b,c]⟩
instance:CoeDep Q (.Jc a b) (Array Value):=⟨#[.int .i64 a,.bool b]⟩
instance:CoeDep Q (.Jc a b) (List Value):=⟨[.int .i64 a,.bool b]⟩
instance:CoeDep Q (.Jd a b c) (Array Value):=⟨#[.pointer a,.int .i64 b,.int .u32 c]⟩
instance:CoeDep Q (.Jd a b c) (List Value):=⟨[.pointer a,.int .i64 b,.int .u32 c]⟩
instance:CoeDep Q (.Je a b c) (Array Value):=⟨#[.pointer a,.agg b,.agg c]⟩
instance:CoeDep Q (.Je a b c) (List Value):=⟨[.pointer a,.agg b,.agg c]⟩
instance:CoeDep Q (.Jf a b c d e f g h i j k l m n) (Array Value):=⟨#[.int .i64 a,.int .u32 b,.int .u64 c,.int .u32 d,.int .u32 e,.int .u32 f,g,.slice h i j,.int .u32 k,.slice l m n]⟩
instance:CoeDep Q (.Jf a b c d e f g h i j k l m n) (List Value):=⟨[.int .i64 a,.int .u32 b,.int .u64 c,.int .u32 d,.int .u32 e,.int .u32 f,g,.slice h i j,.int .u32 k,.slice l m n]⟩
instance:CoeDep Q (.Jg a b c d e f) (Array Value):=⟨#[.slice a b c,d,e,f]⟩
instance:CoeDep Q (.Jg a b c d e f) (List Value):=⟨[.slice a b c,d,e,f]⟩
instance:CoeDep Q (.Jh a b c d e f g h i) (Array Value):=⟨#[.slice a b c,.slice d e f,.slice g h i]⟩
instance:CoeDep Q (.Jh a b c d e f g h i) (List Value):=⟨[.slice a b c,.slice d e f,.slice g h i]⟩
instance:CoeDep Q (.Ji a b c d e f g h i j k l m n o p q r s t u) (Array Value):=⟨#[.slice a b c,.slice d e f,.slice g h i,.slice j k l,.int .i64 m,.int .i64 n,.int .i64 o,.int .i64 p,.int .i64 q,.int .i64 r,.int .i64 s,.int .i64 t,.pointer u]⟩
instance:CoeDep Q (.Ji a b c d e f g h i j k l m n o p q r s t u) (List Value):=⟨[.slice a b c,.slice d e f,.slice g h i,.slice j k l,.int .i64 m,.int .i64 n,.int .i64 o,.int .i64 p,.int .i64 q,.int .i64 r,.int .i64 s,.int .i64 t,.pointer u]⟩
instance:CoeDep Q (.Jj a b c d) (Array Value):=⟨#[.slice a b c,.agg d]⟩
instance:CoeDep Q (.Jj a b c d) (List Value):=⟨[.slice a b c,.agg d]⟩
instance:CoeDep Q (.Jk a b) (Array Value):=⟨#[.pointer a,.int .u32 b]⟩
instance:CoeDep Q (.Jk a b) (List Value):=⟨[.pointer a,.int .u32 b]⟩
instance:CoeDep Q (.Jl a b c) (Array Value):=⟨#[.pointer a,.int .i64 b,.bool c]⟩
instance:CoeDep Q (.Jl a b c) (List Value):=⟨[.pointer a,.int .i64 b,.bool c]⟩
instance:CoeDep Q (.Jm a b c) (Array Value):=⟨#[.pointer a,.int .i64 b,.agg c]⟩
instance:CoeDep Q (.Jm a b c) (List Value):=⟨[.pointer a,.int .i64 b,.agg c]⟩
instance:CoeDep Q (.Jn a b c d e f g h i j k l m n) (Array Value):=⟨#[.pointer a,.int .i64 b,.int .i64 c,.int .i64 d,.int .i64 e,.slice f g h,.slice i j k,.slice l m n]⟩
instance:CoeDep Q (.Jn a b c d e f g h i j k l m n) (List Value):=⟨[.pointer a,.int .i64 b,.int .i64 c,.int .i64 d,.int .i64 e,.slice f g h,.slice i j k,.slice l m n]⟩
instance:CoeDep Q (.Jo a b) (Array Value):=⟨#[.int .u64 a,.bool b]⟩
instance:CoeDep Q (.Jo a b) (List Value):=⟨[.int .u64 a,.bool b]⟩
instance:CoeDep Q (.Jp a b c d e) (Array Value):=⟨#[.bool a,.int .i64 b,.int .i64 c,d,.bool e]⟩
instance:CoeDep Q (.Jp a b c d e) (List Value):=⟨[.bool a,.int .i64 b,.int .i64 c,d,.bool e]⟩
instance:CoeDep Q (.Jq a b c) (Array Value):=⟨#[.agg a,.agg b,.int .i64 c]⟩
instance:CoeDep Q (.Jq a b c) (List Value):=⟨[.agg a,.agg b,.int .i64 c]⟩
instance:Coe World Nat:=⟨fun w=>w.heap.size⟩
def Zh{p:Prop}(h:p):RowKit.Hid p:=h
def Zk{p:Prop}(h:p:=by kernel_rfl):p:=h
def Zo{p:Prop}(h:p:=by omega):p:=h
def Zr{p:Prop}(h:p:=by rfl):p:=h
def Zn{p:Prop}(h:p:=by go_num):p:=h
def Zd{p:Prop}(h:p:=by decide):p:=h
def Zi{p:Prop}(h:p:=by simp):p:=h
def RowKit.Hid.o{p:Prop}(h:RowKit.Hid p):p:=h
def Tr{a b c:World}(h:RowKit.Hid (RowKit.Below a.heap.size a b))(g:RowKit.Below b.heap.size b c):RowKit.Below a.heap.size a c:=h.o.trans (g.mono h.o.size)
def Zc{w:World}{b:Nat}{cs:Array Value}{e:TypeId}{v:Value}(h:w.heap[b]? = some (.cells cs e))(j:Nat)(hv:cs[j]? = some v):w.cell? ⟨b, j, none⟩ = some v := by simp only[World.cell?, h]; exact hv
section
variable {P:Program} {ops:Array Oper} {rest:List Oper} {o:Oper} {a:Act} {w:World} {Q':Exit → Act → World → Prop}
def Zs{ty:TypeId}{x y:Operand}{g:Nat}{cells:Array Value}{t:TypeId}{old:Array Value}(hg:w.heap[g]? = some (.cells old t (0, 0)))(h:wpList P ops Q' rest a (w.setRow g cells))(Lt:o.guard = none := by rfl)(ho:o.op = .store ty x y := by rfl)(hd:o.dst = none := by rfl)(hx:a.eval x = .pointer (some ⟨g, 0, none⟩) := by first|rfl|with_unfolding_all rfl)(hy:a.eval y = .agg cells := by first|rfl|with_unfolding_all rfl)(hi:(P.info? ty).map (·.size) = some cells.size := by kernel_rfl)(hold:old.size = cells.size := by kernel_rfl)(h1:cells.all (·.oneCell') = true := by kernel_rfl):wpList P ops Q' (o :: rest) a w := wpList_store_row Lt ty x y ho g cells hx hy t old hg hi hold h1 (by rw[hd]; exact h)
def Zl{ty:TypeId}{x:Operand}{g:Nat}{t:TypeId}{cs:Array Value}{fr:Nat×Nat}{d:TypeDesc}(hg:w.heap[g]? = some (.cells cs t fr))(hu:P.underlying ty = some d)(h:wpList P ops Q' rest (a.put o.dst (.agg cs)) w)(Lt:o.guard = none := by rfl)(ho:o.op = .load ty x := by rfl)(hx:a.eval x = .pointer (some ⟨g, 0, none⟩) := by first|rfl|with_unfolding_all rfl)(hd:(match d with | .struct _ | .array _ _ => true | _ => false) = true := by rfl)(hi:(P.info? ty).map (·.size) = some cs.size := by kernel_rfl):wpList P ops Q' (o :: rest) a w := wpList_load_row Lt ty x ho g hx t cs fr d hg hu hd hi h
def Zm{ty:TypeId}{x:Operand}{b i:Nat}{cs:List Value}{d:TypeDesc}(hc:w.rangeAt b i cs)(hu:P.underlying ty = some d)(h:wpList P ops Q' rest (a.put o.dst (.agg cs.toArray)) w)(Lt:o.guard = none := by rfl)(ho:o.op = .load ty x := by rfl)(hx:a.eval x = .pointer (some ⟨b, i, none⟩) := by first|rfl|with_unfolding_all rfl)(hd:d.isRow = true := by rfl)(hi:(P.info? ty).map (·.size) = some cs.length := by kernel_rfl):wpList P ops Q' (o :: rest) a w := wpList_load_mid Lt ty x ho b i hx cs d hc hu hd hi h
end
abbrev Zq:=@Nat.le_refl
abbrev Z3:=@if_neg
abbrev Wz:=@beq_eq_false_iff_ne
abbrev ZU:=@if_pos
abbrev U':=@List.getElem?_eq_getElem
abbrev YE:=@Below.refl
abbrev Wi:=@Int.toNat_natCast
abbrev WH:=@decide_eq_false
abbrev WV:=@decide_eq_true
abbrev UC:=@List.length_append
abbrev QQ:=@List.getD_eq_getElem?_getD
abbrev R_:=@List.getElem?_cons_zero
abbrev RV:=@Int.eq_ofNat_of_zero_le
abbrev Rw:=@List.getElem?_cons_succ
abbrev UN:=@Bool.and_eq_true
abbrev Ss:=@List.getElem?_toArray
abbrev TH:=@World.ownsRow_nil
abbrev Vr:=@bodyPost_ret
abbrev Su:=@decide_eq_true_eq
abbrev Te:=@List.length_map
abbrev RX:=@wp_region_noPanic
abbrev SC:=@List.length_take
abbrev L8:=@RowKit.Below.heap_setCell
abbrev SZ:=@IntWalk.i64_in
abbrev O7:=@List.flatMap_append
abbrev QG:=@List.length_drop
abbrev Od:=@Nat.lt_of_lt_of_le
abbrev QP:=@NoPanic.normal
abbrev O6:=@List.getElem_mem
abbrev Tv:=@Nat.zero_le
abbrev BK:=@List.eq_nil_of_length_eq_zero
abbrev DT:=@Array.getElem?_eq_none
abbrev Nr:=@IntKind.wrap_u32
abbrev N9:=@Array.size_push
abbrev K4:=@List.mem_singleton
abbrev Ng:=@List.map_append
abbrev PA:=@Nat.zero_add
abbrev Ex:=@List.take_of_length_le
abbrev PJ:=@Nat.le_trans
abbrev PM:=@Int.ofNat_lt
abbrev JU:=@Bool.eq_false_iff
abbrev WQ:=@Or.inl
abbrev WG:=@Or.inr
abbrev Rs:=@bne_iff_ne
abbrev IC:=@List.nil_append
abbrev K5:=@List.mem_cons
abbrev EZ:=@List.mem_append
abbrev nu:=@World.cell?_setCell_same
abbrev JV:=@Nat.le_succ
abbrev oK:=@Int.natCast_nonneg
abbrev rC:=@List.append_nil
abbrev nv:=@List.take_length
abbrev vS:=@List.mem_map
abbrev ny:=@List.range_succ
abbrev bF:=@List.append_assoc
abbrev Z1d:=@List.getElem?_append_right
abbrev jD:=@Nat.le_of_lt
abbrev bG:=@Nat.add_zero
abbrev Z1g:=@List.mem_filter
end Go
