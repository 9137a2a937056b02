/- The room as plain data: what package room computes, function by function. No program in sight. -/
import Derived.Test.YthlamfoldfeocaaDoorLabPlain
import GoSem.Core.Value
namespace Go.Proofs.Rm
open Go.Proofs.Lab (may key)
structure Op where
  kind : Int
  peer : Int
  source : Int
  layer : Int
  name : List UInt8
  ssrcs : List Int
structure Turn where
  kind : Int
  peer : Int
  source : Int
  layer : Int
  ssrc : Int
deriving DecidableEq
/-- A source that may be there; sv: the slice value that holds its SSRCs (a ghost). -/
structure Src where
  there : Bool
  num : Int
  own : Int
  sv : Value
  ss : List Int
  muted : Bool
structure Sub where
  there : Bool
  paused : Bool
  want : Int
structure Room where
  names : Nat → List UInt8
  src : Nat → Src
  sub : Nat → Nat → Sub
def noSrc : Src := ⟨false, 0, 0, .slice none 0 0, [], false⟩
def noSub : Sub := ⟨false, false, 0⟩
def empty : Room := ⟨fun _ => [], fun _ => noSrc, fun _ _ => noSub⟩
def Room.setName (R : Room) (p : Nat) (s : List UInt8) : Room := { R with names := fun q => if q = p then s else R.names q }
def Room.setSrc (R : Room) (n : Nat) (s : Src) : Room := { R with src := fun q => if q = n then s else R.src q }
def Room.setSub (R : Room) (n p : Nat) (x : Sub) : Room := { R with sub := fun m q => if m = n ∧ q = p then x else R.sub m q }
def inn (n below : Int) : Bool := decide (1 ≤ n) && decide (n < below)
def joined (R : Room) (p : Int) : Bool := inn p 9 && !(R.names p.toNat).isEmpty
/-- Where an SSRC stands in a list; -1. -/
def index (l : List Int) (x : Int) : Int := match l.findIdx? (fun y => y == x) with | some i => i | none => -1
def ofGo (R : Room) (x : Int) : Nat → Nat → Int × Int × Bool
  | 0, _ => (0, 0, false)
  | k + 1, n => if (R.src n).there && decide (0 ≤ index (R.src n).ss x) then ((n : Int), index (R.src n).ss x, true) else ofGo R x k (n + 1)
def of (R : Room) (x : Int) : Int × Int × Bool := ofGo R x 9 0
def hears (R : Room) (p n : Int) : Bool := inn p 9 && inn n 9 && (R.sub n.toNat p.toNat).there
def subs (R : Room) (n : Int) : List Nat := (List.range 9).filter fun p => hears R p n
def layer (R : Room) (o : Op) : Int := if o.layer < 0 ∨ ((R.src o.source.toNat).ss.length : Int) ≤ o.layer then 5 else 0
def heard (R : Room) (o : Op) : Int :=
  let x := R.sub o.source.toNat o.peer.toNat
  if !x.there then 8
  else if o.kind = 10 ∧ x.paused = true then 9
  else if o.kind = 11 ∧ x.paused = false then 11
  else if o.kind ≠ 12 then 0
  else if layer R o ≠ 0 then layer R o
  else if x.want = o.layer then 9 else 0
def about (R : Room) (o : Op) : Int :=
  let s := R.src o.source.toNat
  if o.kind = 5 ∨ o.kind = 8 ∨ o.kind = 9 then
    (if s.own ≠ o.peer then 10 else if o.kind = 8 ∧ s.muted = true then 9 else if o.kind = 9 ∧ s.muted = false then 11 else 0)
  else if o.kind = 6 then
    (if s.own = o.peer then 10 else if (R.sub o.source.toNat o.peer.toNat).there then 9 else layer R o)
  else heard R o
/-- Is an SSRC there already, or ahead in the same list? -/
def twice (R : Room) (l : List Int) (i : Nat) : Bool := (of R (l.getD i 0)).2.2 || (l.take i).contains (l.getD i 0)
def publishes (R : Room) (o : Op) : Int :=
  if o.ssrcs.length < 1 ∨ 3 < o.ssrcs.length then 5
  else if o.ssrcs.any (fun s => decide (s < 2) || decide (3221225472 ≤ s)) then 5
  else if (R.src o.source.toNat).there then 9
  else if (List.range o.ssrcs.length).any (twice R o.ssrcs) then 9 else 0
def sameKey (R : Room) (o : Op) (n : Nat) : Bool := !(R.names n).isEmpty && decide (key (R.names n) = key o.name)
def joins (R : Room) (o : Op) : Int :=
  if joined R o.peer then 9
  else if !may o.name then 12
  else if (List.range 9).any (sameKey R o) then 9 else 0
def wrong (R : Room) (o : Op) : Int :=
  if o.kind < 2 ∨ 12 < o.kind then 4
  else if !inn o.peer 9 then 5
  else if o.kind = 2 then joins R o
  else if !joined R o.peer then 8
  else if o.kind = 3 then 0
  else if !inn o.source 9 then 5
  else if o.kind = 4 then publishes R o
  else if !(R.src o.source.toNat).there then 8
  else about R o
def asks (R : Room) (p n : Nat) : Turn := ⟨9, (R.src n).own, n, 0, (R.src n).ss.getD (R.sub n p).want.toNat 0⟩
def waits (R : Room) (p n : Nat) : List Turn := if (R.sub n p).paused || (R.src n).muted then [] else [asks R p n]
/-- The subscriptions of the peers of a list are over. -/
def goneGo (n : Nat) : List Nat → Room → List Turn × Room
  | [], R => ([], R)
  | p :: l, R => let x := goneGo n l (R.setSub n p noSub); (⟨3, p, n, 0, 0⟩ :: ⟨2, p, n, 0, 0⟩ :: x.1, x.2)
def gone (R : Room) (n : Nat) : List Turn × Room :=
  let x := goneGo n (subs R n) R
  (x.1, x.2.setSrc n noSrc)
/-- A peer's own subscriptions are over, those to the sources below k. -/
def leave1 (p : Nat) (R : Room) : Nat → List Turn × Room
  | 0 => ([], R)
  | k + 1 => let x := leave1 p R k; if (x.2.sub k p).there then (x.1 ++ [⟨2, p, k, 0, 0⟩], x.2.setSub k p noSub) else x
/-- A peer's own sources are gone, those below k; R0 is the room as it was ahead. -/
def leave2 (R0 : Room) (p : Nat) : Nat → List Turn × Room
  | 0 => ([], R0)
  | k + 1 => let x := leave2 R0 p k; if (R0.src k).there && decide ((R0.src k).own = p) then (x.1 ++ (gone x.2 k).1, (gone x.2 k).2) else x
def leave (R : Room) (p : Nat) : List Turn × Room :=
  ((leave1 p R 9).1 ++ (leave2 (leave1 p R 9).2 p 9).1, (leave2 (leave1 p R 9).2 p 9).2.setName p [])
def begin (R : Room) (o : Op) : List Turn × Room :=
  let n := o.source.toNat; let p := o.peer.toNat
  let R1 := R.setSub n p ⟨true, false, o.layer⟩
  (⟨1, o.peer, o.source, o.layer, 0⟩ :: (if (R.src n).muted then [⟨6, o.peer, o.source, 0, 0⟩] else [asks R1 p n]), R1)
def muteTurns (R : Room) (n : Nat) (on : Bool) (p : Nat) : List Turn :=
  if on then [⟨6, p, n, 0, 0⟩] else ⟨7, p, n, 0, 0⟩ :: waits R p n
def mute (R : Room) (n : Nat) (on : Bool) : List Turn × Room :=
  let R1 := R.setSrc n { R.src n with muted := on }
  ((subs R1 n).flatMap (muteTurns R1 n on), R1)
/-- What an operation that may be done brings about; sv: the slice value of a new source's SSRCs. -/
def turns (R : Room) (o : Op) (sv : Value) : List Turn × Room :=
  let n := o.source.toNat; let p := o.peer.toNat; let x := R.sub n p
  if o.kind = 2 then ([], R.setName p o.name)
  else if o.kind = 3 then leave R p
  else if o.kind = 4 then ([], R.setSrc n ⟨true, o.source, o.peer, sv, o.ssrcs, false⟩)
  else if o.kind = 5 then gone R n
  else if o.kind = 6 then begin R o
  else if o.kind = 7 then ([⟨2, o.peer, o.source, 0, 0⟩], R.setSub n p noSub)
  else if o.kind = 8 then mute R n true
  else if o.kind = 9 then mute R n false
  else if o.kind = 10 then ([⟨4, o.peer, o.source, 0, 0⟩], R.setSub n p { x with paused := true })
  else if o.kind = 11 then let R1 := R.setSub n p { x with paused := false }; (⟨5, o.peer, o.source, 0, 0⟩ :: waits R1 p n, R1)
  else if o.kind = 12 then let R1 := R.setSub n p { x with want := o.layer }; (⟨8, o.peer, o.source, o.layer, 0⟩ :: waits R1 p n, R1)
  else ([], R)
def doo (R : Room) (o : Op) (sv : Value) : (List Turn × Room) × Int := if wrong R o ≠ 0 then (([], R), wrong R o) else (turns R o sv, 0)
def goneOp (R : Room) (peer ssrc : Int) : (List Turn × Room) × Int :=
  if !(of R ssrc).2.2 || !joined R peer || decide ((R.src (of R ssrc).1.toNat).own ≠ peer) then (([], R), 8) else (gone R (of R ssrc).1.toNat, 0)
/-- What holds of every room that was made by operations. -/
structure Inv (R : Room) : Prop where
  none0 : R.names 0 = [] ∧ (R.src 0).there = false
  subAt : ∀ n p, (R.sub n p).there = true → 1 ≤ n ∧ n < 9 ∧ 1 ≤ p ∧ p < 9 ∧ (R.src n).there = true ∧ R.names p ≠ [] ∧ (R.src n).own ≠ p ∧ 0 ≤ (R.sub n p).want ∧ (R.sub n p).want < (R.src n).ss.length
  srcAt : ∀ n, (R.src n).there = true → 1 ≤ n ∧ n < 9 ∧ (R.src n).num = n ∧ joined R (R.src n).own = true ∧ 1 ≤ (R.src n).ss.length ∧ (R.src n).ss.length ≤ 3 ∧ (R.src n).ss.Nodup ∧ ∀ x ∈ (R.src n).ss, 2 ≤ x ∧ x < 3221225472
  apart : ∀ n m x, (R.src n).there = true → (R.src m).there = true → x ∈ (R.src n).ss → x ∈ (R.src m).ss → n = m
  nameAt : ∀ p, R.names p ≠ [] → p < 9 ∧ may (R.names p) = true
  keys : ∀ p q, R.names p ≠ [] → key (R.names p) = key (R.names q) → p = q
end Go.Proofs.Rm
