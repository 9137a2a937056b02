/- Several texts in one: The room as plain data: what package room computes, function by function. No program in sight. What packages stamp, door, front compute. Plain. Small laws on memory: rows of bytes in a block, what a conversion reads of them. Over any program. Laws of the walk: an array loaded out of the middle of a block; an element of an array value; a row of cells of the call's own. Over any program. The room in memory: one block of 297 cells. -/
import GoSem.Core.Value
import Derived.WalkKit
import Derived.Lib.Hide
import Derived.Lib.ConvBytes
import Derived.Laws.BytesString
import Derived.Lib.IndexBytes
import Derived.Laws.Rows
import Derived.Laws.Cells
import Derived.Test.YtpdjhlcbcomdkaaGreatDoorChecked
import Derived.Test.YtpdjhlcbcomdkaaGreatDoorF01
import Derived.Test.YtpdjhlcbcomdkaaGreatDoorF02
import Derived.Test.YtpdjhlcbcomdkaaGreatDoorF04
namespace Go.Proofs.Rm
open Go.Proofs.Lab (may key)
structure Op where
  kind : Int
  peer : Int
  source : Int
  layer : Int
  name : List UInt8
  ssrcs : List Int
structure Turn where
  kind : Int
  peer : Int
  source : Int
  layer : Int
  ssrc : Int
deriving DecidableEq
/-- A source that may be there; sv: the slice value that holds its SSRCs (a ghost). -/
structure Src where
  there : Bool
  num : Int
  own : Int
  sv : Value
  ss : List Int
  muted : Bool
structure Sub where
  there : Bool
  paused : Bool
  want : Int
structure Room where
  names : Nat → List UInt8
  src : Nat → Src
  sub : Nat → Nat → Sub
def noSrc : Src := ⟨false, 0, 0, .slice none 0 0, [], false⟩
def noSub : Sub := ⟨false, false, 0⟩
def empty : Room := ⟨fun _ => [], fun _ => noSrc, fun _ _ => noSub⟩
def Room.setName (R : Room) (p : Nat) (s : List UInt8) : Room := { R with names := fun q => if q = p then s else R.names q }
def Room.setSrc (R : Room) (n : Nat) (s : Src) : Room := { R with src := fun q => if q = n then s else R.src q }
def Room.setSub (R : Room) (n p : Nat) (x : Sub) : Room := { R with sub := fun m q => if m = n ∧ q = p then x else R.sub m q }
def inn (n below : Int) : Bool := decide (1 ≤ n) && decide (n < below)
def joined (R : Room) (p : Int) : Bool := inn p 9 && !(R.names p.toNat).isEmpty
/-- Where an SSRC stands in a list; -1. -/
def index (l : List Int) (x : Int) : Int := match l.findIdx? (fun y => y == x) with | some i => i | none => -1
def ofGo (R : Room) (x : Int) : Nat → Nat → Int × Int × Bool
  | 0, _ => (0, 0, false)
  | k + 1, n => if (R.src n).there && decide (0 ≤ index (R.src n).ss x) then ((n : Int), index (R.src n).ss x, true) else ofGo R x k (n + 1)
def of (R : Room) (x : Int) : Int × Int × Bool := ofGo R x 9 0
def hears (R : Room) (p n : Int) : Bool := inn p 9 && inn n 9 && (R.sub n.toNat p.toNat).there
def subs (R : Room) (n : Int) : List Nat := (List.range 9).filter fun p => hears R p n
def layer (R : Room) (o : Op) : Int := if o.layer < 0 ∨ ((R.src o.source.toNat).ss.length : Int) ≤ o.layer then 5 else 0
def heard (R : Room) (o : Op) : Int :=
  let x := R.sub o.source.toNat o.peer.toNat
  if !x.there then 8
  else if o.kind = 10 ∧ x.paused = true then 9
  else if o.kind = 11 ∧ x.paused = false then 11
  else if o.kind ≠ 12 then 0
  else if layer R o ≠ 0 then layer R o
  else if x.want = o.layer then 9 else 0
def about (R : Room) (o : Op) : Int :=
  let s := R.src o.source.toNat
  if o.kind = 5 ∨ o.kind = 8 ∨ o.kind = 9 then
    (if s.own ≠ o.peer then 10 else if o.kind = 8 ∧ s.muted = true then 9 else if o.kind = 9 ∧ s.muted = false then 11 else 0)
  else if o.kind = 6 then
    (if s.own = o.peer then 10 else if (R.sub o.source.toNat o.peer.toNat).there then 9 else layer R o)
  else heard R o
/-- Is an SSRC there already, or ahead in the same list? -/
def twice (R : Room) (l : List Int) (i : Nat) : Bool := (of R (l.getD i 0)).2.2 || (l.take i).contains (l.getD i 0)
def publishes (R : Room) (o : Op) : Int :=
  if o.ssrcs.length < 1 ∨ 3 < o.ssrcs.length then 5
  else if o.ssrcs.any (fun s => decide (s < 2) || decide (3221225472 ≤ s)) then 5
  else if (R.src o.source.toNat).there then 9
  else if (List.range o.ssrcs.length).any (twice R o.ssrcs) then 9 else 0
def sameKey (R : Room) (o : Op) (n : Nat) : Bool := !(R.names n).isEmpty && decide (key (R.names n) = key o.name)
def joins (R : Room) (o : Op) : Int :=
  if joined R o.peer then 9
  else if !may o.name then 12
  else if (List.range 9).any (sameKey R o) then 9 else 0
def wrong (R : Room) (o : Op) : Int :=
  if o.kind < 2 ∨ 12 < o.kind then 4
  else if !inn o.peer 9 then 5
  else if o.kind = 2 then joins R o
  else if !joined R o.peer then 8
  else if o.kind = 3 then 0
  else if !inn o.source 9 then 5
  else if o.kind = 4 then publishes R o
  else if !(R.src o.source.toNat).there then 8
  else about R o
def asks (R : Room) (p n : Nat) : Turn := ⟨9, (R.src n).own, n, 0, (R.src n).ss.getD (R.sub n p).want.toNat 0⟩
def waits (R : Room) (p n : Nat) : List Turn := if (R.sub n p).paused || (R.src n).muted then [] else [asks R p n]
/-- The subscriptions of the peers of a list are over. -/
def goneGo (n : Nat) : List Nat → Room → List Turn × Room
  | [], R => ([], R)
  | p :: l, R => let x := goneGo n l (R.setSub n p noSub); (⟨3, p, n, 0, 0⟩ :: ⟨2, p, n, 0, 0⟩ :: x.1, x.2)
def gone (R : Room) (n : Nat) : List Turn × Room :=
  let x := goneGo n (subs R n) R
  (x.1, x.2.setSrc n noSrc)
/-- A peer's own subscriptions are over, those to the sources below k. -/
def leave1 (p : Nat) (R : Room) : Nat → List Turn × Room
  | 0 => ([], R)
  | k + 1 => let x := leave1 p R k; if (x.2.sub k p).there then (x.1 ++ [⟨2, p, k, 0, 0⟩], x.2.setSub k p noSub) else x
/-- A peer's own sources are gone, those below k; R0 is the room as it was ahead. -/
def leave2 (R0 : Room) (p : Nat) : Nat → List Turn × Room
  | 0 => ([], R0)
  | k + 1 => let x := leave2 R0 p k; if (R0.src k).there && decide ((R0.src k).own = p) then (x.1 ++ (gone x.2 k).1, (gone x.2 k).2) else x
def leave (R : Room) (p : Nat) : List Turn × Room :=
  ((leave1 p R 9).1 ++ (leave2 (leave1 p R 9).2 p 9).1, (leave2 (leave1 p R 9).2 p 9).2.setName p [])
def begin (R : Room) (o : Op) : List Turn × Room :=
  let n := o.source.toNat; let p := o.peer.toNat
  let R1 := R.setSub n p ⟨true, false, o.layer⟩
  (⟨1, o.peer, o.source, o.layer, 0⟩ :: (if (R.src n).muted then [⟨6, o.peer, o.source, 0, 0⟩] else [asks R1 p n]), R1)
def muteTurns (R : Room) (n : Nat) (on : Bool) (p : Nat) : List Turn :=
  if on then [⟨6, p, n, 0, 0⟩] else ⟨7, p, n, 0, 0⟩ :: waits R p n
def mute (R : Room) (n : Nat) (on : Bool) : List Turn × Room :=
  let R1 := R.setSrc n { R.src n with muted := on }
  ((subs R1 n).flatMap (muteTurns R1 n on), R1)
/-- What an operation that may be done brings about; sv: the slice value of a new source's SSRCs. -/
def turns (R : Room) (o : Op) (sv : Value) : List Turn × Room :=
  let n := o.source.toNat; let p := o.peer.toNat; let x := R.sub n p
  if o.kind = 2 then ([], R.setName p o.name)
  else if o.kind = 3 then leave R p
  else if o.kind = 4 then ([], R.setSrc n ⟨true, o.source, o.peer, sv, o.ssrcs, false⟩)
  else if o.kind = 5 then gone R n
  else if o.kind = 6 then begin R o
  else if o.kind = 7 then ([⟨2, o.peer, o.source, 0, 0⟩], R.setSub n p noSub)
  else if o.kind = 8 then mute R n true
  else if o.kind = 9 then mute R n false
  else if o.kind = 10 then ([⟨4, o.peer, o.source, 0, 0⟩], R.setSub n p { x with paused := true })
  else if o.kind = 11 then let R1 := R.setSub n p { x with paused := false }; (⟨5, o.peer, o.source, 0, 0⟩ :: waits R1 p n, R1)
  else if o.kind = 12 then let R1 := R.setSub n p { x with want := o.layer }; (⟨8, o.peer, o.source, o.layer, 0⟩ :: waits R1 p n, R1)
  else ([], R)
def doo (R : Room) (o : Op) (sv : Value) : (List Turn × Room) × Int := if wrong R o ≠ 0 then (([], R), wrong R o) else (turns R o sv, 0)
def goneOp (R : Room) (peer ssrc : Int) : (List Turn × Room) × Int :=
  if !(of R ssrc).2.2 || !joined R peer || decide ((R.src (of R ssrc).1.toNat).own ≠ peer) then (([], R), 8) else (gone R (of R ssrc).1.toNat, 0)
/-- What holds of every room that was made by operations. -/
structure Inv (R : Room) : Prop where
  none0 : R.names 0 = [] ∧ (R.src 0).there = false
  subAt : ∀ n p, (R.sub n p).there = true → 1 ≤ n ∧ n < 9 ∧ 1 ≤ p ∧ p < 9 ∧ (R.src n).there = true ∧ R.names p ≠ [] ∧ (R.src n).own ≠ p ∧ 0 ≤ (R.sub n p).want ∧ (R.sub n p).want < (R.src n).ss.length
  srcAt : ∀ n, (R.src n).there = true → 1 ≤ n ∧ n < 9 ∧ (R.src n).num = n ∧ joined R (R.src n).own = true ∧ 1 ≤ (R.src n).ss.length ∧ (R.src n).ss.length ≤ 3 ∧ (R.src n).ss.Nodup ∧ ∀ x ∈ (R.src n).ss, 2 ≤ x ∧ x < 3221225472
  apart : ∀ n m x, (R.src n).there = true → (R.src m).there = true → x ∈ (R.src n).ss → x ∈ (R.src m).ss → n = m
  nameAt : ∀ p, R.names p ≠ [] → p < 9 ∧ may (R.names p) = true
  keys : ∀ p q, R.names p ≠ [] → key (R.names p) = key (R.names q) → p = q
end Go.Proofs.Rm
namespace Go.Proofs.By
open Go.Proofs.Rm (Room Turn inn of goneOp joined doo hears)
/-- The SSRC by which a peer hears a source. -/
def outOf (p s : Int) : Int := if inn p 9 && inn s 9 then 3221225472 + (256 * p + s) else 0
/-- Which peer hears which source by an SSRC. -/
def whose (x : Int) : Int × Int × Bool :=
  if inn ((x + 1073741824) % 4294967296 / 256) 9 && inn ((x + 1073741824) % 4294967296 % 256) 9 then ((x + 1073741824) % 4294967296 / 256, (x + 1073741824) % 4294967296 % 256, true) else (0, 0, false)
theorem inn_iff {n m : Int} : inn n m = true ↔ 1 ≤ n ∧ n < m := by unfold inn; simp
/-- What is heard by an SSRC: nothing else is. -/
theorem whose_iff {x p s : Int} (h0 : 0 ≤ x) (h1 : x < 4294967296) : (inn p 9 = true ∧ inn s 9 = true ∧ outOf p s = x) ↔ whose x = (p, s, true) := by
  unfold whose outOf
  constructor
  · rintro ⟨h2, h3, h4⟩
    rw [h2, h3] at h4
    have h4 : 3221225472 + (256 * p + s) = x := by simpa using h4
    rw [inn_iff] at h2 h3
    have e1 : (x + 1073741824) % 4294967296 / 256 = p := by omega
    have e2 : (x + 1073741824) % 4294967296 % 256 = s := by omega
    rw [e1, e2, inn_iff.2 h2, inn_iff.2 h3]
    rfl
  · intro h
    split at h
    · rename_i hc
      injection h with h2 h3
      injection h3 with h3 _
      rw [h2, h3, Bool.and_eq_true] at hc
      rw [hc.1, hc.2]
      rw [inn_iff, inn_iff] at hc
      refine ⟨rfl, rfl, ?_⟩
      show (if true && true then _ else _) = x
      simp only [Bool.and_self, if_true]
      omega
    · injection h with _ h; injection h with _ h; cases h
/-- The source's number and layer of an SSRC are a peer's own. -/
def owned (R : Room) (peer x : Int) : Bool := (of R x).2.2 && decide ((R.src (of R x).1.toNat).own = peer)
def heardBy (R : Room) (peer x : Int) : Bool := (whose x).2.2 && decide ((whose x).1 = peer) && hears R peer (whose x).2.1
/-- An error counts one. -/
def cnt (e : Int) : Int := if e = 0 then 0 else 1
/-- Farewells of a peer, one behind the other. -/
def goneAll (peer : Int) : List Int → Room → (List Turn × Room) × Int
  | [], R => (([], R), 0)
  | x :: l, R =>
    (((goneOp R peer x).1.1 ++ (goneAll peer l (goneOp R peer x).1.2).1.1, (goneAll peer l (goneOp R peer x).1.2).1.2), cnt (goneOp R peer x).2 + (goneAll peer l (goneOp R peer x).1.2).2)
theorem goneAll_snoc (peer x : Int) : ∀ (l : List Int) (R : Room),
    goneAll peer (l ++ [x]) R = (((goneAll peer l R).1.1 ++ (goneOp (goneAll peer l R).1.2 peer x).1.1, (goneOp (goneAll peer l R).1.2 peer x).1.2), (goneAll peer l R).2 + cnt (goneOp (goneAll peer l R).1.2 peer x).2)
  | [], R => by simp only [goneAll, List.nil_append, List.append_nil, Int.add_zero, Int.zero_add]
  | y :: l, R => by
    have ih := goneAll_snoc peer x l (goneOp R peer y).1.2
    rw [List.cons_append]
    unfold goneAll
    rw [ih]
    simp only [List.append_assoc, Int.add_assoc]
/-- What an item of a peer's feedback does. -/
def itemDo (R : Room) (peer : Int) (i : Itm) : (List Turn × Room) × Int :=
  if i.kind = 200 then (([], R), if owned R peer i.ssrc then 0 else 1)
  else if i.kind = 205 ∨ i.kind = 206 then (([], R), if heardBy R peer i.media then 0 else 1)
  else if i.kind = 203 then goneAll peer i.gone R
  else (([], R), 0)
def itemsDo (peer : Int) : List Itm → Room → (List Turn × Room) × Int
  | [], R => (([], R), 0)
  | x :: l, R => (((itemDo R peer x).1.1 ++ (itemsDo peer l (itemDo R peer x).1.2).1.1, (itemsDo peer l (itemDo R peer x).1.2).1.2), (itemDo R peer x).2 + (itemsDo peer l (itemDo R peer x).1.2).2)
theorem itemsDo_snoc (peer : Int) (x : Itm) : ∀ (l : List Itm) (R : Room),
    itemsDo peer (l ++ [x]) R = (((itemsDo peer l R).1.1 ++ (itemDo (itemsDo peer l R).1.2 peer x).1.1, (itemDo (itemsDo peer l R).1.2 peer x).1.2), (itemsDo peer l R).2 + (itemDo (itemsDo peer l R).1.2 peer x).2)
  | [], R => by simp only [itemsDo, List.nil_append, List.append_nil, Int.add_zero, Int.zero_add]
  | y :: l, R => by
    have ih := itemsDo_snoc peer x l (itemDo R peer y).1.2
    rw [List.cons_append]
    unfold itemsDo
    rw [ih]
    simp only [List.append_assoc, Int.add_assoc]
structure Adm where
  kind : Int
  source : Int
  epoch : Int
  err : Int
deriving DecidableEq
/-- What becomes of an operation. -/
structure Taken where
  adm : Adm
  pkt : Pkt
  dsc : Dsc
  items : List Itm
  turns : List Turn
  unknown : Int
def noTaken : Taken := ⟨⟨0, 0, 0, 0⟩, noPkt, noDsc, [], [], 0⟩
def refusedT (kind err : Int) : Taken := { noTaken with adm := ⟨kind, 0, 0, err⟩ }
def mediaT (R : Room) (ep peer : Int) (p : Pkt) (d : Dsc) : Taken :=
  if owned R peer p.ssrc && decide ((of R p.ssrc).2.1 = d.layer) then { noTaken with adm := ⟨1, (of R p.ssrc).1, ep, 0⟩, pkt := p, dsc := d } else refusedT 5 0
def feedT (ep : Int) (l : List Itm) (ts : List Turn) (u : Int) : Taken := { noTaken with adm := ⟨2, 0, ep, 0⟩, items := l, turns := ts, unknown := u }
def datagram (R : Room) (ep peer : Int) (b : List UInt8) : (Taken × Room) × Int :=
  if (sift b).2 ≠ 0 then ((refusedT 3 (sift b).2, R), ep)
  else if !joined R peer then ((refusedT 4 0, R), ep)
  else match (sift b).1 with
    | .media p d => ((mediaT R ep peer p d, R), ep)
    | .feedback l => ((feedT (ep + 1) l (itemsDo peer l R).1.1 (itemsDo peer l R).2, (itemsDo peer l R).1.2), ep + 1)
    | .none => ((feedT (ep + 1) [] [] 0, R), ep + 1)
def take (R : Room) (ep : Int) (o : Rm.Op) (b : List UInt8) (sv : Value) : (Taken × Room) × Int :=
  if o.kind = 1 then datagram R ep o.peer b
  else if (doo R o sv).2 ≠ 0 then ((refusedT 6 (doo R o sv).2, R), ep)
  else ((feedT (ep + 1) [] (doo R o sv).1.1 0, (doo R o sv).1.2), ep + 1)
end Go.Proofs.By
namespace Go.Proofs.Mem
open Go.RowKit Go.Lib
/-- A list of bytes as a string. -/
def str (l : List UInt8) : ByteArray := ⟨l.toArray⟩
theorem str_toList (l : List UInt8) : (str l).data.toList = l := rfl
theorem str_size (l : List UInt8) : (str l).size = l.length := by simp [str, ByteArray.size]
theorem str_eq (s : ByteArray) : str s.data.toList = s := by cases s; rfl
theorem ext_str (s : ByteArray) (n : Nat) : s.extract 0 n = str (s.data.toList.take n) := by
  apply ByteArray.ext
  apply Array.toList_inj.1
  rw [Lib.extract_data]
  simp [str]
theorem foldl_push (ns : List UInt8) : ∀ s : ByteArray, (ns.map fun b => ((b.toNat : Nat) : Int)).foldl (fun r n => r.push (UInt8.ofNat n.toNat)) s = ⟨(s.data.toList ++ ns).toArray⟩ := by
  induction ns with
  | nil => intro s; simp
  | cons b t ih =>
    intro s
    rw [List.map_cons, List.foldl_cons, ih]
    congr 1
    simp [ByteArray.push]
/-- The bytes m stand from place 'off' of block b on, and may be written. -/
def ByteRow (w : World) (b off : Nat) (m : List UInt8) : Prop :=
  ∀ j, j < m.length → w.cell? ⟨b, off + j, none⟩ = some (.int .u8 (m.getD j 0).toNat) ∧ w.frozen? ⟨b, off + j, none⟩ = false
theorem run_bytes_str {P : Program} {w : World} {b off c : Nat} {m : List UInt8} (src dst e : TypeId) (h : ByteRow w b off m)
    (hs : P.underlying src = some (.slice e)) (he : P.underlying e = some (.int .u8)) (hd : P.underlying dst = some .string) :
    (convert src dst (.slice (some ⟨b, off, none⟩) m.length c)).run P w = .ok (.string (str m)) w := by
  rw [run_convert_bytes_string w src dst e _ _ _ hs he hd]
  have hl : (loadCells ⟨b, off, none⟩ m.length).run P w = .ok ((m.map fun b => ((b.toNat : Nat) : Int)).map (Value.int .u8)).toArray w := by
    have := run_loadCells_list (P := P) (w := w) ⟨b, off, none⟩ ((m.map fun b => ((b.toNat : Nat) : Int)).map (Value.int .u8)) (by
      intro j v hv
      have hj : j < m.length := by
        have := (List.getElem?_eq_some_iff.1 hv).1
        simpa using this
      have := (h j hj).1
      simp only [List.getElem?_map, List.getElem?_eq_getElem hj, Option.map_some] at hv
      rw [List.getD_eq_getElem?_getD, List.getElem?_eq_getElem hj] at this
      cases hv
      unfold Addr.add
      by_cases h0 : j = 0
      · subst h0; simpa using this
      · rw [if_neg h0]; exact this)
    simpa using this
  rw [run_bytesToString w _ _ _ _ hl, foldl_push]
  rfl
theorem row_set {w : World} {b off : Nat} {m : List UInt8} (h : ByteRow w b off m) {i : Nat} (x : UInt8) :
    ByteRow (w.setCell ⟨b, off + i, none⟩ (.int .u8 x.toNat)) b off (m.set i x) := by
  intro j hj
  rw [List.length_set] at hj
  obtain ⟨h1, h2⟩ := h j hj
  by_cases hij : i = j
  · subst hij
    refine ⟨?_, by rw [World.frozen?_setCell]; exact h2⟩
    rw [List.getD_eq_getElem?_getD, List.getElem?_set_self hj, World.cell?_setCell_same _ _ _ h1]
    rfl
  · refine ⟨?_, by rw [World.frozen?_setCell]; exact h2⟩
    rw [List.getD_eq_getElem?_getD, List.getElem?_set_ne hij, World.cell?_setCell_other _ _ _ _ (by intro e; injection e; omega), h1, List.getD_eq_getElem?_getD]
theorem row_below {B : Nat} {w w' : World} {b off : Nat} {m : List UInt8} (h : ByteRow w b off m) (hb : Below B w w') (hB : b < B) : ByteRow w' b off m := by
  intro j hj
  obtain ⟨h1, h2⟩ := h j hj
  exact ⟨by rw [hb.cell (p := ⟨b, off + j, none⟩) hB]; exact h1, by rw [hb.frozen (p := ⟨b, off + j, none⟩) hB]; exact h2⟩
theorem row_later {w w' : World} {b off : Nat} {m : List UInt8} (h : ByteRow w b off m) (hb : Below w.heap.size w w') : ByteRow w' b off m := by
  intro j hj
  have hlt : b < w.heap.size := by
    obtain ⟨h1, _⟩ := h j hj
    rcases Nat.lt_or_ge b w.heap.size with h2 | h2
    · exact h2
    · simp [World.cell?, Array.getElem?_eq_none h2] at h1
  exact row_below h hb hlt j hj
theorem row_new (w : World) (e : TypeId) (s : ByteArray) : ByteRow (bytesWorld w e s) w.heap.size 0 s.data.toList := by
  intro j hj
  rw [Nat.zero_add]
  rw [← Lib.size_eq] at hj
  refine ⟨bytesWorld_cell w e s j hj, ?_⟩
  simp only [World.frozen?, bytesWorld_at_new, bytesCells]
  simp
  intro h
  have : s.data.size = s.size := rfl
  omega
theorem below_bytes (w : World) (e : TypeId) (s : ByteArray) : Below w.heap.size w (bytesWorld w e s) :=
  ⟨rfl, rfl, rfl, by rw [bytesWorld_size]; omega, fun k hk => bytesWorld_at_old w e s k hk⟩
end Go.Proofs.Mem
namespace Go.Proofs.Load
open Go
section
variable {P : Program}
theorem run_load_part (w : World) (g off : Nat) (ty : TypeId) (cs : Array Value) (d : TypeDesc) (hc : ∀ j, j < cs.size → w.cell? ⟨g, off + j, none⟩ = cs[j]?)
    (hu : P.underlying ty = some d) (hd : (match d with | .struct _ | .array _ _ => true | _ => false) = true) (hi : (P.info? ty).map (·.size) = some cs.size) :
    (loadVar ty ⟨g, off, none⟩).run P w = .ok (.agg cs) w := by
  have hl : (loadCells ⟨g, off, none⟩ cs.toList.length).run P w = .ok cs.toList.toArray w :=
    run_loadCells_list (P := P) w ⟨g, off, none⟩ cs.toList (fun j v hv => by
      have hj : j < cs.size := by
        have := (List.getElem?_eq_some_iff.1 hv).1
        simpa using this
      have hadd : (⟨g, off, none⟩ : Addr).add j = ⟨g, off + j, none⟩ := by unfold Addr.add; split <;> simp_all
      rw [hadd, hc j hj]
      simpa using hv)
  cases hq : P.info? ty with
  | none => simp [hq] at hi
  | some i =>
    have hs : i.size = cs.size := by simpa [hq] using hi
    have hagg : (isAgg ty).run P w = .ok true w := by
      unfold isAgg
      rw [Sem.run_bind, run_underlying hu w]
      cases d <;> simp_all
    simp only [Array.length_toList, Array.toArray_toList] at hl
    simp [loadVar, Sem.run_bind, hagg, sizeOf, typeInfo, hq, hs, hl]
theorem wp_load_part {o : Oper} {a : Act} {w : World} {K : Act → World → Prop} {Q : Exit → Act → World → Prop} (ty : TypeId) (x : Operand) (ho : o.op = .load ty x)
    (g off : Nat) (hx : a.eval x = .pointer (some ⟨g, off, none⟩)) (cs : Array Value) (d : TypeDesc) (hc : ∀ j, j < cs.size → w.cell? ⟨g, off + j, none⟩ = cs[j]?)
    (hu : P.underlying ty = some d) (hd : (match d with | .struct _ | .array _ _ => true | _ => false) = true) (hi : (P.info? ty).map (·.size) = some cs.size)
    (h : K (a.put o.dst (.agg cs)) w) : o.wp P a w K Q := by
  unfold Oper.wp execOp
  simp only [ho, hx, Instr.loadAt, Instr.sureAddr, Sem.run_bind, Sem.run_pure, Result.andThen_ok, run_load_part w g off ty cs d hc hu hd hi]
  exact h
/-- An array out of the middle of a block. -/
theorem wpList_load_part {ops : Array Oper} {rest : List Oper} {o : Oper} {a : Act} {w : World} {Q : Exit → Act → World → Prop} (hgd : o.guard = none) (ty : TypeId) (x : Operand) (ho : o.op = .load ty x)
    (g off : Nat) (hx : a.eval x = .pointer (some ⟨g, off, none⟩)) (cs : Array Value) (d : TypeDesc) (hc : ∀ j, j < cs.size → w.cell? ⟨g, off + j, none⟩ = cs[j]?)
    (hu : P.underlying ty = some d) (hd : (match d with | .struct _ | .array _ _ => true | _ => false) = true) (hi : (P.info? ty).map (·.size) = some cs.size)
    (h : wpList P ops Q rest (a.put o.dst (.agg cs)) w) : wpList P ops Q (o :: rest) a w :=
  wpList_plain hgd fun _ hK => wp_load_part ty x ho g off hx cs d hc hu hd hi (hK _ _ h)
/-- An element that is an aggregate, out of an array value. -/
theorem run_index_agg (w : World) (t e : TypeId) (n : Nat) (cs : Array Value) (i sz : Nat) (d : TypeDesc) (h : P.underlying t = some (.array n e)) (hi : i < n)
    (hu : P.underlying e = some d) (hd : (match d with | .struct _ | .array _ _ => true | _ => false) = true) (hs : (P.info? e).map (·.size) = some sz) (ys : Array Value) (hy : cs.extract (i * sz) (i * sz + sz) = ys) :
    (Instr.index t (.agg cs) (.int .i64 (i : Int))).run P w = .ok (.agg ys) w := by
  cases hq : P.info? e with
  | none => simp [hq] at hs
  | some q =>
    have hs' : q.size = sz := by simpa [hq] using hs
    have hagg : (isAgg e).run P w = .ok true w := by
      unfold isAgg
      rw [Sem.run_bind, run_underlying hu w]
      cases d <;> simp_all
    have hn : (i : Int) < n := by omega
    have h0 : (0 : Int) ≤ i := by omega
    simp [Instr.index, asIntOf, Sem.run_bind, run_underlying h w, h0, hi, part, hagg, sizeOf, typeInfo, hq, hs', hy]
/-- An element of one cell, out of an array value. -/
theorem run_index_cell (w : World) (t e : TypeId) (n : Nat) (cs : Array Value) (i : Nat) (d : TypeDesc) (h : P.underlying t = some (.array n e)) (hi : i < n)
    (hu : P.underlying e = some d) (hd : (match d with | .struct _ | .array _ _ => true | _ => false) = false) (hs : (P.info? e).map (·.size) = some 1) (y : Value) (hy : cs[i]? = some y) :
    (Instr.index t (.agg cs) (.int .i64 (i : Int))).run P w = .ok y w := by
  cases hq : P.info? e with
  | none => simp [hq] at hs
  | some q =>
    have hs' : q.size = 1 := by simpa [hq] using hs
    have hagg : (isAgg e).run P w = .ok false w := by
      unfold isAgg
      rw [Sem.run_bind, run_underlying hu w]
      cases d <;> simp_all
    have hn : (i : Int) < n := by omega
    have h0 : (0 : Int) ≤ i := by omega
    simp [Instr.index, asIntOf, Sem.run_bind, run_underlying h w, h0, hi, part, hagg, sizeOf, typeInfo, hq, hs', hy]
end
end Go.Proofs.Load
namespace Go.Proofs.Rm
open Go.RowKit Go.Proofs.Heap Go.Proofs.Mem
def srcCell (s : Src) (i : Nat) : Value :=
  if i = 0 then .bool s.there else if i = 1 then .int .i64 s.num else if i = 2 then .int .i64 s.own else if i = 3 then s.sv else .bool s.muted
def subCell (x : Sub) (i : Nat) : Value :=
  if i = 0 then .bool x.there else if i = 1 then .bool x.paused else .int .i64 x.want
def roomCell (R : Room) (j : Nat) : Value :=
  if j < 9 then .string (str (R.names j)) else if j < 54 then srcCell (R.src ((j - 9) / 5)) ((j - 9) % 5)
  else subCell (R.sub ((j - 54) / 27) ((j - 54) % 27 / 3)) ((j - 54) % 3)
def u32s (l : List Int) : List Value := l.map (Value.int .u32)
/-- Block b holds the room R. -/
structure RoomAt (w : World) (b : Nat) (R : Room) : Prop where
  cells : ∃ c, w.heap[b]? = some (.cells c 152) ∧ c.size = 297 ∧ ∀ j, j < 297 → c[j]? = some (roomCell R j)
  rows : ∀ n, n < 9 → Row w 66 (R.src n).sv (R.src n).ss.length (u32s (R.src n).ss)
theorem RoomAt.lt {w : World} {b : Nat} {R : Room} (h : RoomAt w b R) : b < w.heap.size := by
  obtain ⟨c, hc, _⟩ := h.cells
  rcases Nat.lt_or_ge b w.heap.size with h | h
  · exact h
  · rw [Array.getElem?_eq_none h] at hc; cases hc
theorem RoomAt.cell {w : World} {b : Nat} {R : Room} (h : RoomAt w b R) {j : Nat} (hj : j < 297) : w.cell? ⟨b, j, none⟩ = some (roomCell R j) := by
  obtain ⟨c, hc, _, hall⟩ := h.cells
  simp only [World.cell?, hc]
  exact hall j hj
theorem RoomAt.unfrozen {w : World} {b : Nat} {R : Room} (h : RoomAt w b R) (j : Nat) : w.frozen? ⟨b, j, none⟩ = false := by
  obtain ⟨c, hc, _, _⟩ := h.cells
  simp [World.frozen?, hc]
theorem RoomAt.fr {B : Nat} {S : Nat → Prop} {w w' : World} {b : Nat} {R : Room} (h : RoomAt w b R) (hf : Fr B S w w') (hB : w.heap.size ≤ B) (hb : ¬ S b) (hS : ∀ k c fr, S k → w.heap[k]? ≠ some (.cells c 66 fr)) : RoomAt w' b R := by
  have hlt := h.lt
  obtain ⟨c, hc, hs, hall⟩ := h.cells
  exact ⟨⟨c, by rw [hf.block b (by omega) hb]; exact hc, hs, hall⟩, fun n hn => (h.rows n hn).fr hf hB hS⟩
theorem RoomAt.below {w w' : World} {b : Nat} {R : Room} (h : RoomAt w b R) (hb : Below w.heap.size w w') : RoomAt w' b R :=
  h.fr (Fr.of_below NoB hb) (Nat.le_refl _) (fun x => x) (fun _ _ _ h => h.elim)
/-- Block b is no row of SSRCs. -/
theorem RoomAt.other {w : World} {b : Nat} {R : Room} (h : RoomAt w b R) : ∀ k c fr, k = b → w.heap[k]? ≠ some (.cells c 66 fr) := by
  intro k c fr hk e
  subst hk
  obtain ⟨c', hc, _, _⟩ := h.cells
  rw [hc] at e
  injection e with e
  injection e with _ e _
  exact absurd e (by decide)
theorem RoomAt.set {w : World} {b : Nat} {R R' : Room} (h : RoomAt w b R) {i : Nat} {v : Value} (hi : i < 297) (hv : ∀ j, j < 297 → roomCell R' j = if j = i then v else roomCell R j)
    (hr : ∀ n, n < 9 → Row w 66 (R'.src n).sv (R'.src n).ss.length (u32s (R'.src n).ss)) : RoomAt (w.setCell ⟨b, i, none⟩ v) b R' := by
  have ho := h.other
  obtain ⟨c, hc, hs, hall⟩ := h.cells
  refine ⟨⟨c.setIfInBounds i v, ?_, by rw [Array.size_setIfInBounds]; exact hs, fun j hj => ?_⟩, fun n hn => ?_⟩
  · simp [World.setCell, Array.getElem?_modify, hc]
  · rw [hv j hj, Array.getElem?_setIfInBounds]
    by_cases hij : i = j
    · subst hij
      rw [if_pos rfl, if_pos rfl, if_pos (by omega)]
    · rw [if_neg hij, if_neg (fun e => hij e.symm)]
      exact hall j hj
  · exact (hr n hn).fr ((Fr.refl w.heap.size (· = b) w).setCell (Or.inr rfl) v) (Nat.le_refl _) ho
theorem rc_sub (R : Room) {n p i : Nat} (hn : n < 9) (hp : p < 9) (hi : i < 3) : roomCell R (54 + n * 27 + p * 3 + i) = subCell (R.sub n p) i := by
  unfold roomCell
  rw [if_neg (by omega), if_neg (by omega), show (54 + n * 27 + p * 3 + i - 54) / 27 = n by omega, show (54 + n * 27 + p * 3 + i - 54) % 27 / 3 = p by omega, show (54 + n * 27 + p * 3 + i - 54) % 3 = i by omega]
theorem rc_src (R : Room) {n i : Nat} (hn : n < 9) (hi : i < 5) : roomCell R (9 + n * 5 + i) = srcCell (R.src n) i := by
  unfold roomCell
  rw [if_neg (by omega), if_pos (by omega), show (9 + n * 5 + i - 9) / 5 = n by omega, show (9 + n * 5 + i - 9) % 5 = i by omega]
theorem RoomAt.subc {w : World} {b : Nat} {R : Room} (h : RoomAt w b R) {n p : Nat} (hn : n < 9) (hp : p < 9) :
    w.cell? ⟨b, 54 + n * 27 + p * 3, none⟩ = some (.bool (R.sub n p).there) ∧ w.cell? ⟨b, 54 + n * 27 + p * 3 + 1, none⟩ = some (.bool (R.sub n p).paused) ∧ w.cell? ⟨b, 54 + n * 27 + p * 3 + 2, none⟩ = some (.int .i64 (R.sub n p).want) :=
  ⟨by rw [h.cell (by omega)]; exact congrArg some (rc_sub R (i := 0) hn hp (by omega)), by rw [h.cell (by omega), rc_sub R hn hp (by omega)]; rfl, by rw [h.cell (by omega), rc_sub R hn hp (by omega)]; rfl⟩
theorem RoomAt.srcc {w : World} {b : Nat} {R : Room} (h : RoomAt w b R) {n : Nat} (hn : n < 9) :
    w.cell? ⟨b, 9 + n * 5, none⟩ = some (.bool (R.src n).there) ∧ w.cell? ⟨b, 9 + n * 5 + 1, none⟩ = some (.int .i64 (R.src n).num) ∧ w.cell? ⟨b, 9 + n * 5 + 2, none⟩ = some (.int .i64 (R.src n).own) ∧ w.cell? ⟨b, 9 + n * 5 + 3, none⟩ = some (R.src n).sv ∧ w.cell? ⟨b, 9 + n * 5 + 4, none⟩ = some (.bool (R.src n).muted) :=
  ⟨by rw [h.cell (by omega)]; exact congrArg some (rc_src R (i := 0) hn (by omega)), by rw [h.cell (by omega), rc_src R hn (by omega)]; rfl, by rw [h.cell (by omega), rc_src R hn (by omega)]; rfl, by rw [h.cell (by omega), rc_src R hn (by omega)]; rfl, by rw [h.cell (by omega), rc_src R hn (by omega)]; rfl⟩
theorem RoomAt.namec {w : World} {b : Nat} {R : Room} (h : RoomAt w b R) {p : Nat} (hp : p < 9) : w.cell? ⟨b, p, none⟩ = some (.string (str (R.names p))) := by
  rw [h.cell (by omega)]; unfold roomCell; rw [if_pos hp]
theorem sub_setSub (R : Room) (n p : Nat) (x : Sub) : (R.setSub n p x).sub n p = x := by simp [Room.setSub]
theorem setSub_setSub (R : Room) (n p : Nat) (x y : Sub) : (R.setSub n p x).setSub n p y = R.setSub n p y := by
  unfold Room.setSub
  congr 1
  funext m q
  dsimp only
  split <;> rfl
theorem setSub_id (R : Room) (n p : Nat) : R.setSub n p (R.sub n p) = R := by
  unfold Room.setSub
  cases R with
  | mk a s u =>
    congr 1
    funext m q
    dsimp only
    split
    · rename_i h; rw [h.1, h.2]
    · rfl
theorem RoomAt.setSubCell {w : World} {b : Nat} {R : Room} (h : RoomAt w b R) {n p i : Nat} (hn : n < 9) (hp : p < 9) (hi : i < 3) {x : Sub} {v : Value} (hx : ∀ j, j < 3 → subCell x j = if j = i then v else subCell (R.sub n p) j) :
    RoomAt (w.setCell ⟨b, 54 + n * 27 + p * 3 + i, none⟩ v) b (R.setSub n p x) := by
  refine h.set (by omega) (fun j hj => ?_) h.rows
  by_cases h1 : j < 54
  · unfold roomCell
    rw [if_neg (by omega : ¬ j = 54 + n * 27 + p * 3 + i)]
    by_cases h2 : j < 9
    · rw [if_pos h2, if_pos h2]; rfl
    · rw [if_neg h2, if_neg h2, if_pos h1, if_pos h1]; rfl
  · unfold roomCell
    rw [if_neg (by omega : ¬ j < 9), if_neg h1, if_neg (by omega : ¬ j < 9), if_neg h1]
    by_cases h3 : (j - 54) / 27 = n ∧ (j - 54) % 27 / 3 = p
    · have e : (R.setSub n p x).sub ((j - 54) / 27) ((j - 54) % 27 / 3) = x := by simp [Room.setSub, h3]
      rw [e, h3.1, h3.2, hx _ (by omega)]
      have : ((j - 54) % 3 = i) ↔ (j = 54 + n * 27 + p * 3 + i) := by omega
      by_cases h4 : (j - 54) % 3 = i
      · rw [if_pos h4, if_pos (this.1 h4)]
      · rw [if_neg h4, if_neg (fun e => h4 (this.2 e))]
    · have e : (R.setSub n p x).sub ((j - 54) / 27) ((j - 54) % 27 / 3) = R.sub ((j - 54) / 27) ((j - 54) % 27 / 3) := by simp [Room.setSub, h3]
      rw [e, if_neg (by omega)]
theorem RoomAt.setSub {w : World} {b : Nat} {R : Room} (h : RoomAt w b R) {n p : Nat} (hn : n < 9) (hp : p < 9) (x : Sub) :
    RoomAt (((w.setCell ⟨b, 54 + n * 27 + p * 3, none⟩ (.bool x.there)).setCell ⟨b, 54 + n * 27 + p * 3 + 1, none⟩ (.bool x.paused)).setCell ⟨b, 54 + n * 27 + p * 3 + 2, none⟩ (.int .i64 x.want)) b (R.setSub n p x) := by
  have h1 := h.setSubCell hn hp (i := 0) (by omega) (x := { R.sub n p with there := x.there }) (v := .bool x.there) (by intro j hj; unfold subCell; by_cases h0 : j = 0 <;> simp [h0])
  have h2 := h1.setSubCell hn hp (i := 1) (by omega) (x := { R.sub n p with there := x.there, paused := x.paused }) (v := .bool x.paused) (by
    intro j hj; rw [sub_setSub]; unfold subCell; by_cases h0 : j = 0 <;> by_cases h1 : j = 1 <;> simp [h0, h1])
  have h3 := h2.setSubCell hn hp (i := 2) (by omega) (x := x) (v := .int .i64 x.want) (by
    intro j hj; rw [sub_setSub]; unfold subCell; by_cases h0 : j = 0 <;> by_cases h1 : j = 1 <;> simp [h0, h1]; omega)
  rw [setSub_setSub, setSub_setSub] at h3
  exact h3
theorem u32s_length (l : List Int) : (u32s l).length = l.length := List.length_map _
theorem u32s_one (l : List Int) : ∀ u ∈ u32s l, u.oneCell' = true := by
  intro u hu
  obtain ⟨x, _, rfl⟩ := List.mem_map.1 hu
  rfl
theorem u32_open {w : World} {v : Value} {l : List Int} (h : Row w 66 v l.length (u32s l)) (hl : 0 < l.length) : ∃ g off cap, v = .slice (some ⟨g, off, none⟩) l.length cap ∧ l.length ≤ cap ∧ cap ≤ maxLen ∧ g < w.heap.size ∧
    ∀ j, j < l.length → w.cell? ⟨g, off + j, none⟩ = some (.int .u32 (l.getD j 0)) := by
  obtain ⟨g, off, cap, h1, h2, h3, h4, h5⟩ := h.open (by rw [u32s_length]; exact hl)
  refine ⟨g, off, cap, h1, h2, h3, h4, fun j hj => ?_⟩
  rw [h5 j (by rw [u32s_length]; exact hj), List.getD_eq_getElem?_getD, List.getElem?_eq_getElem hj]
  simp [u32s, hj]
theorem u32_openR {w : World} {v : Value} {l : List Int} (h : RRow w v l.length (u32s l)) (hl : 0 < l.length) : ∃ g off cap, v = .slice (some ⟨g, off, none⟩) l.length cap ∧ l.length ≤ cap ∧ cap ≤ maxLen ∧ g < w.heap.size ∧
    ∀ j, j < l.length → w.cell? ⟨g, off + j, none⟩ = some (.int .u32 (l.getD j 0)) := by
  obtain ⟨g, off, cap, h1, h2, h3, h4, h5⟩ := h.open (by rw [u32s_length]; exact hl)
  refine ⟨g, off, cap, h1, h2, h3, h4, fun j hj => ?_⟩
  rw [h5 j (by rw [u32s_length]; exact hj), List.getD_eq_getElem?_getD, List.getElem?_eq_getElem hj]
  simp [u32s, hj]
theorem elemInt : Elem Tryz.prog 72 3 1 8 := ⟨Tryz.underlying72, ⟨.int .i64 0, by kernel_rfl, rfl⟩, by decide⟩
theorem elemU32 : Elem Tryz.prog 29 66 1 4 := ⟨Tryz.underlying29, ⟨.int .u32 0, by kernel_rfl, rfl⟩, by decide⟩
theorem elemTurn : Elem Tryz.prog 98 158 5 40 := ⟨Tryz.underlying98, ⟨.agg #[.int .i64 0, .int .i64 0, .int .i64 0, .int .i64 0, .int .u32 0], by kernel_rfl, rfl⟩, by decide⟩
/-- The cells of a turn. -/
def turnCells (t : Turn) : List Value := [.int .i64 t.kind, .int .i64 t.peer, .int .i64 t.source, .int .i64 t.layer, .int .u32 t.ssrc]
def turnAgg (t : Turn) : Value := .agg #[.int .i64 t.kind, .int .i64 t.peer, .int .i64 t.source, .int .i64 t.layer, .int .u32 t.ssrc]
abbrev TurnRow (w : World) (v : Value) (l : List Turn) : Prop := Row w 158 v l.length (l.flatMap turnCells)
def ints (l : List Nat) : List Value := l.map fun (n : Nat) => Value.int .i64 (n : Int)
/-- A row that was just made. -/
theorem row_new (w : World) (e : TypeId) (n : Nat) (xs : List Value) (hn : n ≤ maxLen) : Row (w.alloc (.cells xs.toArray e)) e (.slice (some ⟨w.heap.size, 0, none⟩) n n) n xs :=
  ⟨_, n, rfl, Nat.le_refl _, hn, (fun h => by cases h), Or.inr ⟨_, 0, xs.toArray, (0, 0), rfl, (by show (w.heap.push _)[w.heap.size]? = _; simp), fun j _ => by simp⟩⟩
theorem row_new' (w : World) (e : TypeId) (n m : Nat) (xs : List Value) (hn : n ≤ maxLen) (hm : m = w.heap.size) : Row (w.alloc (.cells xs.toArray e)) e (.slice (some ⟨m, 0, none⟩) n n) n xs := by
  subst hm; exact row_new w e n xs hn
end Go.Proofs.Rm
