/- The tables as plain data, and in memory. -/
import Derived.Test.YthlamfoldfeocaaDoorRoomMem
namespace Go.Proofs.Rm
open Go.RowKit Go.Proofs.Heap Go.Proofs.Mem
structure TPeer where
  num : Int
  name : List UInt8
deriving DecidableEq
structure TSrc where
  num : Int
  own : Int
  ss : List Int
  muted : Bool
deriving DecidableEq
structure TSub where
  peer : Int
  source : Int
  want : Int
  paused : Bool
deriving DecidableEq
structure Tab where
  peers : List TPeer
  srcs : List TSrc
  subs : List TSub
deriving DecidableEq
def peerCells (x : TPeer) : List Value := [.int .i64 x.num, .string (str x.name)]
def tsrcCells (x : TSrc × Value) : List Value := [.int .i64 x.1.num, .int .i64 x.1.own, x.2, .bool x.1.muted]
def tsubCells (x : TSub) : List Value := [.int .i64 x.peer, .int .i64 x.source, .int .i64 x.want, .bool x.paused]
/-- The slice values of three rows hold a table. -/
structure TabAt (w : World) (pv sv uv : Value) (T : Tab) : Prop where
  peers : Row w 66 pv T.peers.length (T.peers.flatMap peerCells)
  srcs : ∃ ms : List (TSrc × Value), ms.map Prod.fst = T.srcs ∧ Row w 44 sv ms.length (ms.flatMap tsrcCells) ∧ ∀ m ∈ ms, Row w 23 m.2 m.1.ss.length (u32s m.1.ss)
  subs : Row w 48 uv T.subs.length (T.subs.flatMap tsubCells)
theorem TabAt.fr {B : Nat} {S : Nat → Prop} {w w' : World} {pv sv uv : Value} {T : Tab} (h : TabAt w pv sv uv T) (hf : Fr B S w w') (hB : w.heap.size ≤ B)
    (h1 : ∀ k c fr, S k → w.heap[k]? ≠ some (.cells c 66 fr)) (h2 : ∀ k c fr, S k → w.heap[k]? ≠ some (.cells c 44 fr)) (h3 : ∀ k c fr, S k → w.heap[k]? ≠ some (.cells c 48 fr)) (h4 : ∀ k c fr, S k → w.heap[k]? ≠ some (.cells c 23 fr)) : TabAt w' pv sv uv T := by
  obtain ⟨a, ⟨ms, b1, b2, b3⟩, c⟩ := h
  exact ⟨a.fr hf hB h1, ⟨ms, b1, b2.fr hf hB h2, fun m hm => (b3 m hm).fr hf hB h4⟩, c.fr hf hB h3⟩
theorem TabAt.below {w w' : World} {pv sv uv : Value} {T : Tab} (h : TabAt w pv sv uv T) (hb : Below w.heap.size w w') : TabAt w' pv sv uv T :=
  h.fr (Fr.of_below NoB hb) (Nat.le_refl _) (fun _ _ _ h => h.elim) (fun _ _ _ h => h.elim) (fun _ _ _ h => h.elim) (fun _ _ _ h => h.elim)
theorem elemPeer : Elem Tryd.prog 28 66 2 24 := ⟨Tryd.underlying28, ⟨.agg #[.int .i64 0, .string ⟨#[]⟩], by kernel_rfl, rfl⟩, by decide⟩
theorem elemSrc : Elem Tryd.prog 29 44 4 48 := ⟨Tryd.underlying29, ⟨.agg #[.int .i64 0, .int .i64 0, .slice none 0 0, .bool false], by kernel_rfl, rfl⟩, by decide⟩
theorem elemSub : Elem Tryd.prog 30 48 4 32 := ⟨Tryd.underlying30, ⟨.agg #[.int .i64 0, .int .i64 0, .int .i64 0, .bool false], by kernel_rfl, rfl⟩, by decide⟩
/-- What the room's tables are, up to so many numbers. -/
def tPeers (R : Room) (k : Nat) : List TPeer := ((List.range k).filter fun p : Nat => joined R p).map fun (p : Nat) => ⟨p, R.names p⟩
def hasSrc (R : Room) (n : Nat) : Bool := inn n 9 && (R.src n).there
def tSrcs (R : Room) (k : Nat) : List TSrc := ((List.range k).filter (hasSrc R)).map fun n => ⟨(R.src n).num, (R.src n).own, (R.src n).ss, (R.src n).muted⟩
def tSubs1 (R : Room) (n : Nat) (l : List Nat) : List TSub := l.map fun (p : Nat) => ⟨p, n, (R.sub n p).want, (R.sub n p).paused⟩
def tSubs (R : Room) (k : Nat) : List TSub := (List.range k).flatMap fun n => tSubs1 R n (subs R n)
def table (R : Room) : Tab := ⟨tPeers R 9, tSrcs R 9, tSubs R 9⟩
theorem tPeers_succ (R : Room) (k : Nat) : tPeers R (k + 1) = tPeers R k ++ if joined R k then [⟨k, R.names k⟩] else [] := by
  unfold tPeers
  rw [List.range_succ, List.filter_append, List.map_append]
  congr 1
  cases h : joined R k <;> simp [h]
theorem tSrcs_succ (R : Room) (k : Nat) : tSrcs R (k + 1) = tSrcs R k ++ if hasSrc R k then [⟨(R.src k).num, (R.src k).own, (R.src k).ss, (R.src k).muted⟩] else [] := by
  unfold tSrcs
  rw [List.range_succ, List.filter_append, List.map_append]
  congr 1
  cases h : hasSrc R k <;> simp [h]
theorem tSubs_succ (R : Room) (k : Nat) : tSubs R (k + 1) = tSubs R k ++ tSubs1 R k (subs R k) := by
  unfold tSubs
  rw [List.range_succ, List.flatMap_append]
  simp
theorem tPeers_len (R : Room) (k : Nat) : (tPeers R k).length ≤ k := by
  unfold tPeers
  rw [List.length_map]
  have := List.length_filter_le (fun p : Nat => joined R p) (List.range k)
  rw [List.length_range] at this
  exact this
theorem tSrcs_len (R : Room) (k : Nat) : (tSrcs R k).length ≤ k := by
  unfold tSrcs
  rw [List.length_map]
  have := List.length_filter_le (hasSrc R) (List.range k)
  rw [List.length_range] at this
  exact this
/-- What a walk that fills a table keeps: the table's own block, and the result's. -/
structure TB (w w' : World) (pv sv uv : Value) : Prop where
  bel : Below w.heap.size w w'
  blk : w'.heap[w.heap.size + 1]? = some (.cells #[pv, sv, uv] 61)
  blk0 : w'.heap[w.heap.size]? = some (.cells #[.slice none 0 0, .slice none 0 0, .slice none 0 0] 61)
theorem TB.size {w w' : World} {pv sv uv : Value} (h : TB w w' pv sv uv) : w.heap.size + 1 < w'.heap.size := by
  rcases Nat.lt_or_ge (w.heap.size + 1) w'.heap.size with h1 | h1
  · exact h1
  · have := h.blk
    rw [Array.getElem?_eq_none h1] at this; cases this
theorem TB.below {w w1 w' : World} {pv sv uv : Value} (h : TB w w1 pv sv uv) (hb : Below w1.heap.size w1 w') : TB w w' pv sv uv := by
  have hs := h.size
  exact ⟨h.bel.trans (hb.mono (by omega)), by rw [hb.block _ hs]; exact h.blk, by rw [hb.block _ (by omega)]; exact h.blk0⟩
theorem TB.grown {w w1 w' : World} {pv sv uv : Value} (h : TB w w1 pv sv uv) {e : TypeId} {size : Nat} {v : Value} {m : Nat} {ys : List Value} (ho : w1.ownsRow (w.heap.size + 2) e size v m ys) (hg : w1.grownBy w' v.ownBlock) : TB w w' pv sv uv := by
  have hs := h.size
  have hle := fun k (hk : v.ownBlock = some k) => (show w.heap.size + 2 ≤ k from by
    obtain ⟨_, ho⟩ := ho
    rcases ho with ⟨rfl, _⟩ | ⟨g, cap, cur, rfl, hg, _⟩
    · cases hk
    · have hk : some g = some k := hk
      cases hk; exact hg)
  refine ⟨h.bel.trans ⟨hg.os, hg.tape, hg.output, hg.size, fun k hk => hg.block k (by omega) (fun e => by have := hle k e.symm; omega)⟩, ?_, ?_⟩
  · rw [hg.block _ hs (fun e => by have := hle _ e.symm; omega)]; exact h.blk
  · rw [hg.block _ (by omega) (fun e => by have := hle _ e.symm; omega)]; exact h.blk0
theorem TB.cells {w w' : World} {pv sv uv : Value} (h : TB w w' pv sv uv) : w'.cell? ⟨w.heap.size + 1, 0, none⟩ = some pv ∧ w'.cell? ⟨w.heap.size + 1, 1, none⟩ = some sv ∧ w'.cell? ⟨w.heap.size + 1, 2, none⟩ = some uv := by
  have := h.blk
  refine ⟨?_, ?_, ?_⟩ <;> (simp only [World.cell?, this]; rfl)
theorem TB.frozen {w w' : World} {pv sv uv : Value} (h : TB w w' pv sv uv) (j : Nat) : w'.frozen? ⟨w.heap.size + 1, j, none⟩ = false := by
  have := h.blk
  simp [World.frozen?, this]
theorem TB.set {w w1 : World} {pv sv uv : Value} (h : TB w w1 pv sv uv) (j : Nat) (v : Value) : TB w (w1.setCell ⟨w.heap.size + 1, j, none⟩ v) (if j = 0 then v else pv) (if j = 1 then v else sv) (if j = 2 then v else uv) := by
  refine ⟨h.bel.setCell (by simp) _, ?_, ?_⟩
  · have := h.blk
    simp only [World.setCell, Array.getElem?_modify, this]
    simp
    by_cases h0 : j = 0
    · subst h0; rfl
    by_cases h1 : j = 1
    · subst h1; rfl
    by_cases h2 : j = 2
    · subst h2; rfl
    rw [if_neg h0, if_neg h1, if_neg h2, List.set_eq_of_length_le (by simp; omega)]
  · have := h.blk0
    simp only [World.setCell, Array.getElem?_modify, this]
    simp
end Go.Proofs.Rm
