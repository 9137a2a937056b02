/- Several texts in one: The walk of rtp.Get. The state of rtp.Get: the result, the shape, the packet. What packages stamp, door, front compute. Plain. Small laws on memory: rows of bytes in a block, what a conversion reads of them. Over any program. Laws of the walk: an array loaded out of the middle of a block; an element of an array value; a row of cells of the call's own. Over any program. The room in memory: one block of 297 cells. Items, events and what is taken, in memory. -/
import Derived.WalkKit
import Derived.Lib.Hide
import Derived.Lib.ConvBytes
import Derived.Laws.BytesString
import Derived.Lib.IndexBytes
import Derived.Laws.Rows
import Derived.Laws.Cells
import Derived.Test.YtpdjhlcbcomdkaaGreatDoorChecked
import Derived.Test.YtpdjhlcbcomdkaaGreatDoorW01
import Derived.Test.YtpdjhlcbcomdkaaGreatDoorW02
import Derived.Test.YtpdjhlcbcomdkaaGreatDoorW03
set_option linter.unusedVariables false
set_option linter.unusedSimpArgs false
set_option linter.unusedSimpArgs false
namespace Go.Proofs.By
open Go.RowKit Go.Proofs.Heap
theorem store_rowTo2 {P : Program} {ops : Array Oper} {rest : List Oper} {o : Oper} {a : Act} {w : World} {Q : Exit → Act → World → Prop} (hgd : o.guard = none) (ty : TypeId) (x y : Operand) (ho : o.op = .store ty x y)
    (hd : o.dst = none) (g : Nat) (cells : Array Value) (hx : a.eval x = .pointer (some ⟨g, 0, none⟩)) (hy : a.eval y = .agg cells)
    (t : TypeId) (old : Array Value) (hg : w.heap[g]? = some (.cells old t (0, 0))) (hi : (P.info? ty).map (·.size) = some cells.size)
    (hold : old.size = cells.size) (h1 : cells.all (·.oneCell') = true)
    (h : wpList P ops Q rest a (w.setRow g cells)) : wpList P ops Q (o :: rest) a w :=
  Go.wpList_store_row hgd ty x y ho g cells hx hy t old hg hi hold h1 (by rw [hd]; exact h)
/-- A guard for an arm: this operation stores such a struct. It proves nothing. -/
theorem store_at {P : Program} {ops : Array Oper} {rest : List Oper} {o : Oper} {a : Act} {w : World} {Q : Exit → Act → World → Prop} (ty : TypeId) (x y : Operand) (_ : o.op = .store ty x y) (h : wpList P ops Q (o :: rest) a w) : wpList P ops Q (o :: rest) a w := h
def pktAgg (p : Pkt) (cv ev pv : Value) : Value := .agg #[.bool p.marker, .int .i64 p.type, .int .u16 p.seq, .int .u32 p.time, .int .u32 p.ssrc, cv, .bool p.hasExt, .int .u16 p.profile, ev, pv, .int .i64 p.pad]
structure PktIn (w : World) (v : Value) (p : Pkt) : Prop where
  ex : ∃ cv ev pv, v = pktAgg p cv ev pv ∧ Row w 66 cv p.csrc.length (u32s p.csrc) ∧ Row w 5 ev p.ext.length (bys p.ext) ∧ Row w 5 pv p.payload.length (bys p.payload)
theorem cell_of {w : World} {b : Nat} {cs : Array Value} {e : TypeId} (h : w.heap[b]? = some (.cells cs e)) (j : Nat) : w.cell? ⟨b, j, none⟩ = cs[j]? := by
  simp only [World.cell?, h]
  rfl
theorem frozen_of {w : World} {b : Nat} {cs : Array Value} {e : TypeId} (h : w.heap[b]? = some (.cells cs e)) (j : Nat) : w.frozen? ⟨b, j, none⟩ = false := by
  simp [World.frozen?, h]
set_option maxRecDepth 100000 in
set_option maxHeartbeats 2000000 in
theorem rtpGet_err (v : Value) (b : List UInt8) (w : World) (hv : BRow w v b) (h0 : (looks b).2 ≠ 0) :
    Calls Tryz.prog 125 #[v] w fun e w' => (∃ a, e = .returned (.tuple #[a, .int .i64 (rtpGet b).2]) ∧ PktIn w' a (rtpGet b).1) ∧ Below w.heap.size w w' := by
  have HX : Hid (rtpGet b = (noPkt, (looks b).2)) := by show _ = _; unfold rtpGet; rw [if_pos h0]
  have C := fun w1 h => look_any v b w1 (hv.below (h : Below w.heap.size w w1))
  have HC := Lib.hid C
  obtain ⟨a, c, rfl, hcc, -⟩ := id hv
  clear C hv
  have bl : ((looks b).2 != 0) = true := by rw [bne_iff_ne]; exact h0
  have bl2 : ((looks b).2 == 0) = false := by rw [beq_eq_false_iff_ne]; exact h0
  generalize rtpGet b = X at *
  generalize looks b = Y at *
  go_enter Tryz.func125, Tryz.ntmps125
  go_wp2_with fail
  refine (HC.out _ (below_alloc _ _)).mono ?_
  rintro e w2 ⟨rfl, hb2⟩
  have z0 := hb2.block w.heap.size (by show _ < (w.heap.push _).size; rw [Array.size_push]; exact Nat.lt_succ_self _)
  rw [heap_new] at z0
  have zz : w.heap.size + 1 ≤ w2.heap.size := by have h := hb2.size; have h : (w.heap.push _).size ≤ w2.heap.size := h; rw [Array.size_push] at h; exact h
  have y0 := ((below_alloc w2 (.cells #[.int .i64 (Y.1.1 : Nat), .int .i64 (Y.1.2.1 : Nat), .int .i64 (Y.1.2.2 : Nat)] 238)).block w.heap.size (by omega)).trans z0
  have z1 := cell_of y0 0
  have z2 := cell_of y0 1
  have z3 := cell_of y0 2
  have z4 := cell_of y0 3
  have z5 := cell_of y0 4
  have z6 := cell_of y0 5
  have z7 := cell_of y0 6
  have z8 := cell_of y0 7
  have z9 := cell_of y0 8
  have z10 := cell_of y0 9
  have z11 := cell_of y0 10
  simp only [List.getElem?_toArray, List.getElem?_cons_zero, List.getElem?_cons_succ] at z1 z2 z3 z4 z5 z6 z7 z8 z9 z10 z11
  have hself := fun (R : World → Prop) (h : R (w2.alloc (.cells #[.int .i64 (Y.1.1 : Nat), .int .i64 (Y.1.2.1 : Nat), .int .i64 (Y.1.2.2 : Nat)] 238))) => (by rw [setRow_self _ _ _ _ _ y0]; exact h : R ((w2.alloc (.cells #[.int .i64 (Y.1.1 : Nat), .int .i64 (Y.1.2.1 : Nat), .int .i64 (Y.1.2.2 : Nat)] 238)).setRow w.heap.size #[.bool false, .int .i64 0, .int .u16 0, .int .u32 0, .int .u32 0, .slice none 0 0, .bool false, .int .u16 0, .slice none 0 0, .slice none 0 0, .int .i64 0]))
  have HS := Lib.hid hself
  clear hself z0 HC
  go_wp2_with (with_reducible refine store_at 79 (.tmp 2) (.tmp 15) rfl ?_; go_loud (refine store_rowTo2 rfl 79 (.tmp 2) (.tmp 15) rfl rfl w.heap.size #[.bool false, .int .i64 0, .int .u16 0, .int .u32 0, .int .u32 0, .slice none 0 0, .bool false, .int .u16 0, .slice none 0 0, .slice none 0 0, .int .i64 0] rfl rfl 79 _ y0 (by kernel_rfl) (by kernel_rfl) (by kernel_rfl) ?_; refine HS.out _ ?_))
  refine bodyPost_ret (v := .tuple #[.agg #[.bool false, .int .i64 0, .int .u16 0, .int .u32 0, .int .u32 0, .slice none 0 0, .bool false, .int .u16 0, .slice none 0 0, .slice none 0 0, .int .i64 0], .int .i64 Y.2]) (by simp [results, Tryz.results125, go_sem, z1, z2, z3, z4, z5, z6, z7, z8, z9, z10, z11]) rfl ⟨⟨_, by rw [HX.out], ?_⟩, ?_⟩
  · exact ⟨.slice none 0 0, .slice none 0 0, .slice none 0 0, by rw [HX.out]; rfl, by rw [HX.out]; exact Row.nil _ _, by rw [HX.out]; exact Row.nil _ _, by rw [HX.out]; exact Row.nil _ _⟩
  · have h3 := below_alloc w2 (.cells #[.int .i64 (Y.1.1 : Nat), .int .i64 (Y.1.2.1 : Nat), .int .i64 (Y.1.2.2 : Nat)] 238)
    have h4 := h3.mono (show w.heap.size ≤ w2.heap.size by omega)
    have h5 := hb2.mono (show w.heap.size ≤ (w.heap.push _).size by rw [Array.size_push]; exact Nat.le_succ _)
    exact ((below_alloc w _).trans h5).trans h4
end Go.Proofs.By
set_option linter.unusedSimpArgs false
namespace Go.Proofs.By
open Go.RowKit Go.Proofs.Heap
/-- What holds of bytes that may be a packet. -/
theorem looks_ok {b : List UInt8} (h : (looks b).2 = 0) : 12 ≤ b.length ∧ b.length ≤ 512 ∧ 12 ≤ (looks b).1.1 ∧ (looks b).1.1 ≤ (looks b).1.2.1 ∧ (looks b).1.2.1 ≤ (looks b).1.2.2 ∧ (looks b).1.2.2 ≤ b.length := by
  unfold looks at h ⊢
  by_cases h1 : 512 < b.length
  · rw [if_pos h1] at h; cases h
  rw [if_neg h1] at h ⊢
  by_cases h2 : b.length < 12
  · rw [if_pos h2] at h; cases h
  rw [if_neg h2] at h ⊢
  by_cases h3 : at8 b 0 / 64 ≠ 2
  · rw [if_pos h3] at h; cases h
  rw [if_neg h3] at h ⊢
  by_cases h4 : 192 ≤ at8 b 1 ∧ at8 b 1 ≤ 223
  · rw [if_pos h4] at h; cases h
  rw [if_neg h4] at h ⊢
  dsimp only at h ⊢
  have hE : (extn b (12 + 4 * (at8 b 0 % 16))).2 = true → 12 ≤ (extn b (12 + 4 * (at8 b 0 % 16))).1.1 ∧ (extn b (12 + 4 * (at8 b 0 % 16))).1.1 ≤ (extn b (12 + 4 * (at8 b 0 % 16))).1.2 ∧ (extn b (12 + 4 * (at8 b 0 % 16))).1.2 ≤ b.length := by
    unfold extn
    by_cases g : at8 b 0 / 16 % 2 = 0
    · rw [if_pos g]
      intro h
      have h := of_decide_eq_true h
      exact ⟨Nat.le_add_right _ _, Nat.le_refl _, h⟩
    · rw [if_neg g]
      intro h
      have h := (Bool.and_eq_true _ _).mp h
      have h := of_decide_eq_true h.2
      exact ⟨by show 12 ≤ 12 + 4 * (at8 b 0 % 16) + 4; omega, Nat.le_add_right _ _, h⟩
  generalize extn b (12 + 4 * (at8 b 0 % 16)) = x at *
  by_cases h5 : x.2 = false
  · rw [if_pos h5] at h; cases h
  rw [if_neg h5] at h ⊢
  obtain ⟨e1, e2, e3⟩ := hE (by simpa using h5)
  have hP : (padd b (b.drop x.1.2)).2 = true → (padd b (b.drop x.1.2)).1 ≤ b.length - x.1.2 := by
    unfold padd
    by_cases g : at8 b 0 / 32 % 2 = 0
    · rw [if_pos g]; intro _; exact Nat.zero_le _
    rw [if_neg g]
    by_cases g2 : (b.drop x.1.2).length = 0
    · rw [if_pos g2]; intro h; cases h
    rw [if_neg g2]
    dsimp only
    by_cases g3 : at8 (b.drop x.1.2) ((b.drop x.1.2).length - 1) = 0 ∨ (b.drop x.1.2).length < at8 (b.drop x.1.2) ((b.drop x.1.2).length - 1)
    · rw [if_pos g3]; intro h; cases h
    rw [if_neg g3]
    have hl : (b.drop x.1.2).length = b.length - x.1.2 := List.length_drop
    split
    · intro _; show at8 _ _ ≤ _; omega
    · intro h; cases h
  generalize padd b (b.drop x.1.2) = y at *
  by_cases h6 : y.2 = false
  · rw [if_pos h6] at h; cases h
  rw [if_neg h6]
  have := hP (by simpa using h6)
  exact ⟨by omega, by omega, e1, e2, by show x.1.2 ≤ b.length - y.1; omega, by show b.length - y.1 ≤ b.length; omega⟩
theorem hp_lt {w : World} {g : Nat} {o : Obj} (h : w.heap[g]? = some o) : g < w.heap.size := by
  rcases Nat.lt_or_ge g w.heap.size with h1 | h1
  · exact h1
  · rw [Array.getElem?_eq_none h1] at h; cases h
theorem hp_set {w : World} {g : Nat} {c : Array Value} {t : TypeId} {f : Nat × Nat} (h : w.heap[g]? = some (.cells c t f)) (o : Nat) (u : Value) : (w.setCell ⟨g, o, none⟩ u).heap[g]? = some (.cells (c.setIfInBounds o u) t f) := by
  simp [World.setCell, Array.getElem?_modify, h]
theorem fr_setRow (w : World) (g : Nat) (c : Array Value) : Fr w.heap.size (· = g) w (w.setRow g c) :=
  ⟨rfl, rfl, rfl, by simp [World.setRow], fun k _ hk => setRow_other w g k _ (fun e => hk e)⟩
/-- A row of another type does not feel it that a block is written over. -/
theorem Row.setRow {w : World} {e : TypeId} {v : Value} {n : Nat} {xs : List Value} (h : Row w e v n xs) {g : Nat} {c : Array Value} {t : TypeId} {f : Nat × Nat} (hg : w.heap[g]? = some (.cells c t f)) (hne : e ≠ t) (c' : Array Value) : Row (w.setRow g c') e v n xs :=
  h.fr (fr_setRow w g c') (Nat.le_refl _) (fun k _ _ hk => by have hk : k = g := hk; rw [hk, hg]; intro h; injection h with h; injection h with _ h; exact hne h.symm)
def zpkt : List Value := [.bool false, .int .i64 0, .int .u16 0, .int .u32 0, .int .u32 0, .slice none 0 0, .bool false, .int .u16 0, .slice none 0 0, .slice none 0 0, .int .i64 0]
/-- The result lies in w.heap.size, the shape in s, the packet in p. -/
structure PK (w w' : World) (s p : Nat) (sh cs : List Value) : Prop where
  bel : Below w.heap.size w w'
  res : w'.heap[w.heap.size]? = some (.cells zpkt.toArray 79)
  shp : w'.heap[s]? = some (.cells sh.toArray 238)
  blk : w'.heap[p]? = some (.cells cs.toArray 79)
  lt : w.heap.size < s ∧ s < p
theorem PK.klt {w w' : World} {s p : Nat} {sh cs : List Value} (h : PK w w' s p sh cs) : p < w'.heap.size := hp_lt h.blk
theorem PK.cell {w w' : World} {s p : Nat} {sh cs : List Value} (h : PK w w' s p sh cs) (j : Nat) : w'.cell? ⟨p, j, none⟩ = cs[j]? := by
  rw [cell_of h.blk j]; exact List.getElem?_toArray
theorem PK.frozen {w w' : World} {s p : Nat} {sh cs : List Value} (h : PK w w' s p sh cs) (j : Nat) : w'.frozen? ⟨p, j, none⟩ = false := frozen_of h.blk j
theorem PK.scell {w w' : World} {s p : Nat} {sh cs : List Value} (h : PK w w' s p sh cs) (j : Nat) : w'.cell? ⟨s, j, none⟩ = sh[j]? := by
  rw [cell_of h.shp j]; exact List.getElem?_toArray
theorem PK.drew {w w' : World} {s p : Nat} {sh cs : List Value} (h : PK w w' s p sh cs) : PK w w'.drew s p sh cs := ⟨h.bel.drew, h.res, h.shp, h.blk, h.lt⟩
theorem PK.below {w w1 w' : World} {s p : Nat} {sh cs : List Value} (h : PK w w1 s p sh cs) (hb : Below w1.heap.size w1 w') : PK w w' s p sh cs := by
  have hk := h.klt
  have hl := h.lt
  refine ⟨h.bel.trans (hb.mono (by omega)), ?_, ?_, ?_, hl⟩
  · rw [hb.block _ (by omega)]; exact h.res
  · rw [hb.block _ (by omega)]; exact h.shp
  · rw [hb.block _ (by omega)]; exact h.blk
theorem PK.set {w w' : World} {s p : Nat} {sh cs : List Value} (h : PK w w' s p sh cs) (j : Nat) (u : Value) : PK w (w'.setCell ⟨p, j, none⟩ u) s p sh (cs.set j u) := by
  have hl := h.lt
  refine ⟨h.bel.setCell (p := ⟨p, j, none⟩) (by show w.heap.size ≤ p; omega) u, ?_, ?_, ?_, hl⟩
  · rw [RowKit.Below.heap_setCell _ _ _ _ (by show w.heap.size ≠ p; omega)]; exact h.res
  · rw [RowKit.Below.heap_setCell _ _ _ _ (by show s ≠ p; omega)]; exact h.shp
  · rw [hp_set h.blk j u]; simp
theorem PK.grown {w w1 w' : World} {s p : Nat} {sh cs : List Value} (h : PK w w1 s p sh cs) {row : Option Nat} (hg : w1.grownBy w' row) (hr : ∀ j, row = some j → p < j) : PK w w' s p sh cs := by
  have hk := h.klt
  have hl := h.lt
  refine ⟨h.bel.trans ⟨hg.os, hg.tape, hg.output, hg.size, fun i hi => hg.block i (by omega) (fun e => by have := hr i e.symm; omega)⟩, ?_, ?_, ?_, hl⟩
  · rw [hg.block _ (by omega) (fun e => by have := hr _ e.symm; omega)]; exact h.res
  · rw [hg.block _ (by omega) (fun e => by have := hr _ e.symm; omega)]; exact h.shp
  · rw [hg.block _ hk (fun e => by have := hr _ e.symm; omega)]; exact h.blk
theorem PK.row {w w' : World} {s p : Nat} {sh cs : List Value} (h : PK w w' s p sh cs) (cs' : List Value) : PK w (w'.setRow (p) cs'.toArray) s p sh cs' := by
  have hl := h.lt
  have hf := fr_setRow w' (p) cs'.toArray
  have hk := h.klt
  refine ⟨h.bel.trans (Fr.below (hf.mono (show w.heap.size ≤ w'.heap.size by omega) (fun j hj hs => by have hs : j = p := hs; omega))), ?_, ?_, setRow_heap _ _ _ _ _ _ h.blk, hl⟩
  · rw [hf.block _ (by omega) (fun hs => by have hs : w.heap.size = p := hs; omega)]; exact h.res
  · rw [hf.block _ (by omega) (fun hs => by have hs : s = p := hs; omega)]; exact h.shp
/-- Beside it a row of SSRCs, above. -/
structure PL (w w' : World) (s p : Nat) (sh cs : List Value) (cv : Value) (j : Nat) (xs : List Value) : Prop where
  pk : PK w w' s p sh cs
  own : w'.ownsRow (p + 1) 66 1 cv j xs
theorem PL.grown {w w1 w' : World} {s p : Nat} {sh cs : List Value} {cv : Value} {j : Nat} {xs : List Value} (h : PL w w1 s p sh cs cv j xs) (hg : w1.grownBy w' cv.ownBlock) : PK w w' s p sh cs :=
  h.pk.grown hg (fun i hi => by have := owns_ge h.own i hi; omega)
/-- Beside it rows: the SSRCs, the extension, the payload. -/
structure PR (w w' : World) (s p : Nat) (sh cs : List Value) (cv ev pv : Value) (xs : List Int) (es ps : List UInt8) : Prop where
  pk : PK w w' s p sh cs
  csr : Row w' 66 cv xs.length (u32s xs)
  exr : Row w' 5 ev es.length (bys es)
  pyl : Row w' 5 pv ps.length (bys ps)
theorem PR.below {w w1 w' : World} {s p : Nat} {sh cs : List Value} {cv ev pv : Value} {xs : List Int} {es ps : List UInt8} (h : PR w w1 s p sh cs cv ev pv xs es ps) (hb : Below w1.heap.size w1 w') : PR w w' s p sh cs cv ev pv xs es ps :=
  ⟨h.pk.below hb, h.csr.below hb, h.exr.below hb, h.pyl.below hb⟩
theorem PR.drew {w w1 : World} {s p : Nat} {sh cs : List Value} {cv ev pv : Value} {xs : List Int} {es ps : List UInt8} (h : PR w w1 s p sh cs cv ev pv xs es ps) : PR w w1.drew s p sh cs cv ev pv xs es ps :=
  h.below (Below.refl _ _).drew
theorem PR.set {w w1 : World} {s p : Nat} {sh cs : List Value} {cv ev pv : Value} {xs : List Int} {es ps : List UInt8} (h : PR w w1 s p sh cs cv ev pv xs es ps) (j : Nat) (u : Value) : PR w (w1.setCell ⟨p, j, none⟩ u) s p sh (cs.set j u) cv ev pv xs es ps :=
  ⟨h.pk.set j u, h.csr.setCell (p := ⟨p, j, none⟩) h.pk.blk (by decide) u, h.exr.setCell (p := ⟨p, j, none⟩) h.pk.blk (by decide) u, h.pyl.setCell (p := ⟨p, j, none⟩) h.pk.blk (by decide) u⟩
end Go.Proofs.By
namespace Go.Proofs.By
open Go.Proofs.Rm (Room Turn inn of goneOp joined doo hears)
/-- The SSRC by which a peer hears a source. -/
def outOf (p s : Int) : Int := if inn p 9 && inn s 9 then 3221225472 + (256 * p + s) else 0
/-- Which peer hears which source by an SSRC. -/
def whose (x : Int) : Int × Int × Bool :=
  if inn ((x + 1073741824) % 4294967296 / 256) 9 && inn ((x + 1073741824) % 4294967296 % 256) 9 then ((x + 1073741824) % 4294967296 / 256, (x + 1073741824) % 4294967296 % 256, true) else (0, 0, false)
theorem inn_iff {n m : Int} : inn n m = true ↔ 1 ≤ n ∧ n < m := by unfold inn; simp
/-- The source's number and layer of an SSRC are a peer's own. -/
def owned (R : Room) (peer x : Int) : Bool := (of R x).2.2 && decide ((R.src (of R x).1.toNat).own = peer)
def heardBy (R : Room) (peer x : Int) : Bool := (whose x).2.2 && decide ((whose x).1 = peer) && hears R peer (whose x).2.1
/-- An error counts one. -/
def cnt (e : Int) : Int := if e = 0 then 0 else 1
/-- Farewells of a peer, one behind the other. -/
def goneAll (peer : Int) : List Int → Room → (List Turn × Room) × Int
  | [], R => (([], R), 0)
  | x :: l, R =>
    (((goneOp R peer x).1.1 ++ (goneAll peer l (goneOp R peer x).1.2).1.1, (goneAll peer l (goneOp R peer x).1.2).1.2), cnt (goneOp R peer x).2 + (goneAll peer l (goneOp R peer x).1.2).2)
theorem goneAll_snoc (peer x : Int) : ∀ (l : List Int) (R : Room),
    goneAll peer (l ++ [x]) R = (((goneAll peer l R).1.1 ++ (goneOp (goneAll peer l R).1.2 peer x).1.1, (goneOp (goneAll peer l R).1.2 peer x).1.2), (goneAll peer l R).2 + cnt (goneOp (goneAll peer l R).1.2 peer x).2)
  | [], R => by simp only [goneAll, List.nil_append, List.append_nil, Int.add_zero, Int.zero_add]
  | y :: l, R => by
    have ih := goneAll_snoc peer x l (goneOp R peer y).1.2
    rw [List.cons_append]
    unfold goneAll
    rw [ih]
    simp only [List.append_assoc, Int.add_assoc]
/-- What an item of a peer's feedback does. -/
def itemDo (R : Room) (peer : Int) (i : Itm) : (List Turn × Room) × Int :=
  if i.kind = 200 then (([], R), if owned R peer i.ssrc then 0 else 1)
  else if i.kind = 205 ∨ i.kind = 206 then (([], R), if heardBy R peer i.media then 0 else 1)
  else if i.kind = 203 then goneAll peer i.gone R
  else (([], R), 0)
def itemsDo (peer : Int) : List Itm → Room → (List Turn × Room) × Int
  | [], R => (([], R), 0)
  | x :: l, R => (((itemDo R peer x).1.1 ++ (itemsDo peer l (itemDo R peer x).1.2).1.1, (itemsDo peer l (itemDo R peer x).1.2).1.2), (itemDo R peer x).2 + (itemsDo peer l (itemDo R peer x).1.2).2)
theorem itemsDo_snoc (peer : Int) (x : Itm) : ∀ (l : List Itm) (R : Room),
    itemsDo peer (l ++ [x]) R = (((itemsDo peer l R).1.1 ++ (itemDo (itemsDo peer l R).1.2 peer x).1.1, (itemDo (itemsDo peer l R).1.2 peer x).1.2), (itemsDo peer l R).2 + (itemDo (itemsDo peer l R).1.2 peer x).2)
  | [], R => by simp only [itemsDo, List.nil_append, List.append_nil, Int.add_zero, Int.zero_add]
  | y :: l, R => by
    have ih := itemsDo_snoc peer x l (itemDo R peer y).1.2
    rw [List.cons_append]
    unfold itemsDo
    rw [ih]
    simp only [List.append_assoc, Int.add_assoc]
structure Adm where
  kind : Int
  source : Int
  epoch : Int
  err : Int
deriving DecidableEq
/-- What becomes of an operation. -/
structure Taken where
  adm : Adm
  pkt : Pkt
  dsc : Dsc
  items : List Itm
  turns : List Turn
  unknown : Int
def noTaken : Taken := ⟨⟨0, 0, 0, 0⟩, noPkt, noDsc, [], [], 0⟩
def refusedT (kind err : Int) : Taken := { noTaken with adm := ⟨kind, 0, 0, err⟩ }
def mediaT (R : Room) (ep peer : Int) (p : Pkt) (d : Dsc) : Taken :=
  if owned R peer p.ssrc && decide ((of R p.ssrc).2.1 = d.layer) then { noTaken with adm := ⟨1, (of R p.ssrc).1, ep, 0⟩, pkt := p, dsc := d } else refusedT 5 0
def feedT (ep : Int) (l : List Itm) (ts : List Turn) (u : Int) : Taken := { noTaken with adm := ⟨2, 0, ep, 0⟩, items := l, turns := ts, unknown := u }
def datagram (R : Room) (ep peer : Int) (b : List UInt8) : (Taken × Room) × Int :=
  if (sift b).2 ≠ 0 then ((refusedT 3 (sift b).2, R), ep)
  else if !joined R peer then ((refusedT 4 0, R), ep)
  else match (sift b).1 with
    | .media p d => ((mediaT R ep peer p d, R), ep)
    | .feedback l => ((feedT (ep + 1) l (itemsDo peer l R).1.1 (itemsDo peer l R).2, (itemsDo peer l R).1.2), ep + 1)
    | .none => ((feedT (ep + 1) [] [] 0, R), ep + 1)
def take (R : Room) (ep : Int) (o : Rm.Op) (b : List UInt8) (sv : Value) : (Taken × Room) × Int :=
  if o.kind = 1 then datagram R ep o.peer b
  else if (doo R o sv).2 ≠ 0 then ((refusedT 6 (doo R o sv).2, R), ep)
  else ((feedT (ep + 1) [] (doo R o sv).1.1 0, (doo R o sv).1.2), ep + 1)
end Go.Proofs.By
namespace Go.Proofs.Mem
open Go.RowKit Go.Lib
/-- A list of bytes as a string. -/
def str (l : List UInt8) : ByteArray := ⟨l.toArray⟩
theorem str_size (l : List UInt8) : (str l).size = l.length := by simp [str, ByteArray.size]
theorem str_eq (s : ByteArray) : str s.data.toList = s := by cases s; rfl
/-- The bytes m stand from place 'off' of block b on, and may be written. -/
def ByteRow (w : World) (b off : Nat) (m : List UInt8) : Prop :=
  ∀ j, j < m.length → w.cell? ⟨b, off + j, none⟩ = some (.int .u8 (m.getD j 0).toNat) ∧ w.frozen? ⟨b, off + j, none⟩ = false
theorem row_new (w : World) (e : TypeId) (s : ByteArray) : ByteRow (bytesWorld w e s) w.heap.size 0 s.data.toList := by
  intro j hj
  rw [Nat.zero_add]
  rw [← Lib.size_eq] at hj
  refine ⟨bytesWorld_cell w e s j hj, ?_⟩
  simp only [World.frozen?, bytesWorld_at_new, bytesCells]
  simp
  intro h
  have : s.data.size = s.size := rfl
  omega
end Go.Proofs.Mem
namespace Go.Proofs.Load
open Go
section
variable {P : Program}
theorem run_load_part (w : World) (g off : Nat) (ty : TypeId) (cs : Array Value) (d : TypeDesc) (hc : ∀ j, j < cs.size → w.cell? ⟨g, off + j, none⟩ = cs[j]?)
    (hu : P.underlying ty = some d) (hd : (match d with | .struct _ | .array _ _ => true | _ => false) = true) (hi : (P.info? ty).map (·.size) = some cs.size) :
    (loadVar ty ⟨g, off, none⟩).run P w = .ok (.agg cs) w := by
  have hl : (loadCells ⟨g, off, none⟩ cs.toList.length).run P w = .ok cs.toList.toArray w :=
    run_loadCells_list (P := P) w ⟨g, off, none⟩ cs.toList (fun j v hv => by
      have hj : j < cs.size := by
        have := (List.getElem?_eq_some_iff.1 hv).1
        simpa using this
      have hadd : (⟨g, off, none⟩ : Addr).add j = ⟨g, off + j, none⟩ := by unfold Addr.add; split <;> simp_all
      rw [hadd, hc j hj]
      simpa using hv)
  cases hq : P.info? ty with
  | none => simp [hq] at hi
  | some i =>
    have hs : i.size = cs.size := by simpa [hq] using hi
    have hagg : (isAgg ty).run P w = .ok true w := by
      unfold isAgg
      rw [Sem.run_bind, run_underlying hu w]
      cases d <;> simp_all
    simp only [Array.length_toList, Array.toArray_toList] at hl
    simp [loadVar, Sem.run_bind, hagg, sizeOf, typeInfo, hq, hs, hl]
theorem wp_load_part {o : Oper} {a : Act} {w : World} {K : Act → World → Prop} {Q : Exit → Act → World → Prop} (ty : TypeId) (x : Operand) (ho : o.op = .load ty x)
    (g off : Nat) (hx : a.eval x = .pointer (some ⟨g, off, none⟩)) (cs : Array Value) (d : TypeDesc) (hc : ∀ j, j < cs.size → w.cell? ⟨g, off + j, none⟩ = cs[j]?)
    (hu : P.underlying ty = some d) (hd : (match d with | .struct _ | .array _ _ => true | _ => false) = true) (hi : (P.info? ty).map (·.size) = some cs.size)
    (h : K (a.put o.dst (.agg cs)) w) : o.wp P a w K Q := by
  unfold Oper.wp execOp
  simp only [ho, hx, Instr.loadAt, Instr.sureAddr, Sem.run_bind, Sem.run_pure, Result.andThen_ok, run_load_part w g off ty cs d hc hu hd hi]
  exact h
/-- An array out of the middle of a block. -/
theorem wpList_load_part {ops : Array Oper} {rest : List Oper} {o : Oper} {a : Act} {w : World} {Q : Exit → Act → World → Prop} (hgd : o.guard = none) (ty : TypeId) (x : Operand) (ho : o.op = .load ty x)
    (g off : Nat) (hx : a.eval x = .pointer (some ⟨g, off, none⟩)) (cs : Array Value) (d : TypeDesc) (hc : ∀ j, j < cs.size → w.cell? ⟨g, off + j, none⟩ = cs[j]?)
    (hu : P.underlying ty = some d) (hd : (match d with | .struct _ | .array _ _ => true | _ => false) = true) (hi : (P.info? ty).map (·.size) = some cs.size)
    (h : wpList P ops Q rest (a.put o.dst (.agg cs)) w) : wpList P ops Q (o :: rest) a w :=
  wpList_plain hgd fun _ hK => wp_load_part ty x ho g off hx cs d hc hu hd hi (hK _ _ h)
/-- An element that is an aggregate, out of an array value. -/
theorem run_index_agg (w : World) (t e : TypeId) (n : Nat) (cs : Array Value) (i sz : Nat) (d : TypeDesc) (h : P.underlying t = some (.array n e)) (hi : i < n)
    (hu : P.underlying e = some d) (hd : (match d with | .struct _ | .array _ _ => true | _ => false) = true) (hs : (P.info? e).map (·.size) = some sz) (ys : Array Value) (hy : cs.extract (i * sz) (i * sz + sz) = ys) :
    (Instr.index t (.agg cs) (.int .i64 (i : Int))).run P w = .ok (.agg ys) w := by
  cases hq : P.info? e with
  | none => simp [hq] at hs
  | some q =>
    have hs' : q.size = sz := by simpa [hq] using hs
    have hagg : (isAgg e).run P w = .ok true w := by
      unfold isAgg
      rw [Sem.run_bind, run_underlying hu w]
      cases d <;> simp_all
    have hn : (i : Int) < n := by omega
    have h0 : (0 : Int) ≤ i := by omega
    simp [Instr.index, asIntOf, Sem.run_bind, run_underlying h w, h0, hi, part, hagg, sizeOf, typeInfo, hq, hs', hy]
/-- An element of one cell, out of an array value. -/
theorem run_index_cell (w : World) (t e : TypeId) (n : Nat) (cs : Array Value) (i : Nat) (d : TypeDesc) (h : P.underlying t = some (.array n e)) (hi : i < n)
    (hu : P.underlying e = some d) (hd : (match d with | .struct _ | .array _ _ => true | _ => false) = false) (hs : (P.info? e).map (·.size) = some 1) (y : Value) (hy : cs[i]? = some y) :
    (Instr.index t (.agg cs) (.int .i64 (i : Int))).run P w = .ok y w := by
  cases hq : P.info? e with
  | none => simp [hq] at hs
  | some q =>
    have hs' : q.size = 1 := by simpa [hq] using hs
    have hagg : (isAgg e).run P w = .ok false w := by
      unfold isAgg
      rw [Sem.run_bind, run_underlying hu w]
      cases d <;> simp_all
    have hn : (i : Int) < n := by omega
    have h0 : (0 : Int) ≤ i := by omega
    simp [Instr.index, asIntOf, Sem.run_bind, run_underlying h w, h0, hi, part, hagg, sizeOf, typeInfo, hq, hs', hy]
end
end Go.Proofs.Load
namespace Go.Proofs.Rm
open Go.RowKit Go.Proofs.Heap Go.Proofs.Mem
def srcCell (s : Src) (i : Nat) : Value :=
  if i = 0 then .bool s.there else if i = 1 then .int .i64 s.num else if i = 2 then .int .i64 s.own else if i = 3 then s.sv else .bool s.muted
def subCell (x : Sub) (i : Nat) : Value :=
  if i = 0 then .bool x.there else if i = 1 then .bool x.paused else .int .i64 x.want
def roomCell (R : Room) (j : Nat) : Value :=
  if j < 9 then .string (str (R.names j)) else if j < 54 then srcCell (R.src ((j - 9) / 5)) ((j - 9) % 5)
  else subCell (R.sub ((j - 54) / 27) ((j - 54) % 27 / 3)) ((j - 54) % 3)
def u32s (l : List Int) : List Value := l.map (Value.int .u32)
/-- Block b holds the room R. -/
structure RoomAt (w : World) (b : Nat) (R : Room) : Prop where
  cells : ∃ c, w.heap[b]? = some (.cells c 152) ∧ c.size = 297 ∧ ∀ j, j < 297 → c[j]? = some (roomCell R j)
  rows : ∀ n, n < 9 → Row w 66 (R.src n).sv (R.src n).ss.length (u32s (R.src n).ss)
theorem RoomAt.lt {w : World} {b : Nat} {R : Room} (h : RoomAt w b R) : b < w.heap.size := by
  obtain ⟨c, hc, _⟩ := h.cells
  rcases Nat.lt_or_ge b w.heap.size with h | h
  · exact h
  · rw [Array.getElem?_eq_none h] at hc; cases hc
theorem RoomAt.cell {w : World} {b : Nat} {R : Room} (h : RoomAt w b R) {j : Nat} (hj : j < 297) : w.cell? ⟨b, j, none⟩ = some (roomCell R j) := by
  obtain ⟨c, hc, _, hall⟩ := h.cells
  simp only [World.cell?, hc]
  exact hall j hj
theorem RoomAt.unfrozen {w : World} {b : Nat} {R : Room} (h : RoomAt w b R) (j : Nat) : w.frozen? ⟨b, j, none⟩ = false := by
  obtain ⟨c, hc, _, _⟩ := h.cells
  simp [World.frozen?, hc]
theorem RoomAt.fr {B : Nat} {S : Nat → Prop} {w w' : World} {b : Nat} {R : Room} (h : RoomAt w b R) (hf : Fr B S w w') (hB : w.heap.size ≤ B) (hb : ¬ S b) (hS : ∀ k c fr, S k → w.heap[k]? ≠ some (.cells c 66 fr)) : RoomAt w' b R := by
  have hlt := h.lt
  obtain ⟨c, hc, hs, hall⟩ := h.cells
  exact ⟨⟨c, by rw [hf.block b (by omega) hb]; exact hc, hs, hall⟩, fun n hn => (h.rows n hn).fr hf hB hS⟩
theorem RoomAt.below {w w' : World} {b : Nat} {R : Room} (h : RoomAt w b R) (hb : Below w.heap.size w w') : RoomAt w' b R :=
  h.fr (Fr.of_below NoB hb) (Nat.le_refl _) (fun x => x) (fun _ _ _ h => h.elim)
/-- Block b is no row of SSRCs. -/
theorem RoomAt.other {w : World} {b : Nat} {R : Room} (h : RoomAt w b R) : ∀ k c fr, k = b → w.heap[k]? ≠ some (.cells c 66 fr) := by
  intro k c fr hk e
  subst hk
  obtain ⟨c', hc, _, _⟩ := h.cells
  rw [hc] at e
  injection e with e
  injection e with _ e _
  exact absurd e (by decide)
theorem RoomAt.set {w : World} {b : Nat} {R R' : Room} (h : RoomAt w b R) {i : Nat} {v : Value} (hi : i < 297) (hv : ∀ j, j < 297 → roomCell R' j = if j = i then v else roomCell R j)
    (hr : ∀ n, n < 9 → Row w 66 (R'.src n).sv (R'.src n).ss.length (u32s (R'.src n).ss)) : RoomAt (w.setCell ⟨b, i, none⟩ v) b R' := by
  have ho := h.other
  obtain ⟨c, hc, hs, hall⟩ := h.cells
  refine ⟨⟨c.setIfInBounds i v, ?_, by rw [Array.size_setIfInBounds]; exact hs, fun j hj => ?_⟩, fun n hn => ?_⟩
  · simp [World.setCell, Array.getElem?_modify, hc]
  · rw [hv j hj, Array.getElem?_setIfInBounds]
    by_cases hij : i = j
    · subst hij
      rw [if_pos rfl, if_pos rfl, if_pos (by omega)]
    · rw [if_neg hij, if_neg (fun e => hij e.symm)]
      exact hall j hj
  · exact (hr n hn).fr ((Fr.refl w.heap.size (· = b) w).setCell (Or.inr rfl) v) (Nat.le_refl _) ho
theorem rc_sub (R : Room) {n p i : Nat} (hn : n < 9) (hp : p < 9) (hi : i < 3) : roomCell R (54 + n * 27 + p * 3 + i) = subCell (R.sub n p) i := by
  unfold roomCell
  rw [if_neg (by omega), if_neg (by omega), show (54 + n * 27 + p * 3 + i - 54) / 27 = n by omega, show (54 + n * 27 + p * 3 + i - 54) % 27 / 3 = p by omega, show (54 + n * 27 + p * 3 + i - 54) % 3 = i by omega]
theorem rc_src (R : Room) {n i : Nat} (hn : n < 9) (hi : i < 5) : roomCell R (9 + n * 5 + i) = srcCell (R.src n) i := by
  unfold roomCell
  rw [if_neg (by omega), if_pos (by omega), show (9 + n * 5 + i - 9) / 5 = n by omega, show (9 + n * 5 + i - 9) % 5 = i by omega]
theorem RoomAt.subc {w : World} {b : Nat} {R : Room} (h : RoomAt w b R) {n p : Nat} (hn : n < 9) (hp : p < 9) :
    w.cell? ⟨b, 54 + n * 27 + p * 3, none⟩ = some (.bool (R.sub n p).there) ∧ w.cell? ⟨b, 54 + n * 27 + p * 3 + 1, none⟩ = some (.bool (R.sub n p).paused) ∧ w.cell? ⟨b, 54 + n * 27 + p * 3 + 2, none⟩ = some (.int .i64 (R.sub n p).want) :=
  ⟨by rw [h.cell (by omega)]; exact congrArg some (rc_sub R (i := 0) hn hp (by omega)), by rw [h.cell (by omega), rc_sub R hn hp (by omega)]; rfl, by rw [h.cell (by omega), rc_sub R hn hp (by omega)]; rfl⟩
theorem RoomAt.srcc {w : World} {b : Nat} {R : Room} (h : RoomAt w b R) {n : Nat} (hn : n < 9) :
    w.cell? ⟨b, 9 + n * 5, none⟩ = some (.bool (R.src n).there) ∧ w.cell? ⟨b, 9 + n * 5 + 1, none⟩ = some (.int .i64 (R.src n).num) ∧ w.cell? ⟨b, 9 + n * 5 + 2, none⟩ = some (.int .i64 (R.src n).own) ∧ w.cell? ⟨b, 9 + n * 5 + 3, none⟩ = some (R.src n).sv ∧ w.cell? ⟨b, 9 + n * 5 + 4, none⟩ = some (.bool (R.src n).muted) :=
  ⟨by rw [h.cell (by omega)]; exact congrArg some (rc_src R (i := 0) hn (by omega)), by rw [h.cell (by omega), rc_src R hn (by omega)]; rfl, by rw [h.cell (by omega), rc_src R hn (by omega)]; rfl, by rw [h.cell (by omega), rc_src R hn (by omega)]; rfl, by rw [h.cell (by omega), rc_src R hn (by omega)]; rfl⟩
theorem RoomAt.namec {w : World} {b : Nat} {R : Room} (h : RoomAt w b R) {p : Nat} (hp : p < 9) : w.cell? ⟨b, p, none⟩ = some (.string (str (R.names p))) := by
  rw [h.cell (by omega)]; unfold roomCell; rw [if_pos hp]
theorem sub_setSub (R : Room) (n p : Nat) (x : Sub) : (R.setSub n p x).sub n p = x := by simp [Room.setSub]
theorem setSub_setSub (R : Room) (n p : Nat) (x y : Sub) : (R.setSub n p x).setSub n p y = R.setSub n p y := by
  unfold Room.setSub
  congr 1
  funext m q
  dsimp only
  split <;> rfl
theorem RoomAt.setSubCell {w : World} {b : Nat} {R : Room} (h : RoomAt w b R) {n p i : Nat} (hn : n < 9) (hp : p < 9) (hi : i < 3) {x : Sub} {v : Value} (hx : ∀ j, j < 3 → subCell x j = if j = i then v else subCell (R.sub n p) j) :
    RoomAt (w.setCell ⟨b, 54 + n * 27 + p * 3 + i, none⟩ v) b (R.setSub n p x) := by
  refine h.set (by omega) (fun j hj => ?_) h.rows
  by_cases h1 : j < 54
  · unfold roomCell
    rw [if_neg (by omega : ¬ j = 54 + n * 27 + p * 3 + i)]
    by_cases h2 : j < 9
    · rw [if_pos h2, if_pos h2]; rfl
    · rw [if_neg h2, if_neg h2, if_pos h1, if_pos h1]; rfl
  · unfold roomCell
    rw [if_neg (by omega : ¬ j < 9), if_neg h1, if_neg (by omega : ¬ j < 9), if_neg h1]
    by_cases h3 : (j - 54) / 27 = n ∧ (j - 54) % 27 / 3 = p
    · have e : (R.setSub n p x).sub ((j - 54) / 27) ((j - 54) % 27 / 3) = x := by simp [Room.setSub, h3]
      rw [e, h3.1, h3.2, hx _ (by omega)]
      have : ((j - 54) % 3 = i) ↔ (j = 54 + n * 27 + p * 3 + i) := by omega
      by_cases h4 : (j - 54) % 3 = i
      · rw [if_pos h4, if_pos (this.1 h4)]
      · rw [if_neg h4, if_neg (fun e => h4 (this.2 e))]
    · have e : (R.setSub n p x).sub ((j - 54) / 27) ((j - 54) % 27 / 3) = R.sub ((j - 54) / 27) ((j - 54) % 27 / 3) := by simp [Room.setSub, h3]
      rw [e, if_neg (by omega)]
theorem RoomAt.setSub {w : World} {b : Nat} {R : Room} (h : RoomAt w b R) {n p : Nat} (hn : n < 9) (hp : p < 9) (x : Sub) :
    RoomAt (((w.setCell ⟨b, 54 + n * 27 + p * 3, none⟩ (.bool x.there)).setCell ⟨b, 54 + n * 27 + p * 3 + 1, none⟩ (.bool x.paused)).setCell ⟨b, 54 + n * 27 + p * 3 + 2, none⟩ (.int .i64 x.want)) b (R.setSub n p x) := by
  have h1 := h.setSubCell hn hp (i := 0) (by omega) (x := { R.sub n p with there := x.there }) (v := .bool x.there) (by intro j hj; unfold subCell; by_cases h0 : j = 0 <;> simp [h0])
  have h2 := h1.setSubCell hn hp (i := 1) (by omega) (x := { R.sub n p with there := x.there, paused := x.paused }) (v := .bool x.paused) (by
    intro j hj; rw [sub_setSub]; unfold subCell; by_cases h0 : j = 0 <;> by_cases h1 : j = 1 <;> simp [h0, h1])
  have h3 := h2.setSubCell hn hp (i := 2) (by omega) (x := x) (v := .int .i64 x.want) (by
    intro j hj; rw [sub_setSub]; unfold subCell; by_cases h0 : j = 0 <;> by_cases h1 : j = 1 <;> simp [h0, h1]; omega)
  rw [setSub_setSub, setSub_setSub] at h3
  exact h3
theorem u32s_length (l : List Int) : (u32s l).length = l.length := List.length_map _
theorem u32s_one (l : List Int) : ∀ u ∈ u32s l, u.oneCell' = true := by
  intro u hu
  obtain ⟨x, _, rfl⟩ := List.mem_map.1 hu
  rfl
theorem u32_open {w : World} {v : Value} {l : List Int} (h : Row w 66 v l.length (u32s l)) (hl : 0 < l.length) : ∃ g off cap, v = .slice (some ⟨g, off, none⟩) l.length cap ∧ l.length ≤ cap ∧ cap ≤ maxLen ∧ g < w.heap.size ∧
    ∀ j, j < l.length → w.cell? ⟨g, off + j, none⟩ = some (.int .u32 (l.getD j 0)) := by
  obtain ⟨g, off, cap, h1, h2, h3, h4, h5⟩ := h.open (by rw [u32s_length]; exact hl)
  refine ⟨g, off, cap, h1, h2, h3, h4, fun j hj => ?_⟩
  rw [h5 j (by rw [u32s_length]; exact hj), List.getD_eq_getElem?_getD, List.getElem?_eq_getElem hj]
  simp [u32s, hj]
theorem u32_openR {w : World} {v : Value} {l : List Int} (h : RRow w v l.length (u32s l)) (hl : 0 < l.length) : ∃ g off cap, v = .slice (some ⟨g, off, none⟩) l.length cap ∧ l.length ≤ cap ∧ cap ≤ maxLen ∧ g < w.heap.size ∧
    ∀ j, j < l.length → w.cell? ⟨g, off + j, none⟩ = some (.int .u32 (l.getD j 0)) := by
  obtain ⟨g, off, cap, h1, h2, h3, h4, h5⟩ := h.open (by rw [u32s_length]; exact hl)
  refine ⟨g, off, cap, h1, h2, h3, h4, fun j hj => ?_⟩
  rw [h5 j (by rw [u32s_length]; exact hj), List.getD_eq_getElem?_getD, List.getElem?_eq_getElem hj]
  simp [u32s, hj]
theorem elemInt : Elem Tryz.prog 72 3 1 8 := ⟨Tryz.underlying72, ⟨.int .i64 0, by kernel_rfl, rfl⟩, by decide⟩
theorem elemU32 : Elem Tryz.prog 29 66 1 4 := ⟨Tryz.underlying29, ⟨.int .u32 0, by kernel_rfl, rfl⟩, by decide⟩
theorem elemTurn : Elem Tryz.prog 98 158 5 40 := ⟨Tryz.underlying98, ⟨.agg #[.int .i64 0, .int .i64 0, .int .i64 0, .int .i64 0, .int .u32 0], by kernel_rfl, rfl⟩, by decide⟩
/-- The cells of a turn. -/
def turnCells (t : Turn) : List Value := [.int .i64 t.kind, .int .i64 t.peer, .int .i64 t.source, .int .i64 t.layer, .int .u32 t.ssrc]
def turnAgg (t : Turn) : Value := .agg #[.int .i64 t.kind, .int .i64 t.peer, .int .i64 t.source, .int .i64 t.layer, .int .u32 t.ssrc]
abbrev TurnRow (w : World) (v : Value) (l : List Turn) : Prop := Row w 158 v l.length (l.flatMap turnCells)
def ints (l : List Nat) : List Value := l.map fun (n : Nat) => Value.int .i64 (n : Int)
/-- A row that was just made. -/
theorem row_new (w : World) (e : TypeId) (n : Nat) (xs : List Value) (hn : n ≤ maxLen) : Row (w.alloc (.cells xs.toArray e)) e (.slice (some ⟨w.heap.size, 0, none⟩) n n) n xs :=
  ⟨_, n, rfl, Nat.le_refl _, hn, (fun h => by cases h), Or.inr ⟨_, 0, xs.toArray, (0, 0), rfl, (by show (w.heap.push _)[w.heap.size]? = _; simp), fun j _ => by simp⟩⟩
theorem row_new' (w : World) (e : TypeId) (n m : Nat) (xs : List Value) (hn : n ≤ maxLen) (hm : m = w.heap.size) : Row (w.alloc (.cells xs.toArray e)) e (.slice (some ⟨m, 0, none⟩) n n) n xs := by
  subst hm; exact row_new w e n xs hn
end Go.Proofs.Rm
set_option linter.unusedSimpArgs false
namespace Go.Proofs.By
open Go.RowKit Go.Proofs.Heap
open Go.Proofs.Rm (TurnRow Turn Room RoomAt u32s turnCells)
/-- A row of another type does not feel it that blocks change that are not of its type. -/
theorem Row.frT {B : Nat} {S : Nat → Prop} {w w' : World} {e : TypeId} {v : Value} {n : Nat} {xs : List Value} (h : Row w e v n xs) (hf : Fr B S w w') (hB : w.heap.size ≤ B) (hS : ∀ k c fr, S k → w.heap[k]? ≠ some (.cells c e fr)) : Row w' e v n xs := h.fr hf hB hS
/-- An item, its three slices' values beside it. -/
structure ItmV where
  i : Itm
  bv : Value
  gv : Value
  pv : Value
def itmvCells (x : ItmV) : List Value := [.int .i64 x.i.kind, .int .u32 x.i.ssrc, .int .u64 x.i.ntp, .int .u32 x.i.time, .int .u32 x.i.packets, .int .u32 x.i.octets, x.bv, x.gv, .int .u32 x.i.media, x.pv]
structure ItmR (w : World) (x : ItmV) : Prop where
  b : Row w 228 x.bv x.i.blocks.length (x.i.blocks.flatMap blkCells)
  g : Row w 66 x.gv x.i.gone.length (u32s x.i.gone)
  p : Row w 226 x.pv x.i.pairs.length (x.i.pairs.flatMap pairCells)
structure ItmsV (w : World) (v : Value) (L : List ItmV) : Prop where
  row : Row w 173 v L.length (L.flatMap itmvCells)
  each : ∀ x ∈ L, ItmR w x
def ItmsRow (w : World) (v : Value) (l : List Itm) : Prop := ∃ L : List ItmV, l = L.map (·.i) ∧ ItmsV w v L
theorem ItmR.below {w w' : World} {x : ItmV} (h : ItmR w x) (hb : Below w.heap.size w w') : ItmR w' x := ⟨h.b.below hb, h.g.below hb, h.p.below hb⟩
theorem ItmsRow.below {w w' : World} {v : Value} {l : List Itm} (h : ItmsRow w v l) (hb : Below w.heap.size w w') : ItmsRow w' v l := by
  obtain ⟨L, h1, h2, h3⟩ := h
  exact ⟨L, h1, h2.below hb, fun x hx => (h3 x hx).below hb⟩
theorem ItmsRow.nil (w : World) : ItmsRow w (.slice none 0 0) [] := ⟨[], rfl, Row.nil _ _, fun _ h => by cases h⟩
/-- None of the blocks that change holds any of these. -/
def Apart (w : World) (S : Nat → Prop) : Prop := ∀ k, S k → ∃ c t fr, w.heap[k]? = some (.cells c t fr) ∧ t ≠ 228 ∧ t ≠ 66 ∧ t ≠ 226 ∧ t ≠ 173 ∧ t ≠ 5 ∧ t ≠ 158 ∧ t ≠ 32
theorem Apart.ne {w : World} {S : Nat → Prop} (h : Apart w S) {e : TypeId} (he : e = 228 ∨ e = 66 ∨ e = 226 ∨ e = 173 ∨ e = 5 ∨ e = 158 ∨ e = 32) : ∀ k c fr, S k → w.heap[k]? ≠ some (.cells c e fr) := by
  intro k c fr hk hc
  obtain ⟨c', t, fr', h1, h2⟩ := h k hk
  rw [h1] at hc
  injection hc with hc
  injection hc with _ hc
  subst hc
  obtain ⟨q1, q2, q3, q4, q5, q6, q7⟩ := h2
  rcases he with h | h | h | h | h | h | h
  · exact q1 h
  · exact q2 h
  · exact q3 h
  · exact q4 h
  · exact q5 h
  · exact q6 h
  · exact q7 h
theorem ItmsRow.fr {w w' : World} {v : Value} {l : List Itm} {S : Nat → Prop} (h : ItmsRow w v l) (hf : Fr w.heap.size S w w') (hS : Apart w S) : ItmsRow w' v l := by
  obtain ⟨L, h1, h2, h3⟩ := h
  exact ⟨L, h1, Row.fr h2 hf (Nat.le_refl _) (hS.ne (by simp)), fun x hx => ⟨Row.fr (h3 x hx).b hf (Nat.le_refl _) (hS.ne (by simp)), Row.fr (h3 x hx).g hf (Nat.le_refl _) (hS.ne (by simp)), Row.fr (h3 x hx).p hf (Nat.le_refl _) (hS.ne (by simp))⟩⟩
theorem Row.form {w : World} {e : TypeId} {v : Value} {n : Nat} {xs : List Value} (h : Row w e v n xs) : ∃ a c, v = .slice a n c := by
  obtain ⟨a, c, h, _⟩ := h
  exact ⟨a, c, h⟩
theorem ItmsRow.form {w : World} {v : Value} {l : List Itm} (h : ItmsRow w v l) : ∃ a c, v = .slice a l.length c := by
  obtain ⟨L, h1, h2, _⟩ := h
  obtain ⟨a, c, h⟩ := Row.form h2
  exact ⟨a, c, by rw [h, h1, List.length_map]⟩
/-- A packet's cells, and a description's. -/
def medCells (p : Pkt) (d : Dsc) (cv ev pv : Value) : List Value := [.bool p.marker, .int .i64 p.type, .int .u16 p.seq, .int .u32 p.time, .int .u32 p.ssrc, cv, .bool p.hasExt, .int .u16 p.profile, ev, pv, .int .i64 p.pad, .int .i64 d.layer, .bool d.key, .bool d.start, .int .u16 d.frame]
structure PktR (w : World) (p : Pkt) (cv ev pv : Value) : Prop where
  c : Row w 66 cv p.csrc.length (u32s p.csrc)
  e : Row w 5 ev p.ext.length (bys p.ext)
  p : Row w 5 pv p.payload.length (bys p.payload)
theorem PktR.below {w w' : World} {p : Pkt} {cv ev pv : Value} (h : PktR w p cv ev pv) (hb : Below w.heap.size w w') : PktR w' p cv ev pv := ⟨h.c.below hb, h.e.below hb, h.p.below hb⟩
theorem PktR.fr {w w' : World} {p : Pkt} {cv ev pv : Value} {S : Nat → Prop} (h : PktR w p cv ev pv) (hf : Fr w.heap.size S w w') (hS : Apart w S) : PktR w' p cv ev pv :=
  ⟨Row.fr h.c hf (Nat.le_refl _) (hS.ne (by simp)), Row.fr h.e hf (Nat.le_refl _) (hS.ne (by simp)), Row.fr h.p hf (Nat.le_refl _) (hS.ne (by simp))⟩
theorem PktR.nil (w : World) : PktR w noPkt (.slice none 0 0) (.slice none 0 0) (.slice none 0 0) := ⟨Row.nil _ _, Row.nil _ _, Row.nil _ _⟩
theorem PktR.form {w : World} {p : Pkt} {cv ev pv : Value} (h : PktR w p cv ev pv) : (∃ a c, cv = .slice a p.csrc.length c) ∧ (∃ a c, ev = .slice a p.ext.length c) ∧ (∃ a c, pv = .slice a p.payload.length c) := ⟨Row.form h.c, Row.form h.e, Row.form h.p⟩
/-- The value of an event. -/
def EvIn (w : World) (v : Value) : Ev → Prop
  | .none => v = .nilIface
  | .media p d => ∃ cv ev pv, v = .iface 97 (.agg (medCells p d cv ev pv).toArray) ∧ PktR w p cv ev pv
  | .feedback l => ∃ iv, v = .iface 213 (.agg #[iv]) ∧ ItmsRow w iv l
theorem EvIn.below {w w' : World} {v : Value} {e : Ev} (h : EvIn w v e) (hb : Below w.heap.size w w') : EvIn w' v e := by
  cases e with
  | none => exact h
  | media p d => obtain ⟨cv, ev, pv, h1, h2⟩ := h; exact ⟨cv, ev, pv, h1, h2.below hb⟩
  | feedback l => obtain ⟨iv, h1, h2⟩ := h; exact ⟨iv, h1, h2.below hb⟩
/-- The cells of what is taken. -/
def tkCells (T : Taken) (cv ev pv iv tv : Value) : List Value := [.int .i64 T.adm.kind, .int .i64 T.adm.source, .int .i64 T.adm.epoch, .int .i64 T.adm.err] ++ medCells T.pkt T.dsc cv ev pv ++ [iv, tv, .int .i64 T.unknown]
structure TakenIn (w : World) (cs : List Value) (T : Taken) : Prop where
  ex : ∃ cv ev pv iv tv, cs = tkCells T cv ev pv iv tv ∧ PktR w T.pkt cv ev pv ∧ ItmsRow w iv T.items ∧ TurnRow w tv T.turns
theorem TakenIn.size {w : World} {cs : List Value} {T : Taken} (h : TakenIn w cs T) : cs.length = 22 := by
  obtain ⟨cv, ev, pv, iv, tv, rfl, _⟩ := h.ex
  rfl
theorem TakenIn.one {w : World} {cs : List Value} {T : Taken} (h : TakenIn w cs T) : cs.toArray.all (·.oneCell') = true := by
  obtain ⟨cv, ev, pv, iv, tv, rfl, h1, h2, h3⟩ := h.ex
  obtain ⟨⟨_, _, rfl⟩, ⟨_, _, rfl⟩, ⟨_, _, rfl⟩⟩ := h1.form
  obtain ⟨_, _, rfl⟩ := h2.form
  obtain ⟨_, _, rfl⟩ := Row.form h3
  kernel_rfl
theorem TakenIn.below {w w' : World} {cs : List Value} {T : Taken} (h : TakenIn w cs T) (hb : Below w.heap.size w w') : TakenIn w' cs T := by
  obtain ⟨cv, ev, pv, iv, tv, h1, h2, h3, h4⟩ := h.ex
  exact ⟨cv, ev, pv, iv, tv, h1, h2.below hb, h3.below hb, h4.below hb⟩
theorem TakenIn.fr {w w' : World} {cs : List Value} {T : Taken} {S : Nat → Prop} (h : TakenIn w cs T) (hf : Fr w.heap.size S w w') (hS : Apart w S) : TakenIn w' cs T := by
  obtain ⟨cv, ev, pv, iv, tv, h1, h2, h3, h4⟩ := h.ex
  exact ⟨cv, ev, pv, iv, tv, h1, h2.fr hf hS, h3.fr hf hS, Row.fr h4 hf (Nat.le_refl _) (hS.ne (by simp))⟩
theorem TakenIn.refused (w : World) (k e : Int) : TakenIn w (tkCells (refusedT k e) (.slice none 0 0) (.slice none 0 0) (.slice none 0 0) (.slice none 0 0) (.slice none 0 0)) (refusedT k e) :=
  ⟨_, _, _, _, _, rfl, PktR.nil w, ItmsRow.nil w, Row.nil _ _⟩
/-- A door: its room lies in b, so many control events there were. -/
structure DoorAt (w : World) (g b : Nat) (R : Room) (ep : Int) : Prop where
  blk : w.heap[g]? = some (.cells #[.pointer (some ⟨b, 0, none⟩), .int .i64 ep] 131 (0, 0))
  room : RoomAt w b R
theorem DoorAt.cells {w : World} {g b : Nat} {R : Room} {ep : Int} (h : DoorAt w g b R ep) : w.cell? ⟨g, 0, none⟩ = some (.pointer (some ⟨b, 0, none⟩)) ∧ w.cell? ⟨g, 1, none⟩ = some (.int .i64 ep) ∧ w.frozen? ⟨g, 1, none⟩ = false ∧ g < w.heap.size :=
  ⟨cell_of h.blk 0, cell_of h.blk 1, frozen_of h.blk 1, hp_lt h.blk⟩
theorem DoorAt.below {w w' : World} {g b : Nat} {R : Room} {ep : Int} (h : DoorAt w g b R ep) (hb : Below w.heap.size w w') : DoorAt w' g b R ep := ⟨by rw [hb.block g (hp_lt h.blk)]; exact h.blk, h.room.below hb⟩
theorem DoorAt.apart {w : World} {g b : Nat} {R : Room} {ep : Int} (h : DoorAt w g b R ep) : Apart w (fun k => k = b ∨ k = g) := by
  rintro k (rfl | rfl)
  · obtain ⟨c, hc, _, _⟩ := h.room.cells
    exact ⟨c, _, _, hc, by decide, by decide, by decide, by decide, by decide, by decide, by decide⟩
  · exact ⟨_, _, _, h.blk, by decide, by decide, by decide, by decide, by decide, by decide, by decide⟩
end Go.Proofs.By
