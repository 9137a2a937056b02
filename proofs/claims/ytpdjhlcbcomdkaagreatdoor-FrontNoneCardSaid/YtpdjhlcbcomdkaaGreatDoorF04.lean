/- Several texts in one: The walk of rtp.Get. The state of rtp.Get: the result, the shape, the packet. Plain laws on peer names: runes of a list of bytes; which names may be; their keys; their beginnings. No program in sight. -/
import Derived.Lib.MapLaws
import Derived.Lib.ValidLaws
import Derived.Test.YtpdjhlcbcomdkaaGreatDoorF02
import Derived.Test.YtpdjhlcbcomdkaaGreatDoorF03
set_option linter.unusedSimpArgs false
namespace Go.Proofs.By
open Go.RowKit Go.Proofs.Heap
theorem store_rowTo2 {P : Program} {ops : Array Oper} {rest : List Oper} {o : Oper} {a : Act} {w : World} {Q : Exit → Act → World → Prop} (hgd : o.guard = none) (ty : TypeId) (x y : Operand) (ho : o.op = .store ty x y)
    (hd : o.dst = none) (g : Nat) (cells : Array Value) (hx : a.eval x = .pointer (some ⟨g, 0, none⟩)) (hy : a.eval y = .agg cells)
    (t : TypeId) (old : Array Value) (hg : w.heap[g]? = some (.cells old t (0, 0))) (hi : (P.info? ty).map (·.size) = some cells.size)
    (hold : old.size = cells.size) (h1 : cells.all (·.oneCell') = true)
    (h : wpList P ops Q rest a (w.setRow g cells)) : wpList P ops Q (o :: rest) a w :=
  Go.wpList_store_row hgd ty x y ho g cells hx hy t old hg hi hold h1 (by rw [hd]; exact h)
/-- A guard for an arm: this operation stores such a struct. It proves nothing. -/
theorem store_at {P : Program} {ops : Array Oper} {rest : List Oper} {o : Oper} {a : Act} {w : World} {Q : Exit → Act → World → Prop} (ty : TypeId) (x y : Operand) (_ : o.op = .store ty x y) (h : wpList P ops Q (o :: rest) a w) : wpList P ops Q (o :: rest) a w := h
def pktAgg (p : Pkt) (cv ev pv : Value) : Value := .agg #[.bool p.marker, .int .i64 p.type, .int .u16 p.seq, .int .u32 p.time, .int .u32 p.ssrc, cv, .bool p.hasExt, .int .u16 p.profile, ev, pv, .int .i64 p.pad]
structure PktIn (w : World) (v : Value) (p : Pkt) : Prop where
  ex : ∃ cv ev pv, v = pktAgg p cv ev pv ∧ Row w 66 cv p.csrc.length (u32s p.csrc) ∧ Row w 5 ev p.ext.length (bys p.ext) ∧ Row w 5 pv p.payload.length (bys p.payload)
theorem cell_of {w : World} {b : Nat} {cs : Array Value} {e : TypeId} (h : w.heap[b]? = some (.cells cs e)) (j : Nat) : w.cell? ⟨b, j, none⟩ = cs[j]? := by
  simp only [World.cell?, h]
  rfl
theorem frozen_of {w : World} {b : Nat} {cs : Array Value} {e : TypeId} (h : w.heap[b]? = some (.cells cs e)) (j : Nat) : w.frozen? ⟨b, j, none⟩ = false := by
  simp [World.frozen?, h]
theorem fr11 (w : World) (k : Nat) (v0 v1 v2 v3 v4 v5 v6 v7 v8 v9 v10 : Value) : Fr w.heap.size (· = k) w (((((((((((w.setCell ⟨k, 0, none⟩ v0).setCell ⟨k, 1, none⟩ v1).setCell ⟨k, 2, none⟩ v2).setCell ⟨k, 3, none⟩ v3).setCell ⟨k, 4, none⟩ v4).setCell ⟨k, 5, none⟩ v5).setCell ⟨k, 6, none⟩ v6).setCell ⟨k, 7, none⟩ v7).setCell ⟨k, 8, none⟩ v8).setCell ⟨k, 9, none⟩ v9).setCell ⟨k, 10, none⟩ v10) := ((((((((((((Fr.refl _ _ _).setAt 0 v0).setAt 1 v1).setAt 2 v2).setAt 3 v3).setAt 4 v4).setAt 5 v5).setAt 6 v6).setAt 7 v7).setAt 8 v8).setAt 9 v9).setAt 10 v10)
set_option maxRecDepth 100000 in
set_option maxHeartbeats 2000000 in
theorem rtpGet_err (v : Value) (b : List UInt8) (w : World) (hv : BRow w v b) (h0 : (looks b).2 ≠ 0) :
    Calls Tryz.prog 125 #[v] w fun e w' => (∃ a, e = .returned (.tuple #[a, .int .i64 (rtpGet b).2]) ∧ PktIn w' a (rtpGet b).1) ∧ Below w.heap.size w w' := by
  have HX : Hid (rtpGet b = (noPkt, (looks b).2)) := by show _ = _; unfold rtpGet; rw [if_pos h0]
  have C := fun w1 h => look_any v b w1 (hv.below (h : Below w.heap.size w w1))
  have HC := Lib.hid C
  obtain ⟨a, c, rfl, hcc, -⟩ := id hv
  clear C hv
  have bl : ((looks b).2 != 0) = true := by rw [bne_iff_ne]; exact h0
  have bl2 : ((looks b).2 == 0) = false := by rw [beq_eq_false_iff_ne]; exact h0
  generalize rtpGet b = X at *
  generalize looks b = Y at *
  go_enter Tryz.func125, Tryz.ntmps125
  go_wp2_with fail
  refine (HC.out _ (below_alloc _ _)).mono ?_
  rintro e w2 ⟨rfl, hb2⟩
  have z0 := hb2.block w.heap.size (by show _ < (w.heap.push _).size; rw [Array.size_push]; exact Nat.lt_succ_self _)
  rw [heap_new] at z0
  have zz : w.heap.size + 1 ≤ w2.heap.size := by have h := hb2.size; have h : (w.heap.push _).size ≤ w2.heap.size := h; rw [Array.size_push] at h; exact h
  have y0 := ((below_alloc w2 (.cells #[.int .i64 (Y.1.1 : Nat), .int .i64 (Y.1.2.1 : Nat), .int .i64 (Y.1.2.2 : Nat)] 238)).block w.heap.size (by omega)).trans z0
  have z1 := cell_of y0 0
  have z2 := cell_of y0 1
  have z3 := cell_of y0 2
  have z4 := cell_of y0 3
  have z5 := cell_of y0 4
  have z6 := cell_of y0 5
  have z7 := cell_of y0 6
  have z8 := cell_of y0 7
  have z9 := cell_of y0 8
  have z10 := cell_of y0 9
  have z11 := cell_of y0 10
  simp only [List.getElem?_toArray, List.getElem?_cons_zero, List.getElem?_cons_succ] at z1 z2 z3 z4 z5 z6 z7 z8 z9 z10 z11
  have hself := fun (R : World → Prop) (h : R (w2.alloc (.cells #[.int .i64 (Y.1.1 : Nat), .int .i64 (Y.1.2.1 : Nat), .int .i64 (Y.1.2.2 : Nat)] 238))) => (by rw [setRow_self _ _ _ _ _ y0]; exact h : R ((w2.alloc (.cells #[.int .i64 (Y.1.1 : Nat), .int .i64 (Y.1.2.1 : Nat), .int .i64 (Y.1.2.2 : Nat)] 238)).setRow w.heap.size #[.bool false, .int .i64 0, .int .u16 0, .int .u32 0, .int .u32 0, .slice none 0 0, .bool false, .int .u16 0, .slice none 0 0, .slice none 0 0, .int .i64 0]))
  have HS := Lib.hid hself
  clear hself z0 HC
  go_wp2_with (with_reducible refine store_at 79 (.tmp 2) (.tmp 15) rfl ?_; go_loud (refine store_rowTo2 rfl 79 (.tmp 2) (.tmp 15) rfl rfl w.heap.size #[.bool false, .int .i64 0, .int .u16 0, .int .u32 0, .int .u32 0, .slice none 0 0, .bool false, .int .u16 0, .slice none 0 0, .slice none 0 0, .int .i64 0] rfl rfl 79 _ y0 (by kernel_rfl) (by kernel_rfl) (by kernel_rfl) ?_; refine HS.out _ ?_))
  refine bodyPost_ret (v := .tuple #[.agg #[.bool false, .int .i64 0, .int .u16 0, .int .u32 0, .int .u32 0, .slice none 0 0, .bool false, .int .u16 0, .slice none 0 0, .slice none 0 0, .int .i64 0], .int .i64 Y.2]) (by simp [results, Tryz.results125, go_sem, z1, z2, z3, z4, z5, z6, z7, z8, z9, z10, z11]) rfl ⟨⟨_, by rw [HX.out], ?_⟩, ?_⟩
  · exact ⟨.slice none 0 0, .slice none 0 0, .slice none 0 0, by rw [HX.out]; rfl, by rw [HX.out]; exact Row.nil _ _, by rw [HX.out]; exact Row.nil _ _, by rw [HX.out]; exact Row.nil _ _⟩
  · have h3 := below_alloc w2 (.cells #[.int .i64 (Y.1.1 : Nat), .int .i64 (Y.1.2.1 : Nat), .int .i64 (Y.1.2.2 : Nat)] 238)
    have h4 := h3.mono (show w.heap.size ≤ w2.heap.size by omega)
    have h5 := hb2.mono (show w.heap.size ≤ (w.heap.push _).size by rw [Array.size_push]; exact Nat.le_succ _)
    exact ((below_alloc w _).trans h5).trans h4
end Go.Proofs.By
set_option linter.unusedSimpArgs false
namespace Go.Proofs.By
open Go.RowKit Go.Proofs.Heap
/-- What holds of bytes that may be a packet. -/
theorem looks_ok {b : List UInt8} (h : (looks b).2 = 0) : 12 ≤ b.length ∧ b.length ≤ 512 ∧ 12 ≤ (looks b).1.1 ∧ (looks b).1.1 ≤ (looks b).1.2.1 ∧ (looks b).1.2.1 ≤ (looks b).1.2.2 ∧ (looks b).1.2.2 ≤ b.length := by
  unfold looks at h ⊢
  by_cases h1 : 512 < b.length
  · rw [if_pos h1] at h; cases h
  rw [if_neg h1] at h ⊢
  by_cases h2 : b.length < 12
  · rw [if_pos h2] at h; cases h
  rw [if_neg h2] at h ⊢
  by_cases h3 : at8 b 0 / 64 ≠ 2
  · rw [if_pos h3] at h; cases h
  rw [if_neg h3] at h ⊢
  by_cases h4 : 192 ≤ at8 b 1 ∧ at8 b 1 ≤ 223
  · rw [if_pos h4] at h; cases h
  rw [if_neg h4] at h ⊢
  dsimp only at h ⊢
  have hE : (extn b (12 + 4 * (at8 b 0 % 16))).2 = true → 12 ≤ (extn b (12 + 4 * (at8 b 0 % 16))).1.1 ∧ (extn b (12 + 4 * (at8 b 0 % 16))).1.1 ≤ (extn b (12 + 4 * (at8 b 0 % 16))).1.2 ∧ (extn b (12 + 4 * (at8 b 0 % 16))).1.2 ≤ b.length := by
    unfold extn
    by_cases g : at8 b 0 / 16 % 2 = 0
    · rw [if_pos g]
      intro h
      have h := of_decide_eq_true h
      exact ⟨Nat.le_add_right _ _, Nat.le_refl _, h⟩
    · rw [if_neg g]
      intro h
      have h := (Bool.and_eq_true _ _).mp h
      have h := of_decide_eq_true h.2
      exact ⟨by show 12 ≤ 12 + 4 * (at8 b 0 % 16) + 4; omega, Nat.le_add_right _ _, h⟩
  generalize extn b (12 + 4 * (at8 b 0 % 16)) = x at *
  by_cases h5 : x.2 = false
  · rw [if_pos h5] at h; cases h
  rw [if_neg h5] at h ⊢
  obtain ⟨e1, e2, e3⟩ := hE (by simpa using h5)
  have hP : (padd b (b.drop x.1.2)).2 = true → (padd b (b.drop x.1.2)).1 ≤ b.length - x.1.2 := by
    unfold padd
    by_cases g : at8 b 0 / 32 % 2 = 0
    · rw [if_pos g]; intro _; exact Nat.zero_le _
    rw [if_neg g]
    by_cases g2 : (b.drop x.1.2).length = 0
    · rw [if_pos g2]; intro h; cases h
    rw [if_neg g2]
    dsimp only
    by_cases g3 : at8 (b.drop x.1.2) ((b.drop x.1.2).length - 1) = 0 ∨ (b.drop x.1.2).length < at8 (b.drop x.1.2) ((b.drop x.1.2).length - 1)
    · rw [if_pos g3]; intro h; cases h
    rw [if_neg g3]
    have hl : (b.drop x.1.2).length = b.length - x.1.2 := List.length_drop
    split
    · intro _; show at8 _ _ ≤ _; omega
    · intro h; cases h
  generalize padd b (b.drop x.1.2) = y at *
  by_cases h6 : y.2 = false
  · rw [if_pos h6] at h; cases h
  rw [if_neg h6]
  have := hP (by simpa using h6)
  exact ⟨by omega, by omega, e1, e2, by show x.1.2 ≤ b.length - y.1; omega, by show b.length - y.1 ≤ b.length; omega⟩
theorem hp_lt {w : World} {g : Nat} {o : Obj} (h : w.heap[g]? = some o) : g < w.heap.size := by
  rcases Nat.lt_or_ge g w.heap.size with h1 | h1
  · exact h1
  · rw [Array.getElem?_eq_none h1] at h; cases h
theorem hp_set {w : World} {g : Nat} {c : Array Value} {t : TypeId} {f : Nat × Nat} (h : w.heap[g]? = some (.cells c t f)) (o : Nat) (u : Value) : (w.setCell ⟨g, o, none⟩ u).heap[g]? = some (.cells (c.setIfInBounds o u) t f) := by
  simp [World.setCell, Array.getElem?_modify, h]
theorem fr_setRow (w : World) (g : Nat) (c : Array Value) : Fr w.heap.size (· = g) w (w.setRow g c) :=
  ⟨rfl, rfl, rfl, by simp [World.setRow], fun k _ hk => setRow_other w g k _ (fun e => hk e)⟩
/-- A row of another type does not feel it that a block is written over. -/
theorem Row.setRow {w : World} {e : TypeId} {v : Value} {n : Nat} {xs : List Value} (h : Row w e v n xs) {g : Nat} {c : Array Value} {t : TypeId} {f : Nat × Nat} (hg : w.heap[g]? = some (.cells c t f)) (hne : e ≠ t) (c' : Array Value) : Row (w.setRow g c') e v n xs :=
  h.fr (fr_setRow w g c') (Nat.le_refl _) (fun k _ _ hk => by have hk : k = g := hk; rw [hk, hg]; intro h; injection h with h; injection h with _ h; exact hne h.symm)
def zpkt : List Value := [.bool false, .int .i64 0, .int .u16 0, .int .u32 0, .int .u32 0, .slice none 0 0, .bool false, .int .u16 0, .slice none 0 0, .slice none 0 0, .int .i64 0]
/-- The result lies in w.heap.size, the shape in s, the packet in p. -/
structure PK (w w' : World) (s p : Nat) (sh cs : List Value) : Prop where
  bel : Below w.heap.size w w'
  res : w'.heap[w.heap.size]? = some (.cells zpkt.toArray 79)
  shp : w'.heap[s]? = some (.cells sh.toArray 238)
  blk : w'.heap[p]? = some (.cells cs.toArray 79)
  lt : w.heap.size < s ∧ s < p
theorem PK.klt {w w' : World} {s p : Nat} {sh cs : List Value} (h : PK w w' s p sh cs) : p < w'.heap.size := hp_lt h.blk
theorem PK.cell {w w' : World} {s p : Nat} {sh cs : List Value} (h : PK w w' s p sh cs) (j : Nat) : w'.cell? ⟨p, j, none⟩ = cs[j]? := by
  rw [cell_of h.blk j]; exact List.getElem?_toArray
theorem PK.frozen {w w' : World} {s p : Nat} {sh cs : List Value} (h : PK w w' s p sh cs) (j : Nat) : w'.frozen? ⟨p, j, none⟩ = false := frozen_of h.blk j
theorem PK.scell {w w' : World} {s p : Nat} {sh cs : List Value} (h : PK w w' s p sh cs) (j : Nat) : w'.cell? ⟨s, j, none⟩ = sh[j]? := by
  rw [cell_of h.shp j]; exact List.getElem?_toArray
theorem PK.drew {w w' : World} {s p : Nat} {sh cs : List Value} (h : PK w w' s p sh cs) : PK w w'.drew s p sh cs := ⟨h.bel.drew, h.res, h.shp, h.blk, h.lt⟩
theorem PK.below {w w1 w' : World} {s p : Nat} {sh cs : List Value} (h : PK w w1 s p sh cs) (hb : Below w1.heap.size w1 w') : PK w w' s p sh cs := by
  have hk := h.klt
  have hl := h.lt
  refine ⟨h.bel.trans (hb.mono (by omega)), ?_, ?_, ?_, hl⟩
  · rw [hb.block _ (by omega)]; exact h.res
  · rw [hb.block _ (by omega)]; exact h.shp
  · rw [hb.block _ (by omega)]; exact h.blk
theorem PK.set {w w' : World} {s p : Nat} {sh cs : List Value} (h : PK w w' s p sh cs) (j : Nat) (u : Value) : PK w (w'.setCell ⟨p, j, none⟩ u) s p sh (cs.set j u) := by
  have hl := h.lt
  refine ⟨h.bel.setCell (p := ⟨p, j, none⟩) (by show w.heap.size ≤ p; omega) u, ?_, ?_, ?_, hl⟩
  · rw [RowKit.Below.heap_setCell _ _ _ _ (by show w.heap.size ≠ p; omega)]; exact h.res
  · rw [RowKit.Below.heap_setCell _ _ _ _ (by show s ≠ p; omega)]; exact h.shp
  · rw [hp_set h.blk j u]; simp
theorem PK.grown {w w1 w' : World} {s p : Nat} {sh cs : List Value} (h : PK w w1 s p sh cs) {row : Option Nat} (hg : w1.grownBy w' row) (hr : ∀ j, row = some j → p < j) : PK w w' s p sh cs := by
  have hk := h.klt
  have hl := h.lt
  refine ⟨h.bel.trans ⟨hg.os, hg.tape, hg.output, hg.size, fun i hi => hg.block i (by omega) (fun e => by have := hr i e.symm; omega)⟩, ?_, ?_, ?_, hl⟩
  · rw [hg.block _ (by omega) (fun e => by have := hr _ e.symm; omega)]; exact h.res
  · rw [hg.block _ (by omega) (fun e => by have := hr _ e.symm; omega)]; exact h.shp
  · rw [hg.block _ hk (fun e => by have := hr _ e.symm; omega)]; exact h.blk
theorem PK.row {w w' : World} {s p : Nat} {sh cs : List Value} (h : PK w w' s p sh cs) (cs' : List Value) : PK w (w'.setRow (p) cs'.toArray) s p sh cs' := by
  have hl := h.lt
  have hf := fr_setRow w' (p) cs'.toArray
  have hk := h.klt
  refine ⟨h.bel.trans (Fr.below (hf.mono (show w.heap.size ≤ w'.heap.size by omega) (fun j hj hs => by have hs : j = p := hs; omega))), ?_, ?_, setRow_heap _ _ _ _ _ _ h.blk, hl⟩
  · rw [hf.block _ (by omega) (fun hs => by have hs : w.heap.size = p := hs; omega)]; exact h.res
  · rw [hf.block _ (by omega) (fun hs => by have hs : s = p := hs; omega)]; exact h.shp
/-- Beside it a row of SSRCs, above. -/
structure PL (w w' : World) (s p : Nat) (sh cs : List Value) (cv : Value) (j : Nat) (xs : List Value) : Prop where
  pk : PK w w' s p sh cs
  own : w'.ownsRow (p + 1) 66 1 cv j xs
theorem PL.grown {w w1 w' : World} {s p : Nat} {sh cs : List Value} {cv : Value} {j : Nat} {xs : List Value} (h : PL w w1 s p sh cs cv j xs) (hg : w1.grownBy w' cv.ownBlock) : PK w w' s p sh cs :=
  h.pk.grown hg (fun i hi => by have := owns_ge h.own i hi; omega)
/-- Beside it rows: the SSRCs, the extension, the payload. -/
structure PR (w w' : World) (s p : Nat) (sh cs : List Value) (cv ev pv : Value) (xs : List Int) (es ps : List UInt8) : Prop where
  pk : PK w w' s p sh cs
  csr : Row w' 66 cv xs.length (u32s xs)
  exr : Row w' 5 ev es.length (bys es)
  pyl : Row w' 5 pv ps.length (bys ps)
theorem PR.below {w w1 w' : World} {s p : Nat} {sh cs : List Value} {cv ev pv : Value} {xs : List Int} {es ps : List UInt8} (h : PR w w1 s p sh cs cv ev pv xs es ps) (hb : Below w1.heap.size w1 w') : PR w w' s p sh cs cv ev pv xs es ps :=
  ⟨h.pk.below hb, h.csr.below hb, h.exr.below hb, h.pyl.below hb⟩
theorem PR.drew {w w1 : World} {s p : Nat} {sh cs : List Value} {cv ev pv : Value} {xs : List Int} {es ps : List UInt8} (h : PR w w1 s p sh cs cv ev pv xs es ps) : PR w w1.drew s p sh cs cv ev pv xs es ps :=
  h.below (Below.refl _ _).drew
theorem PR.set {w w1 : World} {s p : Nat} {sh cs : List Value} {cv ev pv : Value} {xs : List Int} {es ps : List UInt8} (h : PR w w1 s p sh cs cv ev pv xs es ps) (j : Nat) (u : Value) : PR w (w1.setCell ⟨p, j, none⟩ u) s p sh (cs.set j u) cv ev pv xs es ps :=
  ⟨h.pk.set j u, h.csr.setCell (p := ⟨p, j, none⟩) h.pk.blk (by decide) u, h.exr.setCell (p := ⟨p, j, none⟩) h.pk.blk (by decide) u, h.pyl.setCell (p := ⟨p, j, none⟩) h.pk.blk (by decide) u⟩
end Go.Proofs.By
namespace Go.Proofs.Lab
open Go Go.Lib

theorem ne_of_len {l : List UInt8} (h : 0 < l.length) : l ≠ [] := List.length_pos_iff.1 h
def rnGo : Nat → List UInt8 → List (Nat × Nat)
  | 0, _ => []
  | n + 1, l => if l = [] then [] else decodeL l :: rnGo n (l.drop (decodeL l).2)
def rn (l : List UInt8) : List (Nat × Nat) := rnGo l.length l

theorem rnGo_fuel : ∀ (n m : Nat) (l : List UInt8), l.length ≤ n → l.length ≤ m → rnGo n l = rnGo m l
  | 0, m, l, hn, _ => by
    have : l = [] := List.eq_nil_of_length_eq_zero (by omega)
    subst this; cases m <;> simp [rnGo]
  | n + 1, 0, l, _, hm => by
    have : l = [] := List.eq_nil_of_length_eq_zero (by omega)
    subst this; simp [rnGo]
  | n + 1, m + 1, l, hn, hm => by
    by_cases hne : l = []
    · simp [rnGo, hne]
    · have hw := decodeL_width l
      have hl : 0 < l.length := List.length_pos_iff.2 hne
      simp only [rnGo, if_neg hne]
      rw [rnGo_fuel n m _ (by rw [List.length_drop]; omega) (by rw [List.length_drop]; omega)]
theorem rn_nil : rn [] = [] := rfl
theorem rn_step (l : List UInt8) (hne : l ≠ []) : rn l = decodeL l :: rn (l.drop (decodeL l).2) := by
  have hw := decodeL_width l
  have hl : 0 < l.length := List.length_pos_iff.2 hne
  unfold rn
  obtain ⟨n, hn⟩ : ∃ n, l.length = n + 1 := ⟨l.length - 1, by omega⟩
  rw [hn, rnGo, if_neg hne, rnGo_fuel n _ _ (by rw [List.length_drop]; omega) (Nat.le_refl _)]
theorem rn_ind {motive : List UInt8 → Prop} (nil : motive []) (step : ∀ l, l ≠ [] → motive (l.drop (decodeL l).2) → motive l) (l : List UInt8) : motive l := by
  have key : ∀ n l, l.length ≤ n → motive l := by
    intro n
    induction n with
    | zero => intro l hl; have : l = [] := List.eq_nil_of_length_eq_zero (by omega); subst this; exact nil
    | succ n ih =>
      intro l hl
      by_cases hne : l = []
      · subst hne; exact nil
      · have hw := decodeL_width l
        have hl : 0 < l.length := List.length_pos_iff.2 hne
        exact step l hne (ih _ (by rw [List.length_drop]; omega))
  exact key _ l (Nat.le_refl _)

/-- Not a byte that belongs to no encoding. -/
def good (p : Nat × Nat) : Bool := !(p.1 == 65533 && p.2 == 1)
def okR (r : Nat) : Bool := decide (33 ≤ r) && (decide (r < 127) || decide (159 < r)) && !(r == 65533)
def may (l : List UInt8) : Bool := (rn l).all (fun p => okR p.1) && decide (1 ≤ (rn l).length) && decide ((rn l).length ≤ 8)
def runes (l : List UInt8) : Int := if (rn l).all good then ((rn l).length : Int) else -1
def low (b : UInt8) : UInt8 := if 65 ≤ b.toNat ∧ b.toNat ≤ 90 then b + 32 else b
def key (l : List UInt8) : List UInt8 := if may l then l.map low else []
def widths (R : List (Nat × Nat)) : Nat := (R.map (·.2)).sum
def cutAt (l : List UInt8) (k : Nat) : Nat := widths ((rn l).take k)
def cut (l : List UInt8) (n : Int) : List UInt8 := l.take (cutAt l n.toNat)

theorem okR_good {p : Nat × Nat} (h : okR p.1 = true) : good p = true := by
  unfold okR at h; unfold good; simp at h ⊢; exact Or.inl h.2
theorem may_valid {l : List UInt8} (h : may l = true) : (rn l).all good = true := by
  unfold may at h
  simp only [Bool.and_eq_true] at h
  exact List.all_eq_true.2 fun p hp => okR_good (List.all_eq_true.1 h.1.1 p hp)
theorem validD_rn : ∀ l, validD l = (rn l).all good := by
  refine rn_ind rfl ?_
  intro l hne ih
  rw [validD_step l hne, rn_step l hne, List.all_cons, ih]
  unfold good
  by_cases h : (decodeL l).1 = 65533 ∧ (decodeL l).2 = 1
  · simp [h]
  · rw [if_neg h]
    have : ((decodeL l).1 == 65533 && (decodeL l).2 == 1) = false := by
      rw [Bool.eq_false_iff]; simpa using h
    simp [this]
theorem widths_rn : ∀ l, widths (rn l) = l.length := by
  refine rn_ind rfl ?_
  intro l hne ih
  have h1 := decodeL_le l hne
  rw [rn_step l hne]
  unfold widths at *
  rw [List.map_cons, List.sum_cons, ih, List.length_drop]; omega
theorem widths_take (R : List (Nat × Nat)) (k : Nat) : widths (R.take k) ≤ widths R := by
  unfold widths
  induction R generalizing k with
  | nil => simp
  | cons a R ih => cases k with
    | zero => simp
    | succ k => simp only [List.take_succ_cons, List.map_cons, List.sum_cons]; have := ih k; omega
theorem cutAt_le (l : List UInt8) (k : Nat) : cutAt l k ≤ l.length := by
  rw [← widths_rn l]; exact widths_take _ _
theorem cutAt_zero (l : List UInt8) : cutAt l 0 = 0 := rfl
theorem rn_length_le : ∀ l, (rn l).length ≤ l.length := by
  refine rn_ind (by simp [rn_nil]) ?_
  intro l hne ih
  have h1 := decodeL_le l hne
  have h2 := decodeL_width l
  rw [rn_step l hne]
  rw [List.length_drop] at ih
  simp; omega
/-- What lies behind the first k runes. -/
theorem rn_drop : ∀ l, ∀ k, rn (l.drop (cutAt l k)) = (rn l).drop k := by
  refine rn_ind (by intro k; simp [rn_nil]) ?_
  intro l hne ih k
  cases k with
  | zero => simp [cutAt_zero]
  | succ k =>
    have := ih k
    unfold cutAt at *
    rw [rn_step l hne, List.take_succ_cons, List.drop_succ_cons]
    unfold widths at *
    rw [List.map_cons, List.sum_cons, ← this, List.drop_drop]
theorem cutAt_succ (l : List UInt8) (k : Nat) (h : cutAt l k < l.length) : cutAt l (k + 1) = cutAt l k + (decodeL (l.drop (cutAt l k))).2 := by
  have hne : l.drop (cutAt l k) ≠ [] := ne_of_len (by rw [List.length_drop]; omega)
  have h1 := rn_drop l k
  rw [rn_step _ hne] at h1
  unfold cutAt at *
  have hk : (rn l)[k]? = some (decodeL (l.drop (widths ((rn l).take k)))) := by
    have := congrArg (·[0]?) h1
    simpa using this.symm
  rw [List.take_add_one, hk]
  unfold widths
  simp
theorem cutAt_end (l : List UInt8) (k : Nat) : cutAt l k = l.length ↔ (rn l).length ≤ k := by
  constructor
  · intro h
    have h1 := rn_drop l k
    rw [h, List.drop_length, rn_nil] at h1
    have := congrArg List.length h1
    rw [List.length_drop] at this; simp at this; omega
  · intro h
    unfold cutAt; rw [List.take_of_length_le h, widths_rn]
theorem cutAt_lt (l : List UInt8) (k : Nat) : cutAt l k < l.length ↔ k < (rn l).length := by
  have h1 := cutAt_end l k
  have h2 := cutAt_le l k
  omega
theorem cutAt_ge (l : List UInt8) (k : Nat) (h : k ≤ (rn l).length) : k ≤ cutAt l k := by
  induction k with
  | zero => exact Nat.zero_le _
  | succ k ih =>
    have := (cutAt_lt l k).2 (by omega)
    have := ih (by omega)
    rw [cutAt_succ l k (by assumption)]
    have := decodeL_width (l.drop (cutAt l k))
    omega
theorem rn_at (l : List UInt8) (k : Nat) (h : k < (rn l).length) : (rn l)[k] = decodeL (l.drop (cutAt l k)) := by
  have hlt := (cutAt_lt l k).2 h
  have hne : l.drop (cutAt l k) ≠ [] := ne_of_len (by rw [List.length_drop]; omega)
  have h1 := rn_drop l k
  rw [rn_step _ hne] at h1
  have := congrArg (·[0]?) h1
  simp [List.getElem?_eq_getElem h] at this
  exact this.symm

/-- A rune that is decoded well stays what it is, whatever follows. -/
theorem decode_grows (l t : List UInt8) (hg : good (decodeL l) = true) (hne : l ≠ []) : decodeL (l ++ t) = decodeL l := by
  have hl : 0 < l.length := List.length_pos_iff.2 hne
  have hG : ¬ ((decodeL l).1 = 65533 ∧ (decodeL l).2 = 1) := by
    unfold good at hg; intro h; simp [h] at hg
  have e0 : (l ++ t).getD 0 0 = l.getD 0 0 := by
    rw [List.getD_eq_getElem?_getD, List.getD_eq_getElem?_getD, List.getElem?_append_left hl]
  rw [decodeL_N] at hG
  rw [decodeL_N, decodeL_N, e0]
  have hgd : ∀ i, i < l.length → (l ++ t).getD i 0 = l.getD i 0 := by
    intro i hi
    rw [List.getD_eq_getElem?_getD, List.getD_eq_getElem?_getD, List.getElem?_append_left hi]
  have hle : l.length ≤ (l ++ t).length := by rw [List.length_append]; omega
  rcases decodeN_shape l.length (l.getD 0 0).toNat (l.getD 1 0).toNat (l.getD 2 0).toNat (l.getD 3 0).toNat with ⟨c, e⟩ | ⟨c1, c2, c3, cv, e⟩ | ⟨c1, c2, c3, c4, cv, cs, e⟩ | ⟨c1, c2, c3, c4, c5, cv, cw, e⟩ | e
  · rw [e]; unfold decodeN; rw [if_pos c]
  · rw [e, hgd 1 c2]; unfold decodeN
    rw [if_neg (by omega), if_pos (by omega), if_pos (by omega)]
  · rw [e, hgd 1 (by omega), hgd 2 (by omega)]; unfold decodeN
    rw [if_neg (by omega), if_neg (by omega), if_pos (by omega), if_pos (by omega)]
  · rw [e, hgd 1 (by omega), hgd 2 (by omega), hgd 3 (by omega)]; unfold decodeN
    rw [if_neg (by omega), if_neg (by omega), if_neg (by omega), if_pos (by omega), if_pos (by omega)]
  · rw [e] at hG; exact absurd ⟨rfl, rfl⟩ hG
theorem decode_bad {p : Nat × Nat} (h : good p = false) : p = (65533, 1) := by
  unfold good at h; simp at h; exact Prod.ext h.1 h.2
/-- A beginning that holds the first rune whole. -/
theorem decode_take (l : List UInt8) (n : Nat) (hne : l ≠ []) (hn : (decodeL l).2 ≤ n) : decodeL (l.take n) = decodeL l := by
  have hw := decodeL_width l
  have hl : 0 < l.length := List.length_pos_iff.2 hne
  have hne' : l.take n ≠ [] := ne_of_len (by rw [List.length_take]; omega)
  by_cases hg : good (decodeL (l.take n)) = true
  · have := decode_grows (l.take n) (l.drop n) hg hne'
    rw [List.take_append_drop] at this; exact this.symm
  · have hg := decode_bad (by simpa using hg)
    by_cases hg2 : good (decodeL l) = true
    · exfalso
      have hG : ¬ ((decodeL l).1 = 65533 ∧ (decodeL l).2 = 1) := by
        unfold good at hg2; intro h; simp [h] at hg2
      have h3 : decodeL (l.take n) = decodeL l := by
        rw [decodeL_N] at hn hG
        rw [decodeL_N, decodeL_N]
        have hgd : ∀ i, i < n → (l.take n).getD i 0 = l.getD i 0 := by
          intro i hi
          rw [List.getD_eq_getElem?_getD, List.getD_eq_getElem?_getD, List.getElem?_take_of_lt hi]
        have hln : (l.take n).length = min n l.length := List.length_take
        rcases decodeN_shape l.length (l.getD 0 0).toNat (l.getD 1 0).toNat (l.getD 2 0).toNat (l.getD 3 0).toNat with ⟨c, e⟩ | ⟨c1, c2, c3, cv, e⟩ | ⟨c1, c2, c3, c4, cv, cs, e⟩ | ⟨c1, c2, c3, c4, c5, cv, cw, e⟩ | e
        · rw [e] at hn ⊢; dsimp only at hn; rw [hgd 0 (by omega)]; unfold decodeN; rw [if_pos c]
        · rw [e] at hn ⊢; dsimp only at hn; rw [hgd 0 (by omega), hgd 1 (by omega)]; unfold decodeN
          rw [if_neg (by omega), if_pos (by omega), if_pos (by omega)]
        · rw [e] at hn ⊢; dsimp only at hn; rw [hgd 0 (by omega), hgd 1 (by omega), hgd 2 (by omega)]; unfold decodeN
          rw [if_neg (by omega), if_neg (by omega), if_pos (by omega), if_pos (by omega)]
        · rw [e] at hn ⊢; dsimp only at hn; rw [hgd 0 (by omega), hgd 1 (by omega), hgd 2 (by omega), hgd 3 (by omega)]; unfold decodeN
          rw [if_neg (by omega), if_neg (by omega), if_neg (by omega), if_pos (by omega), if_pos (by omega)]
        · rw [e] at hG; exact absurd ⟨rfl, rfl⟩ hG
      rw [h3] at hg
      exact hG ⟨by rw [hg], by rw [hg]⟩
    · have hg2 : good (decodeL l) = false := by simpa using hg2
      rw [hg, decode_bad hg2]
theorem rn_cut : ∀ l, ∀ k, rn (l.take (cutAt l k)) = (rn l).take k := by
  refine rn_ind (by intro k; simp [rn_nil]) ?_
  intro l hne ih k
  cases k with
  | zero => simp [cutAt_zero, rn_nil]
  | succ k =>
    have hw := decodeL_width l
    have hl : 0 < l.length := List.length_pos_iff.2 hne
    have hc : cutAt l (k + 1) = (decodeL l).2 + cutAt (l.drop (decodeL l).2) k := by
      unfold cutAt widths; rw [rn_step l hne, List.take_succ_cons, List.map_cons, List.sum_cons]
    have hd := decode_take l (cutAt l (k + 1)) hne (by omega)
    have hne' : l.take (cutAt l (k + 1)) ≠ [] := ne_of_len (by rw [List.length_take]; omega)
    rw [rn_step _ hne', hd, rn_step l hne, List.take_succ_cons, List.drop_take, hc, Nat.add_sub_cancel_left, ih k]
theorem rn_append : ∀ a, (rn a).all good = true → ∀ b, rn (a ++ b) = rn a ++ rn b := by
  refine rn_ind (by intro _ b; simp [rn_nil]) ?_
  intro l hne ih h b
  rw [rn_step l hne, List.all_cons, Bool.and_eq_true] at h
  have hd := decode_grows l b h.1 hne
  have hle := decodeL_le l hne
  rw [rn_step _ (by simp [hne]), hd, rn_step l hne, List.drop_append_of_le_length hle, ih h.2 b, List.cons_append]

/-! The statements' plain content -/
theorem cut_cut (l : List UInt8) (m n : Int) : cut (cut l m) n = cut l (min m n) := by
  unfold cut
  have h : cutAt (l.take (cutAt l m.toNat)) n.toNat = cutAt l (min n.toNat m.toNat) := by
    unfold cutAt
    have := rn_cut l m.toNat
    unfold cutAt at this
    rw [this, List.take_take]
  rw [h, List.take_take]
  have hm : min n.toNat m.toNat = (min m n).toNat := by omega
  rw [hm]
  congr 1
  have : cutAt l (min m n).toNat ≤ cutAt l m.toNat := by
    have e : (rn l).take (min m n).toNat = ((rn l).take m.toNat).take (min m n).toNat := by rw [List.take_take]; congr 1; omega
    unfold cutAt; rw [e]; exact widths_take _ _
  omega
theorem runes_cut (l : List UInt8) (m : Int) (h : ¬ runes l < 0) : runes (cut l m) = min (max m 0) (runes l) := by
  have hv : (rn l).all good = true := by
    unfold runes at h; split at h
    · assumption
    · simp at h
  have hv2 : ((rn l).take m.toNat).all good = true := by
    rw [List.all_eq_true] at *; intro p hp; exact hv p (List.mem_of_mem_take hp)
  unfold runes cut
  rw [rn_cut, if_pos hv2, if_pos hv, List.length_take]; omega
theorem runes_join (a b : List UInt8) (ha : ¬ runes a < 0) (hb : ¬ runes b < 0) : runes (a ++ b) = runes a + runes b ∧ cut (a ++ b) (runes a) = a := by
  have va : (rn a).all good = true := by
    unfold runes at ha; split at ha
    · assumption
    · simp at ha
  have vb : (rn b).all good = true := by
    unfold runes at hb; split at hb
    · assumption
    · simp at hb
  unfold runes cut cutAt
  rw [rn_append a va b]
  simp only [List.all_append, va, vb, Bool.and_true, if_true, List.length_append]
  refine ⟨by omega, ?_⟩
  rw [Int.toNat_natCast, List.take_append_of_le_length (Nat.le_refl _), List.take_length, widths_rn]
  simp

theorem decodeL_w4 (l : List UInt8) : (decodeL l).2 ≤ 4 := by
  rw [decodeL_N]
  rcases decodeN_shape l.length (l.getD 0 0).toNat (l.getD 1 0).toNat (l.getD 2 0).toNat (l.getD 3 0).toNat with ⟨c, e⟩ | ⟨c1, c2, c3, cv, e⟩ | ⟨c1, c2, c3, c4, cv, cs, e⟩ | ⟨c1, c2, c3, c4, c5, cv, cw, e⟩ | e
  all_goals (rw [e]; dsimp only; omega)
theorem length_le4 : ∀ l, l.length ≤ 4 * (rn l).length := by
  refine rn_ind (by simp [rn_nil]) ?_
  intro l hne ih
  have h1 := decodeL_w4 l
  rw [List.length_drop] at ih
  rw [rn_step l hne, List.length_cons]; omega
theorem may_len {l : List UInt8} (h : may l = true) : l.length ≤ 32 := by
  have := length_le4 l
  unfold may at h; simp at h; omega
/-! Keys -/
def lowN (r : Nat) : Nat := if 65 ≤ r ∧ r ≤ 90 then r + 32 else r
theorem low_toNat (b : UInt8) : (low b).toNat = lowN b.toNat := by
  unfold low lowN
  split
  · rename_i h
    rw [UInt8.toNat_add]
    have : (32 : UInt8).toNat = 32 := rfl
    rw [this]; omega
  · rfl
theorem low_zero : low 0 = 0 := rfl
theorem getD_low (l : List UInt8) (i : Nat) : ((l.map low).getD i 0).toNat = lowN (l.getD i 0).toNat := by
  rw [List.getD_eq_getElem?_getD, List.getD_eq_getElem?_getD, List.getElem?_map]
  cases l[i]? with
  | none => rfl
  | some b => exact low_toNat b
theorem decodeN_low (n b0 b1 b2 b3 : Nat) : decodeN n (lowN b0) (lowN b1) (lowN b2) (lowN b3) = (lowN (decodeN n b0 b1 b2 b3).1, (decodeN n b0 b1 b2 b3).2) := by
  have hc : ∀ b, 128 ≤ b → lowN b = b := by intro b h; unfold lowN; rw [if_neg (by omega)]
  have hl : ∀ b, b < 128 → lowN b < 128 := by intro b h; unfold lowN; split <;> omega
  have h64 : ∀ b, lowN b / 64 = 2 ↔ b / 64 = 2 := by
    intro b; unfold lowN; split <;> omega
  by_cases h0 : b0 < 128
  · unfold decodeN; rw [if_pos (hl _ h0), if_pos h0]
  · have e0 := hc b0 (by omega)
    rw [e0]
    have h8 : ∀ b, b / 64 = 2 → lowN b = b := fun b h => hc b (by omega)
    by_cases k1 : b1 / 64 = 2
    · rw [h8 b1 k1]
      by_cases k2 : b2 / 64 = 2
      · rw [h8 b2 k2]
        by_cases k3 : b3 / 64 = 2
        · rw [h8 b3 k3]
          rcases decodeN_shape n b0 b1 b2 b3 with ⟨c, e⟩ | ⟨c1, c2, c3, cv, e⟩ | ⟨c1, c2, c3, c4, cv, cs, e⟩ | ⟨c1, c2, c3, c4, c5, cv, cw, e⟩ | e
          · omega
          all_goals (rw [e]; dsimp only; rw [hc _ (by omega)])
        · have k3' : ¬ lowN b3 / 64 = 2 := fun h => k3 ((h64 b3).1 h)
          have e3 : decodeN n b0 b1 b2 (lowN b3) = decodeN n b0 b1 b2 b3 := by
            unfold decodeN
            rw [if_neg h0, if_neg h0]
            simp only [k3, k3', and_false, if_false]
          rw [e3]
          rcases decodeN_shape n b0 b1 b2 b3 with ⟨c, e⟩ | ⟨c1, c2, c3, cv, e⟩ | ⟨c1, c2, c3, c4, cv, cs, e⟩ | ⟨c1, c2, c3, c4, c5, cv, cw, e⟩ | e
          · omega
          all_goals (rw [e]; dsimp only; rw [hc _ (by omega)])
      · have k2' : ¬ lowN b2 / 64 = 2 := fun h => k2 ((h64 b2).1 h)
        have e3 : decodeN n b0 b1 (lowN b2) (lowN b3) = decodeN n b0 b1 b2 b3 := by
          unfold decodeN
          rw [if_neg h0, if_neg h0]
          simp only [k2, k2', and_false, false_and, if_false]
        rw [e3]
        rcases decodeN_shape n b0 b1 b2 b3 with ⟨c, e⟩ | ⟨c1, c2, c3, cv, e⟩ | ⟨c1, c2, c3, c4, cv, cs, e⟩ | ⟨c1, c2, c3, c4, c5, cv, cw, e⟩ | e
        · omega
        all_goals (rw [e]; dsimp only; rw [hc _ (by omega)])
    · have k1' : ¬ lowN b1 / 64 = 2 := fun h => k1 ((h64 b1).1 h)
      have e3 : decodeN n b0 (lowN b1) (lowN b2) (lowN b3) = decodeN n b0 b1 b2 b3 := by
        unfold decodeN
        rw [if_neg h0, if_neg h0]
        simp only [k1, k1', and_false, false_and, if_false]
      rw [e3]
      rcases decodeN_shape n b0 b1 b2 b3 with ⟨c, e⟩ | ⟨c1, c2, c3, cv, e⟩ | ⟨c1, c2, c3, c4, cv, cs, e⟩ | ⟨c1, c2, c3, c4, c5, cv, cw, e⟩ | e
      · omega
      all_goals (rw [e]; dsimp only; rw [hc _ (by omega)])
theorem decode_low (l : List UInt8) : decodeL (l.map low) = (lowN (decodeL l).1, (decodeL l).2) := by
  rw [decodeL_N, decodeL_N, List.length_map, getD_low, getD_low, getD_low, getD_low, decodeN_low]
theorem rn_low : ∀ l, rn (l.map low) = (rn l).map fun p => (lowN p.1, p.2) := by
  refine rn_ind rfl ?_
  intro l hne ih
  rw [rn_step _ (by simpa using hne), rn_step l hne, List.map_cons, decode_low]
  dsimp only
  rw [← List.map_drop, ih]
theorem okR_low (r : Nat) : okR (lowN r) = okR r := by
  unfold okR lowN
  split
  · rename_i h
    rw [Bool.eq_iff_iff]; simp; omega
  · rfl
theorem may_low (l : List UInt8) : may (l.map low) = may l := by
  unfold may
  rw [rn_low, List.length_map, List.all_map]
  congr 2
  apply List.all_congr rfl
  intro p; exact okR_low _
theorem low_low (b : UInt8) : low (low b) = low b := by
  apply UInt8.toNat_inj.1
  rw [low_toNat, low_toNat]; unfold lowN; repeat' split
  all_goals omega
theorem key_laws (l : List UInt8) (h : may l = true) : (key l).length = l.length ∧ may (key l) = true ∧ key (key l) = key l := by
  have e : key l = l.map low := by unfold key; rw [if_pos h]
  rw [e]
  refine ⟨List.length_map _, by rw [may_low, h], ?_⟩
  unfold key
  rw [if_pos (by rw [may_low, h]), List.map_map]
  congr 1
  funext b; exact low_low b
theorem key_of_low (l m : List UInt8) (e : m.map low = l.map low) : key m = key l := by
  have hm : may m = may l := by rw [← may_low m, e, may_low]
  unfold key; rw [hm, e]
/-- What strings.Map is handed. -/
def lowF (r : Int) : Int := if 65 ≤ r ∧ r ≤ 90 then r - 65 + 97 else r
theorem dec_low_ascii (l : List UInt8) (hne : l ≠ []) (h : (decodeL l).1 < 128) : ∃ b t, l = b :: t ∧ b.toNat < 128 ∧ decodeL l = (b.toNat, 1) := by
  cases l with
  | nil => exact absurd rfl hne
  | cons b t =>
    refine ⟨b, t, rfl, ?_⟩
    have e0 : (b :: t).getD 0 0 = b := rfl
    rw [decodeL_N, e0] at h ⊢
    rcases decodeN_shape (b :: t).length b.toNat ((b :: t).getD 1 0).toNat ((b :: t).getD 2 0).toNat ((b :: t).getD 3 0).toNat with ⟨c, e⟩ | ⟨c1, c2, c3, cv, e⟩ | ⟨c1, c2, c3, c4, cv, cs, e⟩ | ⟨c1, c2, c3, c4, c5, cv, cw, e⟩ | e
    · exact ⟨c, e⟩
    all_goals (rw [e] at h; dsimp only at h; omega)
theorem encodeRune_high (r : Int) (h : 128 ≤ r) : ∀ b ∈ encodeRune r, low b = b := by
  intro b hb
  have : 128 ≤ b.toNat := by
    unfold encodeRune at hb
    obtain ⟨z, hz, rfl⟩ := List.mem_map.1 hb
    have h1 := encodeRuneZ_byte r z hz
    have h2 : 128 ≤ z := by
      unfold encodeRuneZ at hz
      repeat' split at hz
      all_goals simp at hz
      all_goals omega
    obtain ⟨n, rfl⟩ := Int.eq_ofNat_of_zero_le h1.1
    simp; omega
  unfold low; rw [if_neg (by omega)]
theorem mapD_low : ∀ l, validD l = true → mapD lowF l = l.map low := by
  refine rn_ind (fun _ => rfl) ?_
  intro l hne ih hv
  rw [validD_step l hne] at hv
  split at hv
  · cases hv
  rename_i hg
  have ih := ih hv
  by_cases h : (decodeL l).1 < 128
  · obtain ⟨b, t, rfl, hb, hd⟩ := dec_low_ascii l hne h
    rw [mapD_step _ _ hne, ih, hd]
    dsimp only [List.drop_succ_cons, List.drop_zero, List.map_cons]
    have h0 : 0 ≤ lowF (b.toNat : Int) := by unfold lowF; split <;> omega
    rw [if_pos h0]
    have : encodeRune (lowF (b.toNat : Int)) = [low b] := by
      have e2 : lowF (b.toNat : Int) = ((low b).toNat : Int) := by
        rw [low_toNat]; unfold lowF lowN; repeat' split
        all_goals omega
      have h3 : (low b).toNat < 128 := by rw [low_toNat]; unfold lowN; split <;> omega
      rw [e2]; unfold encodeRune; rw [encodeRuneZ_one (by omega) (by omega)]
      simp
    rw [this]; rfl
  · have hf : lowF ((decodeL l).1 : Int) = (decodeL l).1 := by unfold lowF; rw [if_neg (by omega)]
    rw [mapD_same lowF l hne hf hg, ih, ← encode_decode l hne hg]
    conv => rhs; rw [← List.take_append_drop (decodeL l).2 l, List.map_append, ← encode_decode l hne hg]
    congr 1
    have := encodeRune_high ((decodeL l).1 : Int) (by omega)
    exact (List.map_congr_left this).symm ▸ (List.map_id _).symm

/-! One rune -/
abbrev validR (r : Int) : Prop := (0 ≤ r ∧ r ≤ 1114111) ∧ (r < 55296 ∨ 57343 < r)
theorem valid_of (r : Int) (h : validR r) : Utf8.valid r = true := by
  unfold Utf8.valid
  rw [Bool.or_eq_true, Bool.and_eq_true, Bool.and_eq_true, decide_eq_true_iff, decide_eq_true_iff, decide_eq_true_iff, decide_eq_true_iff]
  omega
theorem enc1 (n : Nat) (h1 : n < 128) : decodeL [UInt8.ofNat n] = (n, 1) := by
  rw [decodeL_N]
  simp only [List.getD_cons_zero, UInt8.toNat_ofNat', List.length_cons, List.length_nil]
  unfold decodeN; rw [if_pos (by omega)]
  refine Prod.ext ?_ rfl
  dsimp only; omega
theorem enc2 (n : Nat) (h1 : 128 ≤ n) (h2 : n < 2048) : decodeL [UInt8.ofNat (192 + n / 64), UInt8.ofNat (128 + n % 64)] = (n, 2) := by
  rw [decodeL_N]
  simp only [List.getD_cons_zero, List.getD_cons_succ, UInt8.toNat_ofNat', List.length_cons, List.length_nil]
  unfold decodeN; rw [if_neg (by omega), if_pos (by omega), if_pos (by omega)]
  refine Prod.ext ?_ rfl
  dsimp only; omega
theorem enc3 (n : Nat) (h1 : 2048 ≤ n) (h2 : n < 65536) (h3 : n < 55296 ∨ 57343 < n) : decodeL [UInt8.ofNat (224 + n / 4096), UInt8.ofNat (128 + n / 64 % 64), UInt8.ofNat (128 + n % 64)] = (n, 3) := by
  rw [decodeL_N]
  simp only [List.getD_cons_zero, List.getD_cons_succ, UInt8.toNat_ofNat', List.length_cons, List.length_nil]
  unfold decodeN; rw [if_neg (by omega), if_neg (by omega), if_pos (by omega), if_pos (by omega)]
  refine Prod.ext ?_ rfl
  dsimp only; omega
theorem enc4 (n : Nat) (h1 : 65536 ≤ n) (h2 : n ≤ 1114111) : decodeL [UInt8.ofNat (240 + n / 262144), UInt8.ofNat (128 + n / 4096 % 64), UInt8.ofNat (128 + n / 64 % 64), UInt8.ofNat (128 + n % 64)] = (n, 4) := by
  rw [decodeL_N]
  simp only [List.getD_cons_zero, List.getD_cons_succ, UInt8.toNat_ofNat', List.length_cons, List.length_nil]
  unfold decodeN; rw [if_neg (by omega), if_neg (by omega), if_neg (by omega), if_pos (by omega), if_pos (by omega)]
  refine Prod.ext ?_ rfl
  dsimp only; omega
theorem decode_encode (n : Nat) (h : validR n) : decodeL (Utf8.encode n).data.toList = (n, (Utf8.encode n).data.toList.length) ∧ 0 < (Utf8.encode n).data.toList.length := by
  have e : Utf8.encode n = if n < 128 then (⟨#[UInt8.ofNat n]⟩ : ByteArray) else if n < 2048 then ⟨#[UInt8.ofNat (192 + n / 64), UInt8.ofNat (128 + n % 64)]⟩
      else if n < 65536 then ⟨#[UInt8.ofNat (224 + n / 4096), UInt8.ofNat (128 + n / 64 % 64), UInt8.ofNat (128 + n % 64)]⟩
      else ⟨#[UInt8.ofNat (240 + n / 262144), UInt8.ofNat (128 + n / 4096 % 64), UInt8.ofNat (128 + n / 64 % 64), UInt8.ofNat (128 + n % 64)]⟩ := by
    unfold Utf8.encode
    rw [if_pos (valid_of n h), Int.toNat_natCast]
  rw [e]
  by_cases h1 : n < 128
  · rw [if_pos h1]; exact ⟨enc1 n h1, Nat.zero_lt_one⟩
  rw [if_neg h1]
  by_cases h2 : n < 2048
  · rw [if_pos h2]; exact ⟨enc2 n (by omega) h2, Nat.zero_lt_succ _⟩
  rw [if_neg h2]
  by_cases h3 : n < 65536
  · rw [if_pos h3]; exact ⟨enc3 n (by omega) h3 (by omega), Nat.zero_lt_succ _⟩
  · rw [if_neg h3]; exact ⟨enc4 n (by omega) (by omega), Nat.zero_lt_succ _⟩
theorem may_one (r : Int) : may (Utf8.encode r).data.toList = decide (validR r ∧ 33 ≤ r ∧ (r < 127 ∨ 159 < r) ∧ r ≠ 65533) := by
  by_cases h : validR r
  · obtain ⟨n, rfl⟩ := Int.eq_ofNat_of_zero_le h.1.1
    obtain ⟨hd, hl⟩ := decode_encode n h
    have hne := ne_of_len hl
    unfold may
    rw [rn_step _ hne, hd, List.drop_length, rn_nil]
    unfold okR
    rw [Bool.eq_iff_iff]; simp; omega
  · have e : Utf8.encode r = Utf8.encode 65533 := by
      have hv : Utf8.valid r = false := by unfold Utf8.valid; rw [Bool.eq_false_iff]; simp; omega
      unfold Utf8.encode; rw [hv]; rfl
    rw [e]
    have : decide (validR r ∧ 33 ≤ r ∧ (r < 127 ∨ 159 < r) ∧ r ≠ 65533) = false := by simp [h]
    rw [this]; decide
end Go.Proofs.Lab
