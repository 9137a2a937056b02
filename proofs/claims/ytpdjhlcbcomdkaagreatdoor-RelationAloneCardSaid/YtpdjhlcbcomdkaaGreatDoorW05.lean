/- Several texts in one: The walk of rtcp.parts: an item that is no farewell. The walk of report.Get. The state of report.Get: the result's item, the eye. The walk of report.Get: a report. The state of report.Get's loop: the item, the eye, the blocks so far. Append to a slice of the call's own at a step of a region that draws its order. Over any program. -/
import Derived.Deep.RegionLawGrows
import Derived.Deep.RegionHeld3
import Derived.Test.YtpdjhlcbcomdkaaGreatDoorW02
import Derived.Test.YtpdjhlcbcomdkaaGreatDoorW03
import Derived.Test.YtpdjhlcbcomdkaaGreatDoorW04
set_option linter.unusedVariables false
set_option linter.unusedSimpArgs false
set_option linter.unusedSimpArgs false
namespace Go.Proofs.By
open Go.RowKit Go.Proofs.Heap
def prOf (n : Nat) : Int × Int := (((n / 65536 : Nat) : Int), ((n % 65536 : Nat) : Int))
set_option maxRecDepth 100000 in
set_option maxHeartbeats 2000000 in
theorem parts_other (v : Value) (b : List UInt8) (k : Nat) (w : World) (hv : BRow w v b) (h4 : b.length % 4 = 0) (hb : b.length ≤ 1000) (hb4 : 12 ≤ b.length) (hk : k ≠ 203) (hk2 : k < 256) :
    Calls Tryz.prog 172 #[v, .int .i64 (k : Int)] w fun e w' => (∃ a, e = .returned a ∧ ItmIn w' a (parts b k)) ∧ Below w.heap.size w w' := by
  have HV : Hid (∀ w', Below w.heap.size w w' → BRow w' v b) := fun w' h => hv.below h
  have hlen := hv.len
  obtain ⟨a, c, rfl, hcc, -⟩ := id hv
  obtain ⟨m, hm⟩ : ∃ m, b.length = 12 + 4 * m := ⟨(b.length - 12) / 4, by omega⟩
  have HW : Hid (∀ j, j < m → ((iwords b 12).take (j + 1)).map prOf = ((iwords b 12).take j).map prOf ++ [prOf (get b (12 + 4 * (j : Int)) 4)]) := fun j hj => by
    rw [iwords_at b 12 j (by omega), List.map_append, nat_add]; rfl
  have HWL : Hid ((iwords b 12).length = m) := by show _ = _; rw [iwords_len]; omega
  have HWT : Hid (∀ j, j ≤ m → (((iwords b 12).take j).map prOf).length = j) := fun j hj => by rw [List.length_map, List.length_take, HWL.out]; omega
  have HE : Hid (parts b k = { noItm with kind := k, ssrc := get b 4 4, media := get b 8 4, pairs := (iwords b 12).map prOf }) := by show _ = _; unfold parts; rw [if_neg hk]; rfl
  have hx4 : get b 4 4 < 4294967296 := get_lt b 4 4 4 (by decide)
  have hx8 : get b 8 4 < 4294967296 := get_lt b 8 4 4 (by decide)
  have C4 := Lib.hid (cnumber_any _ b 4 ((w.alloc (.cells (itmCells 0 0 0 (.slice none 0 0) (.slice none 0 0)) 173)).alloc (.cells (itmCells k 0 0 (.slice none 0 0) (.slice none 0 0)) 173)) (HV.out _ (PB.start w k 0 0).bel))
  have C8 := Lib.hid (cnumber_any _ b 8 ((w.alloc (.cells (itmCells 0 0 0 (.slice none 0 0) (.slice none 0 0)) 173)).alloc (.cells (itmCells k 0 0 (.slice none 0 0) (.slice none 0 0)) 173)) (HV.out _ (PB.start w k 0 0).bel))
  have bk : ((k : Int) == 203) = false := by rw [beq_eq_false_iff_ne]; omega
  have bk2 : ((k : Int) != 203) = true := by rw [bne_iff_ne]; omega
  have CN : Hid (∀ w' (j : Nat), Below w.heap.size w w' → Calls Tryz.prog 183 #[.slice a b.length c, .int .i64 (12 + 4 * (j : Int))] w' fun e w1 => e = .returned (.int .u32 (get b (12 + 4 * (j : Int)) 4 : Nat)) ∧ w' = w1) := fun w' j h => cnumber_any _ b _ w' (HV.out w' h)
  have HP0 := Lib.hid (PB.start w k (get b 4 4 : Nat) (get b 8 4 : Nat))
  clear hv HV
  rw [hm]
  rw [hm] at CN C4 C8
  have hm1000 : m ≤ 250 := by omega
  generalize parts b k = X at *
  generalize get b 4 4 = s4 at *
  generalize get b 8 4 = s8 at *
  clear hm hlen h4 hb hb4 hcc hk
  go_enter Tryz.func172, Tryz.ntmps172
  go_wp2_with fail
  refine C4.out.mono ?_
  rintro e w' ⟨rfl, rfl⟩
  go_wp2_with fail
  refine C8.out.mono ?_
  rintro e w' ⟨rfl, rfl⟩
  go_wp2_with fail
  go_loopw [6] (fun i w' => ∃ (j : Nat) (pv : Value), j ≤ m ∧ i = .int .i64 (12 + 4 * (j : Int)) ∧ PB w w' k s4 s8 (.slice none 0 0) pv ∧ w'.ownsRow (w.heap.size + 2) 226 2 pv j ((((iwords b 12).take j).map prOf).flatMap pairCells)) (fun i _ => 12 + 4 * m - (intOf i).toNat)
  case atStart => exact ⟨0, .slice none 0 0, Nat.zero_le _, rfl, HP0.out, World.ownsRow_nil _ _ _ _⟩
  case round =>
    clear HP0
    obtain ⟨j, gv, hj, rfl, hpb, hown⟩ := hrel
    have HPB := Lib.hid hpb
    have HOWN := Lib.hid hown
    have hsz := hpb.size
    have c9 : wr.cell? ⟨w.heap.size + 1, 9, none⟩ = some gv := hpb.cell 9
    clear hpb hown
    by_cases hjm : j < m
    · have CN1 := Lib.hid (CN.out wr j HPB.out.bel)
      have HW1 := Lib.hid (HW.out j hjm)
      have hn : get b (12 + 4 * (j : Int)) 4 < 4294967296 := get_lt b _ 4 4 (by decide)
      generalize get b (12 + 4 * (j : Int)) 4 = n at *
      have HPR : Hid (pairCells (prOf n) = [.int .u16 ((n : Int) / 65536), .int .u16 (IntKind.u16.wrap (n : Int))]) := by
        show _ = _
        have h1 : IntKind.u16.wrap (n : Int) = ((n % 65536 : Nat) : Int) := by simp [IntKind.wrap, IntKind.bits, IntKind.signed]
        rw [h1]
        show [Value.int .u16 ((n / 65536 : Nat) : Int), Value.int .u16 ((n % 65536 : Nat) : Int)] = _
        rw [Int.natCast_ediv]; rfl
      go_wp2_with (first | (go_at_call 183; refine CN1.out.mono ?_; rintro e w' ⟨rfl, rfl⟩) | (at_builtin; refine wpList_app rfl (.tmp 36) (.tmp 43) 171 rfl (w.heap.size + 2) elemPair gv j _ rfl (HOWN.out.alloc _) _ 1 [.int .u16 ((n : Int) / 65536), .int .u16 (IntKind.u16.wrap (n : Int))] rfl (rowNew wr 226 1 [.int .u16 ((n : Int) / 65536), .int .u16 (IntKind.u16.wrap (n : Int))] (by decide)) rfl (by intro u hu; simp at hu; rcases hu with rfl | rfl <;> rfl) (by omega) (by omega) (by simp; omega) (fun v' w5 HO HG => ?_); have HPB5 := Lib.hid ((HPB.out.below (below_alloc wr (.cells #[.int .u16 ((n : Int) / 65536), .int .u16 (IntKind.u16.wrap (n : Int))] 226))).grown HG.out (owns_ge HOWN.out)); have hz5 := HPB5.out.size; have f9 := HPB5.out.frozen 9; have c95 : w5.cell? ⟨w.heap.size + 1, 9, none⟩ = some gv := HPB5.out.cell 9; obtain ⟨va, vc, hva, -, -⟩ := Row.of_owns HO.out; subst hva))
      go_roundw
      case rel => exact ⟨j + 1, _, by omega, by go_num, HPB5.out.setP _, by rw [HW1.out]; exact owns_set (by have := HO.out; rw [← HPR.out] at this; rw [List.flatMap_append]; exact this) (by omega) _⟩
      case measure => simp [intOf]; omega
    · obtain rfl : j = m := by omega
      have hrow := Row.of_owns HOWN.out
      obtain ⟨va, vc, rfl, -, -⟩ := id hrow
      have e0 := HPB.out.cell 0
      have e1 := HPB.out.cell 1
      have e2 := HPB.out.cell 2
      have e3 := HPB.out.cell 3
      have e4 := HPB.out.cell 4
      have e5 := HPB.out.cell 5
      have e6 := HPB.out.cell 6
      have e7 := HPB.out.cell 7
      have e8 := HPB.out.cell 8
      simp only [itmCells, List.getElem?_toArray, List.getElem?_cons_zero, List.getElem?_cons_succ] at e0 e1 e2 e3 e4 e5 e6 e7 e8
      have HROW := Lib.hid hrow
      have g0 := fun k => HPB.out.frozen0 k
      have g00 := g0 0
      have z0 := HPB.out.cell0 0
      have g10 := g0 1
      have z1 := HPB.out.cell0 1
      have g20 := g0 2
      have z2 := HPB.out.cell0 2
      have g30 := g0 3
      have z3 := HPB.out.cell0 3
      have g40 := g0 4
      have z4 := HPB.out.cell0 4
      have g50 := g0 5
      have z5 := HPB.out.cell0 5
      have g60 := g0 6
      have z6 := HPB.out.cell0 6
      have g70 := g0 7
      have z7 := HPB.out.cell0 7
      have g80 := g0 8
      have z8 := HPB.out.cell0 8
      have g90 := g0 9
      have z9 := HPB.out.cell0 9
      simp only [itmCells, List.getElem?_toArray, List.getElem?_cons_zero, List.getElem?_cons_succ] at z0 z1 z2 z3 z4 z5 z6 z7 z8 z9
      clear hrow g0
      have HT : Hid ((iwords b 12).take j = iwords b 12) := List.take_of_length_le (by rw [HWL.out]; exact Nat.le_refl _)
      have HGL : Hid (((iwords b 12).map prOf).length = j) := by show _ = _; rw [List.length_map]; exact HWL.out
      have HK : Hid (∀ w', Fr wr.heap.size (· = w.heap.size) wr w' → (Row w' 226 (.slice va j vc) j ((((iwords b 12).take j).map prOf).flatMap pairCells) ∧ Below w.heap.size w w')) := fun w' hf =>
        ⟨HROW.out.fr hf (Nat.le_refl _) (fun k c' fr hk e => by subst hk; rw [HPB.out.blk0] at e; injection e with e; injection e with _ e _; exact absurd e (by decide)), HPB.out.bel.trans (Fr.below (hf.mono (Nat.le_of_lt (Nat.lt_trans (Nat.lt_succ_self _) hsz)) (fun k hk hs => by have hs : k = w.heap.size := hs; omega)))⟩
      go_wp2
      refine bodyPost_ret (v := .agg #[.int .i64 k, .int .u32 s4, .int .u64 0, .int .u32 0, .int .u32 0, .int .u32 0, .slice none 0 0, .slice none 0 0, .int .u32 s8, .slice va j vc]) (by simp [results, Tryz.results172, go_sem, z0, z1, z2, z3, z4, z5, z6, z7, z8, z9]) rfl ⟨⟨_, rfl, ?_⟩, ?_⟩
      · have h := HK.out _ (fr10 wr w.heap.size (.int .i64 k) (.int .u32 s4) (.int .u64 0) (.int .u32 0) (.int .u32 0) (.int .u32 0) (.slice none 0 0) (.slice none 0 0) (.int .u32 s8) (.slice va j vc))
        rw [HT.out] at h
        refine ⟨.slice none 0 0, .slice none 0 0, .slice va j vc, by rw [HE.out]; rfl, by rw [HE.out]; exact Row.nil _ _, by rw [HE.out]; exact Row.nil _ _, ?_⟩
        rw [HE.out]
        show Row _ _ _ ((iwords b 12).map prOf).length _
        rw [HGL.out]
        with_reducible exact h.1
      · have h := HK.out _ (fr10 wr w.heap.size (.int .i64 k) (.int .u32 s4) (.int .u64 0) (.int .u32 0) (.int .u32 0) (.int .u32 0) (.slice none 0 0) (.slice none 0 0) (.int .u32 s8) (.slice va j vc))
        with_reducible exact h.2
end Go.Proofs.By
set_option linter.unusedSimpArgs false
namespace Go.Proofs.By
open Go.RowKit Go.Proofs.Heap
set_option maxRecDepth 100000 in
set_option maxHeartbeats 2000000 in
theorem reportGet_err (v : Value) (b : List UInt8) (w : World) (hv : BRow w v b) (h0 : (right b).2 ≠ 0) :
    Calls Tryz.prog 170 #[v] w fun e w' => (∃ a, e = .returned (.tuple #[a, .int .i64 (reportGet b).1.2, .int .i64 (reportGet b).2]) ∧ ItmIn w' a (reportGet b).1.1) ∧ Below w.heap.size w w' := by
  have HX : Hid (reportGet b = ((noItm, 0), (right b).2)) := by show _ = _; unfold reportGet; rw [if_pos h0]
  have C := fun w1 h => right_any v b w1 (hv.below (h : Below w.heap.size w w1))
  have HC := Lib.hid C
  obtain ⟨a, c, rfl, hcc, -⟩ := id hv
  clear C hv
  have bl : ((right b).2 != 0) = true := by rw [bne_iff_ne]; exact h0
  have bl2 : ((right b).2 == 0) = false := by rw [beq_eq_false_iff_ne]; exact h0
  generalize reportGet b = X at *
  generalize right b = Y at *
  go_enter Tryz.func170, Tryz.ntmps170
  go_wp2_with fail
  refine (HC.out _ (below_alloc _ _)).mono ?_
  rintro e w2 ⟨rfl, hb2⟩
  have y0 := hb2.block w.heap.size (by show _ < (w.heap.push _).size; rw [Array.size_push]; exact Nat.lt_succ_self _)
  rw [heap_new] at y0
  have zz : w.heap.size + 1 ≤ w2.heap.size := by have h := hb2.size; have h : (w.heap.push _).size ≤ w2.heap.size := h; rw [Array.size_push] at h; exact h
  have z1 := cell_of y0 0
  have z2 := cell_of y0 1
  have z3 := cell_of y0 2
  have z4 := cell_of y0 3
  have z5 := cell_of y0 4
  have z6 := cell_of y0 5
  have z7 := cell_of y0 6
  have z8 := cell_of y0 7
  have z9 := cell_of y0 8
  have z10 := cell_of y0 9
  simp only [List.getElem?_toArray, List.getElem?_cons_zero, List.getElem?_cons_succ] at z1 z2 z3 z4 z5 z6 z7 z8 z9 z10
  have hself := fun (R : World → Prop) (h : R w2) => (by rw [setRow_self _ _ _ _ _ y0]; exact h : R (w2.setRow w.heap.size #[.int .i64 0, .int .u32 0, .int .u64 0, .int .u32 0, .int .u32 0, .int .u32 0, .slice none 0 0, .slice none 0 0, .int .u32 0, .slice none 0 0]))
  have HS := Lib.hid hself
  clear hself HC
  go_wp2_with (with_reducible refine store_at 173 (.tmp 2) (.tmp 14) rfl ?_; go_loud (refine store_rowTo2 rfl 173 _ _ rfl rfl w.heap.size #[.int .i64 0, .int .u32 0, .int .u64 0, .int .u32 0, .int .u32 0, .int .u32 0, .slice none 0 0, .slice none 0 0, .int .u32 0, .slice none 0 0] rfl rfl 173 _ y0 (by kernel_rfl) (by kernel_rfl) (by kernel_rfl) ?_; refine HS.out _ ?_))
  refine bodyPost_ret (v := .tuple #[.agg #[.int .i64 0, .int .u32 0, .int .u64 0, .int .u32 0, .int .u32 0, .int .u32 0, .slice none 0 0, .slice none 0 0, .int .u32 0, .slice none 0 0], .int .i64 0, .int .i64 Y.2]) (by simp [results, Tryz.results170, go_sem, z1, z2, z3, z4, z5, z6, z7, z8, z9, z10]) rfl ⟨⟨_, by rw [HX.out]; rfl, ?_⟩, ?_⟩
  · exact ⟨.slice none 0 0, .slice none 0 0, .slice none 0 0, by rw [HX.out]; rfl, by rw [HX.out]; exact Row.nil _ _, by rw [HX.out]; exact Row.nil _ _, by rw [HX.out]; exact Row.nil _ _⟩
  · have h5 := hb2.mono (show w.heap.size ≤ (w.heap.push _).size by rw [Array.size_push]; exact Nat.le_succ _)
    exact (below_alloc w _).trans h5
end Go.Proofs.By
set_option linter.unusedSimpArgs false
namespace Go.Proofs.By
open Go.RowKit Go.Proofs.Heap
/-- The result's item lies in w.heap.size, the eye in k. -/
structure RB (w w' : World) (k : Nat) (v : Value) (p : Nat) (cs : List Value) : Prop where
  bel : Below w.heap.size w w'
  blk : w'.heap[w.heap.size]? = some (.cells cs.toArray 173)
  eye : EyeAt w' k v p
  lt : w.heap.size < k
theorem RB.klt {w w' : World} {k : Nat} {v : Value} {p : Nat} {cs : List Value} (h : RB w w' k v p cs) : k < w'.heap.size := h.eye.lt
theorem RB.cell {w w' : World} {k : Nat} {v : Value} {p : Nat} {cs : List Value} (h : RB w w' k v p cs) (j : Nat) : w'.cell? ⟨w.heap.size, j, none⟩ = cs[j]? := by
  rw [cell_of h.blk j]; exact List.getElem?_toArray
theorem RB.frozen {w w' : World} {k : Nat} {v : Value} {p : Nat} {cs : List Value} (h : RB w w' k v p cs) (j : Nat) : w'.frozen? ⟨w.heap.size, j, none⟩ = false := frozen_of h.blk j
/-- The eye moves. -/
theorem RB.move {w w1 w' : World} {k : Nat} {v : Value} {p q : Nat} {cs : List Value} (h : RB w w1 k v p cs) (he : EyeAt w' k v q) (hf : Fr w1.heap.size (· = k) w1 w') : RB w w' k v q cs := by
  have hk := h.klt
  have hl := h.lt
  refine ⟨h.bel.trans (Fr.below (hf.mono (show w.heap.size ≤ w1.heap.size by omega) (fun j hj hs => by have hs : j = k := hs; omega))), ?_, he, hl⟩
  rw [hf.block w.heap.size (by omega) (fun hs => by have hs : w.heap.size = k := hs; omega)]
  exact h.blk
/-- Something below is not touched. -/
theorem RB.below {w w1 w' : World} {k : Nat} {v : Value} {p : Nat} {cs : List Value} (h : RB w w1 k v p cs) (hb : Below w1.heap.size w1 w') : RB w w' k v p cs := by
  have hk := h.klt
  have hl := h.lt
  refine ⟨h.bel.trans (hb.mono (by omega)), ?_, ?_, hl⟩
  · rw [hb.block w.heap.size (by omega)]; exact h.blk
  · show w'.heap[k]? = _
    rw [hb.block k hk]; exact h.eye
/-- A cell of the item is set. -/
theorem RB.set {w w' : World} {k : Nat} {v : Value} {p : Nat} {cs : List Value} (h : RB w w' k v p cs) (j : Nat) (u : Value) : RB w (w'.setCell ⟨w.heap.size, j, none⟩ u) k v p (cs.set j u) := by
  have hl := h.lt
  have h0 := h.blk
  refine ⟨h.bel.setCell (p := ⟨w.heap.size, j, none⟩) (Nat.le_refl _) u, ?_, ?_, hl⟩
  · simp only [World.setCell, Array.getElem?_modify, h0, if_true, Option.map_some]
    simp
  · show (w'.setCell ⟨w.heap.size, j, none⟩ u).heap[k]? = _
    simp only [World.setCell, Array.getElem?_modify]
    rw [if_neg (by omega)]; exact h.eye
theorem RB.grown {w w1 w' : World} {k : Nat} {v : Value} {p : Nat} {cs : List Value} (h : RB w w1 k v p cs) {row : Option Nat} (hg : w1.grownBy w' row) (hr : ∀ j, row = some j → k < j) : RB w w' k v p cs := by
  have hk := h.klt
  have hl := h.lt
  refine ⟨h.bel.trans ⟨hg.os, hg.tape, hg.output, hg.size, fun i hi => hg.block i (by omega) (fun e => by have := hr i e.symm; omega)⟩, ?_, ?_, hl⟩
  · rw [hg.block w.heap.size (by omega) (fun e => by have := hr _ e.symm; omega)]; exact h.blk
  · show w'.heap[k]? = _
    rw [hg.block k hk (fun e => by have := hr _ e.symm; omega)]; exact h.eye
end Go.Proofs.By
set_option linter.unusedSimpArgs false
namespace Go.Proofs.By
open Go.RowKit Go.Proofs.Heap
theorem right_ok {b : List UInt8} (h : (right b).2 = 0) : 4 ≤ b.length ∧ (at8 b 1 = 200 ∨ at8 b 1 = 201) ∧ at8 b 0 % 32 ≤ 15 ∧ (right b).1 = rsize (at8 b 1) (at8 b 0 % 32) ∧ rsize (at8 b 1) (at8 b 0 % 32) ≤ b.length := by
  unfold right at h ⊢
  split at h
  · cases h
  rename_i h1
  rw [if_neg h1]
  split at h
  · cases h
  rename_i h2
  rw [if_neg h2]
  split at h
  · cases h
  rename_i h3
  rw [if_neg h3]
  split at h
  · cases h
  rename_i h4
  rw [if_neg h4]
  split at h
  · cases h
  rename_i h5
  rw [if_neg h5]
  exact ⟨by omega, by omega, by omega, rfl, by omega⟩
end Go.Proofs.By
set_option linter.unusedSimpArgs false
namespace Go.Proofs.By
open Go.RowKit Go.Proofs.Heap
theorem elemBlk : Elem Tryz.prog 170 228 7 28 := ⟨Tryz.underlying170, ⟨.agg #[.int .u32 0, .int .u8 0, .int .u32 0, .int .u32 0, .int .u32 0, .int .u32 0, .int .u32 0], by kernel_rfl, rfl⟩, by decide⟩
theorem step_row {P : Program} {ops : Array Oper} {o : Oper} {a : Act} {w : World} {K : Act → World → Prop} {Q : Exit → Act → World → Prop} {E' : Prop} (hgd : o.guard = none) (ty : TypeId) (x y : Operand) (ho : o.op = .store ty x y) (hd : o.dst = none)
    (g : Nat) (cells : Array Value) (hx : a.eval x = .pointer (some ⟨g, 0, none⟩)) (hy : a.eval y = .agg cells)
    (t : TypeId) (old : Array Value) (hg : w.heap[g]? = some (.cells old t (0, 0))) (hi : (P.info? ty).map (·.size) = some cells.size)
    (hold : old.size = cells.size) (h1 : cells.all (·.oneCell') = true) (h : K a (w.setRow g cells)) :
    if Region.wanted o (yielded ops a.tmps) = true then Oper.wp P o a w K Q else E' := by
  have hw : Region.wanted o (yielded ops a.tmps) = true := by simp [Region.wanted, hgd]
  rw [if_pos hw]
  exact Go.wp_store_row ty x y ho g cells hx hy t old hg hi hold h1 (by rw [hd]; exact h)
/-- The whole item is set. -/
theorem RB.row {w w' : World} {k : Nat} {v : Value} {p : Nat} {cs : List Value} (h : RB w w' k v p cs) (cs' : List Value) : RB w (w'.setRow w.heap.size cs'.toArray) k v p cs' := by
  have hl := h.lt
  have he : ∀ j, j ≠ w.heap.size → (w'.setRow w.heap.size cs'.toArray).heap[j]? = w'.heap[j]? := fun j hj => by
    simp only [World.setRow, Array.getElem?_modify]
    rw [if_neg (fun e => hj e.symm)]
  refine ⟨⟨h.bel.os, h.bel.tape, h.bel.output, by simpa [World.setRow] using h.bel.size, fun j hj => by rw [he j (by omega)]; exact h.bel.block j hj⟩, setRow_heap _ _ _ _ _ _ h.blk, ?_, hl⟩
  show (w'.setRow _ _).heap[k]? = _
  rw [he k (by omega)]; exact h.eye
/-- Beside the item and the eye a row of blocks, above the eye. -/
structure RL (w w' : World) (k : Nat) (v : Value) (p : Nat) (cs : List Value) (bv : Value) (j : Nat) (xs : List Value) : Prop where
  rb : RB w w' k v p cs
  own : w'.ownsRow (k + 1) 228 7 bv j xs
theorem RL.move {w w1 w' : World} {k : Nat} {v : Value} {p q : Nat} {cs : List Value} {bv : Value} {j : Nat} {xs : List Value} (h : RL w w1 k v p cs bv j xs) (he : EyeAt w' k v q) (hf : Fr w1.heap.size (· = k) w1 w') : RL w w' k v q cs bv j xs :=
  ⟨h.rb.move he hf, owns_at h.own fun i hi hlt => hf.block i hlt (fun hs => by have hs : i = k := hs; omega)⟩
theorem RL.below {w w1 w' : World} {k : Nat} {v : Value} {p : Nat} {cs : List Value} {bv : Value} {j : Nat} {xs : List Value} (h : RL w w1 k v p cs bv j xs) (hb : Below w1.heap.size w1 w') : RL w w' k v p cs bv j xs :=
  ⟨h.rb.below hb, owns_bel h.own hb⟩
/-- A cell of a block that is not the row's, nor the item's, nor the eye. -/
theorem RL.other {w w1 : World} {k : Nat} {v : Value} {p : Nat} {cs : List Value} {bv : Value} {j : Nat} {xs : List Value} (h : RL w w1 k v p cs bv j xs) {g o : Nat} {c : Array Value} {f : Nat × Nat} (hg : w1.heap[g]? = some (.cells c 228 f)) (hk : k < g) (hb : ∀ i, bv.ownBlock = some i → i ≠ g) (u : Value) : RL w (w1.setCell ⟨g, o, none⟩ u) k v p cs bv j xs := by
  have hl := h.rb.lt
  refine ⟨⟨h.rb.bel.setCell (p := ⟨g, o, none⟩) (by show w.heap.size ≤ g; omega) u, ?_, ?_, hl⟩, ?_⟩
  · rw [RowKit.Below.heap_setCell _ _ _ _ (by show w.heap.size ≠ g; omega)]; exact h.rb.blk
  · show (w1.setCell _ _).heap[k]? = _
    rw [RowKit.Below.heap_setCell _ _ _ _ (by show k ≠ g; omega)]; exact h.rb.eye
  · obtain ⟨h1, h2⟩ := h.own
    refine ⟨h1, ?_⟩
    rcases h2 with h2 | ⟨g2, cap, cur, hv, hg2, hh, r⟩
    · exact Or.inl h2
    · have hne : g2 ≠ g := hb g2 (by rw [hv]; rfl)
      exact Or.inr ⟨g2, cap, cur, hv, hg2, by rw [RowKit.Below.heap_setCell _ _ _ _ (by show g2 ≠ g; exact hne)]; exact hh, r⟩
theorem RL.grown {w w1 w' : World} {k : Nat} {v : Value} {p : Nat} {cs : List Value} {bv : Value} {j : Nat} {xs : List Value} (h : RL w w1 k v p cs bv j xs) (hg : w1.grownBy w' bv.ownBlock) : RB w w' k v p cs :=
  h.rb.grown hg (fun i hi => by have := owns_ge h.own i hi; omega)
/-- The contracts, by this state. -/
theorem RL.word {w w1 : World} {k : Nat} {v : Value} {b : List UInt8} {p : Nat} {cs : List Value} {bv : Value} {j : Nat} {xs : List Value} (h : RL w w1 k v p cs bv j xs) (hv : ∀ w', Below w.heap.size w w' → BRow w' v b) (hp : p ≤ 100000) :
    Calls Tryz.prog 180 #[.pointer (some ⟨k, 0, none⟩)] w1 fun e w' => e = .returned (.int .u32 (get b p 4 : Nat)) ∧ RL w w' k v (p + 4) cs bv j xs ∧ Fr w1.heap.size (· = k) w1 w' :=
  (eword_any k v b p w1 h.rb.eye (hv _ h.rb.bel) hp).mono fun _ _ ⟨h1, h2, h3⟩ => ⟨h1, h.move h2 h3, h3⟩
theorem RL.get {w w1 : World} {k : Nat} {v : Value} {b : List UInt8} {p : Nat} {cs : List Value} {bv : Value} {j : Nat} {xs : List Value} (h : RL w w1 k v p cs bv j xs) (hv : ∀ w', Below w.heap.size w w' → BRow w' v b) (hp : p ≤ 100000) (q : Nat) (hq : q ≤ 100) :
    Calls Tryz.prog 181 #[.pointer (some ⟨k, 0, none⟩), .int .i64 (q : Int)] w1 fun e w' => e = .returned (.int .u64 (get b p q : Nat)) ∧ RL w w' k v (p + q) cs bv j xs ∧ Fr w1.heap.size (· = k) w1 w' :=
  (eget_any k v b p q w1 h.rb.eye (hv _ h.rb.bel) hp hq).mono fun _ _ ⟨h1, h2, h3⟩ => ⟨h1, h.move h2 h3, h3⟩
theorem heap_lt {w : World} {g : Nat} {o : Obj} (h : w.heap[g]? = some o) : g < w.heap.size := by
  rcases Nat.lt_or_ge g w.heap.size with h1 | h1
  · exact h1
  · rw [Array.getElem?_eq_none h1] at h; cases h
theorem fr_blk {w1 w' : World} {k g : Nat} {o : Obj} (hf : Fr w1.heap.size (· = k) w1 w') (h : w1.heap[g]? = some o) (hne : k < g) : w'.heap[g]? = some o := by
  rw [hf.block g (heap_lt h) (fun hs => by have hs : g = k := hs; omega)]; exact h
theorem blk_set {w : World} {g : Nat} {c : Array Value} {t : TypeId} {f : Nat × Nat} (h : w.heap[g]? = some (.cells c t f)) (o : Nat) (u : Value) : (w.setCell ⟨g, o, none⟩ u).heap[g]? = some (.cells (c.setIfInBounds o u) t f) := by
  simp [World.setCell, Array.getElem?_modify, h]
theorem RB.word {w w1 : World} {k : Nat} {v : Value} {b : List UInt8} {p : Nat} {cs : List Value} (h : RB w w1 k v p cs) (hv : ∀ w', Below w.heap.size w w' → BRow w' v b) (hp : p ≤ 100000) :
    Calls Tryz.prog 180 #[.pointer (some ⟨k, 0, none⟩)] w1 fun e w' => e = .returned (.int .u32 (get b p 4 : Nat)) ∧ RB w w' k v (p + 4) cs ∧ Fr w1.heap.size (· = k) w1 w' :=
  (eword_any k v b p w1 h.eye (hv _ h.bel) hp).mono fun _ _ ⟨h1, h2, h3⟩ => ⟨h1, h.move h2 h3, h3⟩
theorem RB.get {w w1 : World} {k : Nat} {v : Value} {b : List UInt8} {p : Nat} {cs : List Value} (h : RB w w1 k v p cs) (hv : ∀ w', Below w.heap.size w w' → BRow w' v b) (hp : p ≤ 100000) (q : Nat) (hq : q ≤ 100) :
    Calls Tryz.prog 181 #[.pointer (some ⟨k, 0, none⟩), .int .i64 (q : Int)] w1 fun e w' => e = .returned (.int .u64 (get b p q : Nat)) ∧ RB w w' k v (p + q) cs ∧ Fr w1.heap.size (· = k) w1 w' :=
  (eget_any k v b p q w1 h.eye (hv _ h.bel) hp hq).mono fun _ _ ⟨h1, h2, h3⟩ => ⟨h1, h.move h2 h3, h3⟩
/-- A cell of the item is set. -/
theorem RL.set {w w' : World} {k : Nat} {v : Value} {p : Nat} {cs : List Value} {bv : Value} {j : Nat} {xs : List Value} (h : RL w w' k v p cs bv j xs) (i : Nat) (u : Value) : RL w (w'.setCell ⟨w.heap.size, i, none⟩ u) k v p (cs.set i u) bv j xs :=
  ⟨h.rb.set i u, owns_set h.own (by have := h.rb.lt; omega) u⟩
end Go.Proofs.By
namespace Go.Proofs.Heap
open Go Go.RowKit
section
variable {P : Program}
theorem run_app {w : World} (t ty : TypeId) (base : Nat) {e : TypeId} {size bytes : Nat} (E : Elem P t e size bytes) (v : Value) (n : Nat) (xs : List Value) (hown : w.ownsRow base e size v n xs)
    (vx : Value) (m : Nat) (news : List Value) (hrow : Row w e vx m news) (hl : news.length = m * size) (h1 : ∀ u ∈ news, u.oneCell' = true)
    (hbytes : (n + m) * bytes ≤ 140737488355328) (h63 : n + m ≤ 9223372036854775807) (hbase : base ≤ w.heap.size) :
    ∃ v' w', (Builtin.append_ #[t, t] ty #[v, vx]).run P w = .ok v' w' ∧ w'.ownsRow base e size v' (n + m) (xs ++ news) ∧ w.grownBy w' v.ownBlock := by
  obtain ⟨z, hinfo, hzs⟩ := E.info
  obtain ⟨i, hi, hz, hsize, hby⟩ := info_parts hinfo
  obtain ⟨ad, cap, hv, _, _, h0, hr⟩ := hrow
  subst hv
  have h63' : n + m ≤ maxLen := by unfold maxLen; omega
  cases ad with
  | none =>
    obtain ⟨rfl, rfl⟩ := h0 rfl
    have : news = [] := List.eq_nil_of_length_eq_zero (by rw [hl, Nat.zero_mul])
    subst this
    refine ⟨v, w, run_append_owned_none (P := P) (w := w) base t ty e i size E.ht hi v n xs hown, ?_, ⟨rfl, rfl, rfl, Nat.le_refl _, fun _ _ _ => rfl⟩⟩
    rw [List.append_nil]; exact hown
  | some ad =>
    obtain ⟨v', w', hrun, h2, h3, _⟩ := run_append_own w base t ty e i z size bytes E.ht hi hz hsize hby hzs E.pos v n xs hown ad m cap news hl (by
      intro j u hu
      rcases hr with hr | ⟨b, off, c, fr, hab, hb, hc⟩
      · subst hr; simp at hu
      · cases hab
        have hj : j < news.length := (List.getElem?_eq_some_iff.1 hu).1
        have := hc j hj
        have hadd : (⟨b, off, none⟩ : Addr).add j = ⟨b, off + j, none⟩ := by unfold Addr.add; split <;> simp_all
        rw [hadd]
        simp only [World.cell?, hb]
        simpa [hu] using this) h1 h63' hbytes hbase
    exact ⟨v', w', hrun, h2, h3⟩
theorem step_app {ops : Array Oper} {o : Oper} {a : Act} {w : World} {K : Act → World → Prop} {Q : Exit → Act → World → Prop} {E' : Prop} (hgd : o.guard = none) (s x : Operand) (t : TypeId)
    (ho : o.op = .call { callee := .builtin .append, args := #[s, x], argTypes := #[t, t] })
    (base : Nat) {e : TypeId} {size bytes : Nat} (E : Elem P t e size bytes)
    (v : Value) (n : Nat) (xs : List Value) (hs : a.eval s = v) (hown : w.ownsRow base e size v n xs)
    (vx : Value) (m : Nat) (news : List Value) (hx : a.eval x = vx) (hrow : Row w e vx m news) (hl : news.length = m * size) (h1 : ∀ u ∈ news, u.oneCell' = true)
    (hbytes : (n + m) * bytes ≤ 140737488355328) (h63 : n + m ≤ 9223372036854775807) (hbase : base ≤ w.heap.size)
    (h : ∀ v' w', Hid (w'.ownsRow base e size v' (n + m) (xs ++ news)) → Hid (w.grownBy w' v.ownBlock) → K (a.put o.dst v') w') :
    if Region.wanted o (yielded ops a.tmps) = true then Oper.wp P o a w K Q else E' := by
  have hw : Region.wanted o (yielded ops a.tmps) = true := by simp [Region.wanted, hgd]
  rw [if_pos hw]
  obtain ⟨v', w', hrun, h2, h3⟩ := run_app (P := P) t o.type base E v n xs hown vx m news hrow hl h1 hbytes h63 hbase
  unfold Oper.wp
  simp [execOp, ho, resolve, invoke, builtin, hs, hx, hrun, Result.andThen]
  exact h v' w' h2 h3
end
end Go.Proofs.Heap
