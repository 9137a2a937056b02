/- Several texts in one: The walks of package room, each function once: gone, leave, mute. The walks of package room, each function once: why an operation may not be done. The walks of package room, each function once: hears, about. The walks of package room, each function once: about. The walks of package room, each function once: publishes. The walks of package label and of the reference's names: each function once. The walks of package label and of the reference's names that call the library: each function once. -/
import Derived.Test.YtpdjhlcbcomdkaaGreatDoorChecked
import Derived.WalkKit
import Derived.Lib.Walk
import Derived.Lib.Hide
import Derived.Lib.RuneCount
import Derived.Laws.RangeAny
import Derived.LoopTactic
import Derived.Test.YtpdjhlcbcomdkaaGreatDoorShelf
import Derived.Shelf.GgClosure.Gives
import Derived.Test.YtpdjhlcbcomdkaaGreatDoorW01
import Derived.Test.YtpdjhlcbcomdkaaGreatDoorW04
import Derived.Test.YtpdjhlcbcomdkaaGreatDoorW07
set_option linter.unusedVariables false
set_option linter.unusedSimpArgs false
namespace Go.Proofs.Rm
open Go.RowKit Go.Proofs.Heap Go.Proofs.Mem
theorem Row.grown {w w' : World} {e : TypeId} {v : Value} {n : Nat} {xs : List Value} (h : Row w e v n xs) {base : Nat} {e2 : TypeId} {size : Nat} {vo : Value} {m : Nat} {ys : List Value} (ho : w.ownsRow base e2 size vo m ys) (hg : w.grownBy w' vo.ownBlock) (hne : e ≠ e2) : Row w' e v n xs := by
  refine h.fr (B := w.heap.size) (S := fun k => vo.ownBlock = some k) ⟨hg.os, hg.tape, hg.output, hg.size, fun k hk hs => hg.block k hk (fun e => hs e.symm)⟩ (Nat.le_refl _) ?_
  intro k c fr hk he
  obtain ⟨_, ho⟩ := ho
  rcases ho with ⟨rfl, _⟩ | ⟨g, cap, cur, rfl, _, hh, _⟩
  · cases hk
  · have hk : some g = some k := hk
    cases hk
    rw [hh] at he
    exact cells_ne (fun h => hne h.symm) he
theorem RoomAt.grown {w w' : World} {b : Nat} {R : Room} (h : RoomAt w b R) {base : Nat} {e2 : TypeId} {size : Nat} {vo : Value} {m : Nat} {ys : List Value} (ho : w.ownsRow base e2 size vo m ys) (hg : w.grownBy w' vo.ownBlock) (hb : b < base) (hne : 66 ≠ e2) : RoomAt w' b R := by
  refine ⟨?_, fun n hn => Row.grown (h.rows n hn) ho hg hne⟩
  obtain ⟨c, hc, hs, hall⟩ := h.cells
  refine ⟨c, ?_, hs, hall⟩
  rw [hg.block b h.lt (fun e => by have := own_le ho b e.symm; omega)]
  exact hc
theorem owns_fr {base : Nat} {e : TypeId} {size : Nat} {v : Value} {n : Nat} {xs : List Value} {w w' : World} {S : Nat → Prop} (h : w.ownsRow base e size v n xs) (hf : Fr w.heap.size S w w') (hS : ∀ k, S k → k < base) : w'.ownsRow base e size v n xs := by
  obtain ⟨h1, h2⟩ := h
  refine ⟨h1, ?_⟩
  rcases h2 with h2 | ⟨g, cap, cur, hv, hg, hh, r⟩
  · exact Or.inl h2
  · have hlt : g < w.heap.size := by
      rcases Nat.lt_or_ge g w.heap.size with h | h
      · exact h
      · rw [Array.getElem?_eq_none h] at hh; cases hh
    exact Or.inr ⟨g, cap, cur, hv, hg, by rw [hf.block g hlt (fun hs => by have := hS g hs; omega)]; exact hh, r⟩
theorem RoomAt.typ {w : World} {b : Nat} {R : Room} (h : RoomAt w b R) {e : TypeId} (he : e ≠ 152) : ∀ k c fr, k = b → w.heap[k]? ≠ some (.cells c e fr) := by
  intro k c fr hk
  subst hk
  obtain ⟨c', hc, _, _⟩ := h.cells
  rw [hc]
  exact cells_ne (fun h => he h.symm)
theorem src_setSrc (R : Room) (n : Nat) (x : Src) : (R.setSrc n x).src n = x := by simp [Room.setSrc]
theorem setSrc_setSrc (R : Room) (n : Nat) (x y : Src) : (R.setSrc n x).setSrc n y = R.setSrc n y := by
  unfold Room.setSrc
  congr 1
  funext m
  dsimp only
  split <;> rfl
theorem RoomAt.setSrcCell {w : World} {b : Nat} {R : Room} (h : RoomAt w b R) {n i : Nat} (hn : n < 9) (hi : i < 5) {x : Src} {v : Value} (hx : ∀ j, j < 5 → srcCell x j = if j = i then v else srcCell (R.src n) j)
    (hrow : Row w 66 x.sv x.ss.length (u32s x.ss)) : RoomAt (w.setCell ⟨b, 9 + n * 5 + i, none⟩ v) b (R.setSrc n x) := by
  refine h.set (by omega) (fun j hj => ?_) (fun m hm => ?_)
  · by_cases h1 : j < 9 ∨ 54 ≤ j
    · unfold roomCell
      rw [if_neg (by omega : ¬ j = 9 + n * 5 + i)]
      by_cases h2 : j < 9
      · rw [if_pos h2, if_pos h2]; rfl
      · rw [if_neg h2, if_neg h2, if_neg (by omega), if_neg (by omega)]; rfl
    · unfold roomCell
      rw [if_neg (by omega : ¬ j < 9), if_pos (by omega : j < 54), if_neg (by omega : ¬ j < 9), if_pos (by omega : j < 54)]
      by_cases h3 : (j - 9) / 5 = n
      · have e : (R.setSrc n x).src ((j - 9) / 5) = x := by simp [Room.setSrc, h3]
        rw [e, h3, hx _ (by omega)]
        have : ((j - 9) % 5 = i) ↔ (j = 9 + n * 5 + i) := by omega
        by_cases h4 : (j - 9) % 5 = i
        · rw [if_pos h4, if_pos (this.1 h4)]
        · rw [if_neg h4, if_neg (fun e => h4 (this.2 e))]
      · have e : (R.setSrc n x).src ((j - 9) / 5) = R.src ((j - 9) / 5) := by simp [Room.setSrc, h3]
        rw [e, if_neg (by omega)]
  · by_cases hmn : m = n
    · subst hmn; rw [src_setSrc]; exact hrow
    · have e : (R.setSrc n x).src m = R.src m := by simp [Room.setSrc, hmn]
      rw [e]; exact h.rows m hm
theorem RoomAt.setSrc {w : World} {b : Nat} {R : Room} (h : RoomAt w b R) {n : Nat} (hn : n < 9) (x : Src) (hrow : Row w 66 x.sv x.ss.length (u32s x.ss)) :
    RoomAt (((((w.setCell ⟨b, 9 + n * 5, none⟩ (.bool x.there)).setCell ⟨b, 9 + n * 5 + 1, none⟩ (.int .i64 x.num)).setCell ⟨b, 9 + n * 5 + 2, none⟩ (.int .i64 x.own)).setCell ⟨b, 9 + n * 5 + 3, none⟩ x.sv).setCell ⟨b, 9 + n * 5 + 4, none⟩ (.bool x.muted)) b (R.setSrc n x) := by
  have ho := h.other
  obtain ⟨c, hc, _, _⟩ := h.cells
  have r1 := h.rows n hn
  have c5 : ∀ j, j < 5 → (j = 0 ∨ j = 1 ∨ j = 2 ∨ j = 3 ∨ j = 4) := by intro j hj; omega
  have h1 := h.setSrcCell hn (i := 0) (by omega) (x := { R.src n with there := x.there }) (v := .bool x.there) (by intro j hj; rcases c5 j hj with rfl | rfl | rfl | rfl | rfl <;> rfl) r1
  have h2 := h1.setSrcCell hn (i := 1) (by omega) (x := { R.src n with there := x.there, num := x.num }) (v := .int .i64 x.num) (by intro j hj; rw [src_setSrc]; rcases c5 j hj with rfl | rfl | rfl | rfl | rfl <;> rfl) (by have := h1.rows n hn; rw [src_setSrc] at this; exact this)
  have h3 := h2.setSrcCell hn (i := 2) (by omega) (x := { R.src n with there := x.there, num := x.num, own := x.own }) (v := .int .i64 x.own) (by intro j hj; rw [src_setSrc]; rcases c5 j hj with rfl | rfl | rfl | rfl | rfl <;> rfl) (by have := h2.rows n hn; rw [src_setSrc] at this; exact this)
  have hrow3 : Row (((w.setCell ⟨b, 9 + n * 5, none⟩ (.bool x.there)).setCell ⟨b, 9 + n * 5 + 1, none⟩ (.int .i64 x.num)).setCell ⟨b, 9 + n * 5 + 2, none⟩ (.int .i64 x.own)) 66 x.sv x.ss.length (u32s x.ss) :=
    hrow.fr ((((Fr.refl w.heap.size (· = b) w).setAt _ _).setAt _ _).setAt _ _) (Nat.le_refl _) ho
  have h4 := h3.setSrcCell hn (i := 3) (by omega) (x := { R.src n with there := x.there, num := x.num, own := x.own, sv := x.sv, ss := x.ss }) (v := x.sv) (by intro j hj; rw [src_setSrc]; rcases c5 j hj with rfl | rfl | rfl | rfl | rfl <;> rfl) hrow3
  have h5 := h4.setSrcCell hn (i := 4) (by omega) (x := x) (v := .bool x.muted) (by intro j hj; rw [src_setSrc]; rcases c5 j hj with rfl | rfl | rfl | rfl | rfl <;> rfl) (by have := h4.rows n hn; rw [src_setSrc] at this; exact this)
  rw [setSrc_setSrc, setSrc_setSrc, setSrc_setSrc, setSrc_setSrc] at h5
  exact h5
theorem goneGo_snoc (n : Nat) (p : Nat) : ∀ (l : List Nat) (R : Room), goneGo n (l ++ [p]) R = ((goneGo n l R).1 ++ [⟨3, p, n, 0, 0⟩, ⟨2, p, n, 0, 0⟩], (goneGo n l R).2.setSub n p noSub)
  | [], R => rfl
  | q :: l, R => by
    simp only [List.cons_append, goneGo]
    rw [goneGo_snoc n p l]
theorem goneGo_len (n : Nat) : ∀ (l : List Nat) (R : Room), (goneGo n l R).1.length = 2 * l.length
  | [], R => rfl
  | q :: l, R => by
    simp only [goneGo, List.length_cons, goneGo_len n l]; omega
theorem turnCells_len (t : Turn) : (turnCells t).length = 5 := rfl
theorem turns_one (l : List Turn) : ∀ u ∈ l.flatMap turnCells, u.oneCell' = true := by
  intro u hu
  obtain ⟨t, _, hu⟩ := List.mem_flatMap.1 hu
  simp only [turnCells, List.mem_cons, List.mem_nil_iff, or_false] at hu
  rcases hu with rfl | rfl | rfl | rfl | rfl <;> rfl
theorem turns_len (l : List Turn) : (l.flatMap turnCells).length = l.length * 5 := flat_length _ 5 turnCells_len l
theorem int_open {w : World} {v : Value} {l : List Nat} (h : Row w 3 v l.length (ints l)) (hl : 0 < l.length) : ∃ g off cap, v = .slice (some ⟨g, off, none⟩) l.length cap ∧ g < w.heap.size ∧ ∀ j, j < l.length → w.cell? ⟨g, off + j, none⟩ = some (.int .i64 (l.getD j 0 : Nat)) := by
  have hil : (ints l).length = l.length := List.length_map _
  obtain ⟨g, off, cap, h1, _, _, h4, h5⟩ := h.open (by rw [hil]; exact hl)
  refine ⟨g, off, cap, h1, h4, fun j hj => ?_⟩
  rw [h5 j (by rw [hil]; exact hj), List.getD_eq_getElem?_getD, List.getElem?_eq_getElem hj]
  simp [ints, hj]
theorem subs_mem {R : Room} {n : Int} {j : Nat} (h : j < (subs R n).length) : (subs R n).getD j 0 < 9 := by
  rw [List.getD_eq_getElem?_getD, List.getElem?_eq_getElem h]
  have := List.getElem_mem h
  have := (List.mem_filter.1 this).1
  simpa using this
theorem subs_len (R : Room) (n : Int) : (subs R n).length ≤ 9 := subsTo_len R n 9
theorem take_snoc {l : List Nat} {k : Nat} (h : k < l.length) : l.take (k + 1) = l.take k ++ [l.getD k 0] := by
  rw [List.take_succ_eq_append_getElem h, List.getD_eq_getElem?_getD, List.getElem?_eq_getElem h]; rfl
set_option maxHeartbeats 2000000 in
theorem gone_any (b : Nat) (R : Room) (n : Nat) (w : World) (hR : RoomAt w b R) (hn : n < 9) :
    Calls Tryz.prog 137 #[.pointer (some ⟨b, 0, none⟩), .int .i64 n] w fun e w' => (∃ v, e = .returned v ∧ TurnRow w' v (gone R n).1) ∧ RoomAt w' b (gone R n).2 ∧ Fr w.heap.size (· = b) w w' := by
  have hb := hR.lt
  have CS := Lib.hid (Subs_any b R n w hR)
  have HG0 : Hid (gone R n = ((goneGo n (subs R n) R).1, (goneGo n (subs R n) R).2.setSrc n noSrc)) := rfl
  have HM : Hid (∀ j, j < (subs R n).length → (subs R n).getD j 0 < 9) := fun j h => subs_mem h
  have HL := subs_len R n
  have HR := Lib.hid hR
  clear hR
  generalize subs R n = L at *
  go_enter Tryz.func137, Tryz.ntmps137
  go_wp2_with fail
  refine CS.out.mono ?_
  rintro e w1 ⟨⟨lv, rfl, hrow⟩, hb1⟩
  have HROW := Lib.hid hrow
  have HB := Lib.hid hb1
  clear hb1
  rcases Nat.eq_zero_or_pos L.length with h0 | h0
  · obtain ⟨la, lcap, rfl, hx⟩ := hrow
    clear hx
    have HLE : Hid (L = []) := List.eq_nil_of_length_eq_zero h0
    have HROOM := Lib.hid (HR.out.below HB.out)
    obtain ⟨s0, s1, s2, s3, s4⟩ := HROOM.out.srcc hn
    have f0 := HROOM.out.unfrozen (9 + n * 5)
    have f1 := HROOM.out.unfrozen (9 + n * 5 + 1)
    have f2 := HROOM.out.unfrozen (9 + n * 5 + 2)
    have f3 := HROOM.out.unfrozen (9 + n * 5 + 3)
    have f4 := HROOM.out.unfrozen (9 + n * 5 + 4)
    go_wp2_with fail
    go_loopw [5, 12] (fun v i w' => v = .slice none 0 0 ∧ i = .int .i64 0 ∧ w' = w1) (fun _ _ _ => 0)
    case atStart => exact ⟨rfl, rfl, rfl⟩
    case round =>
      obtain ⟨rfl, rfl, rfl⟩ := hrel
      go_wp2
      go_ret
      rw [HG0.out, HLE.out]
      refine ⟨⟨_, rfl, ?_⟩, HROOM.out.setSrc hn noSrc (Row.nil _ _), ((((((Fr.of_below _ HB.out).setAt _ _).setAt _ _).setAt _ _).setAt _ _).setAt _ _)⟩
      exact Row.nil _ _
  · obtain ⟨g, off, cap, rfl, hg, hcells⟩ := int_open hrow h0
    have HC := Lib.hid hcells
    clear hrow hcells
    go_wp2_with fail
    go_loopw [5, 12] (fun v i w' => ∃ k : Nat, k ≤ L.length ∧ i = .int .i64 k ∧ Fr w.heap.size (· = b) w w' ∧ Row w' 3 (.slice (some ⟨g, off, none⟩) L.length cap) L.length (ints L) ∧ RoomAt w' b (goneGo n (L.take k) R).2 ∧ w'.ownsRow w.heap.size 158 5 v (goneGo n (L.take k) R).1.length ((goneGo n (L.take k) R).1.flatMap turnCells)) (fun _ i _ => L.length - (intOf i).toNat)
    case atStart => exact ⟨0, by omega, rfl, Fr.of_below _ HB.out, HROW.out, HR.out.below HB.out, World.ownsRow_nil _ _ _ _⟩
    case round =>
      obtain ⟨k, hk, rfl, hfr, hrow, hroom, hown⟩ := hrel
      have HFR := Lib.hid hfr
      have HROW2 := Lib.hid hrow
      have HROOM := Lib.hid hroom
      have HOWN := Lib.hid hown
      clear hfr hown hroom
      by_cases hkl : k < L.length
      · obtain ⟨g', off', cap', e1, hg', hcells⟩ := int_open hrow h0
        cases e1
        have hc := hcells k hkl
        have hp := HM.out k hkl
        have HT := Lib.hid (take_snoc hkl)
        have HGL := goneGo_len n (L.take k) R
        rw [List.length_take] at HGL
        clear hcells hrow
        generalize L.getD k 0 = p at *
        have HS := Lib.hid (goneGo_snoc n p (L.take k) R)
        have CE := Lib.hid (end_any b (goneGo n (L.take k) R).2 p n wr HROOM.out hn hp)
        generalize goneGo n (L.take k) R = G at *
        go_wp2_with (first | (go_at_call 139; refine CE.out.mono ?_; rintro e w2 ⟨rfl, hroom2, hfr2⟩; have HROOM2 := Lib.hid hroom2; have HFR2 := Lib.hid hfr2; clear hroom2 hfr2) | (at_builtin; refine wpList_app rfl (.tmp 16) (.tmp 24) 98 rfl w.heap.size elemTurn _ G.1.length (G.1.flatMap turnCells) rfl ?a1 _ 2 ([⟨3, p, n, 0, 0⟩, ⟨2, p, n, 0, 0⟩].flatMap turnCells) rfl ?a2 rfl ?a4 ?a5 ?a6 ?a7 (fun v' w3 HO HG => ?_)))
        case a1 => exact (owns_fr HOWN.out HFR2.out (fun k hk => by omega)).alloc _
        case a2 => exact row_new' _ _ 2 _ ([⟨3, p, n, 0, 0⟩, ⟨2, p, n, 0, 0⟩].flatMap turnCells) (by decide) rfl
        case a4 => exact turns_one _
        case a5 => omega
        case a6 => omega
        case a7 => have h1 := HFR.out.size; have h2 := HFR2.out.size; simp; omega
        go_roundw
        case rel =>
          have h1 := HFR.out.size
          have h2 := HFR2.out.size
          have hown2 := (owns_fr HOWN.out HFR2.out (fun k hk => by omega)).alloc (.cells ([⟨3, p, n, 0, 0⟩, ⟨2, p, n, 0, 0⟩].flatMap turnCells).toArray 158)
          have hbl := below_alloc w2 (.cells ([⟨3, p, n, 0, 0⟩, ⟨2, p, n, 0, 0⟩].flatMap turnCells).toArray 158)
          refine ⟨k + 1, by omega, by go_num, ?_, ?_, ?_, ?_⟩
          · have h3 := HFR.out.trans (HFR2.out.mono (by omega) (fun _ _ h => h))
            exact (h3.alloc (by omega) _).grown HG.out (by simp; omega) (own_le HOWN.out)
          · exact Row.grown ((HROW2.out.fr HFR2.out (Nat.le_refl _) (HROOM.out.typ (by decide))).below hbl) hown2 HG.out (by decide)
          · rw [HT.out, HS.out]
            exact RoomAt.grown (HROOM2.out.below hbl) hown2 HG.out hb (by decide)
          · rw [HT.out, HS.out]
            dsimp only
            rw [List.length_append, List.flatMap_append]
            exact HO.out
        case measure => simp [intOf]; omega
      · have hkk : k = L.length := by omega
        have hT : L.take k = L := by rw [hkk, List.take_length]
        rw [hT] at HROOM HOWN
        obtain ⟨s0, s1, s2, s3, s4⟩ := HROOM.out.srcc hn
        have f0 := HROOM.out.unfrozen (9 + n * 5)
        have f1 := HROOM.out.unfrozen (9 + n * 5 + 1)
        have f2 := HROOM.out.unfrozen (9 + n * 5 + 2)
        have f3 := HROOM.out.unfrozen (9 + n * 5 + 3)
        have f4 := HROOM.out.unfrozen (9 + n * 5 + 4)
        clear hT hrow
        generalize goneGo n L R = G at *
        go_wp2
        go_ret
        rw [HG0.out]
        exact ⟨⟨_, rfl, (Row.of_owns HOWN.out).fr (((((((Fr.refl wr.heap.size (· = b) wr).setAt _ _).setAt _ _).setAt _ _).setAt _ _).setAt _ _)) (Nat.le_refl _) (HROOM.out.typ (by decide))⟩, HROOM.out.setSrc hn noSrc (Row.nil _ _), (((((HFR.out.setAt _ _).setAt _ _).setAt _ _).setAt _ _).setAt _ _)⟩
end Go.Proofs.Rm
namespace Go.Proofs.Rm
open Go.RowKit Go.Proofs.Heap Go.Proofs.Mem
theorem below_drewN {B : Nat} {a w : World} (h : Below B a w) : ∀ q, Below B a (w.drewN q)
  | 0 => h
  | q + 1 => (below_drewN h q).drew
set_option maxHeartbeats 1000000 in
theorem layer_any (b : Nat) (R : Room) (o : Op) (sa ba : Option Addr) (sl sc bl bc : Nat) (w : World) (hR : RoomAt w b R) (hs : 1 ≤ o.source ∧ o.source < 9) :
    Calls Tryz.prog 164 #[.pointer (some ⟨b, 0, none⟩), .agg #[.int .i64 o.kind, .int .i64 o.peer, .int .i64 o.source, .int .i64 o.layer, .string (str o.name), .slice sa sl sc, .slice ba bl bc]] w fun e w' => e = .returned (.int .i64 (layer R o)) ∧ Below w.heap.size w w' := by
  obtain ⟨k, p, n, q, nm, ss⟩ := o
  obtain ⟨n, rfl⟩ := Int.eq_ofNat_of_zero_le (show 0 ≤ n by have := hs.1; dsimp only at this; omega)
  have hn : n < 9 := by have := hs.2; dsimp only at this; omega
  obtain ⟨s0, s1, s2, s3, s4⟩ := hR.srcc hn
  have hb := hR.lt
  have HL : Hid (layer R ⟨k, p, n, q, nm, ss⟩ = if q < 0 ∨ ((R.src n).ss.length : Int) ≤ q then 5 else 0) := rfl
  have hlen := (hR.rows n hn).len
  obtain ⟨va, vc, hsv, hx⟩ := hR.rows n hn
  rw [hsv] at s3
  clear hR hs hx hsv
  generalize (R.src n).ss.length = L at *
  dsimp only
  by_cases h1 : q < 0
  · have HF : Hid (layer R ⟨k, p, n, q, nm, ss⟩ = 5) := by show _ = _; rw [HL.out, if_pos (Or.inl h1)]
    go_enter Tryz.func164, Tryz.ntmps164
    go_wp2
    go_quiet (fail)
    go_wp2
    go_ret
    exact ⟨ret_int HF.out.symm, by repeat (first | exact Below.refl _ _ | refine below_drewN ?_ _ | refine Below.drew ?_ | refine Below.alloc ?_ (by simp) _)⟩
  · by_cases h2 : (L : Int) ≤ q
    · have HF : Hid (layer R ⟨k, p, n, q, nm, ss⟩ = 5) := by show _ = _; rw [HL.out, if_pos (Or.inr h2)]
      have hd1 : decide (q < 0) = false := decide_eq_false h1
      have hd2 : decide ((L : Int) ≤ q) = true := decide_eq_true h2
      go_enter Tryz.func164, Tryz.ntmps164
      go_wp2
      go_quiet (fail)
      go_wp2
      go_ret
      exact ⟨ret_int HF.out.symm, by repeat (first | exact Below.refl _ _ | refine below_drewN ?_ _ | refine Below.drew ?_ | refine Below.alloc ?_ (by simp) _)⟩
    · have HF : Hid (layer R ⟨k, p, n, q, nm, ss⟩ = 0) := by show _ = _; rw [HL.out, if_neg (by omega)]
      have hd1 : decide (q < 0) = false := decide_eq_false h1
      have hd2 : decide ((L : Int) ≤ q) = false := decide_eq_false h2
      go_enter Tryz.func164, Tryz.ntmps164
      go_wp2
      go_quiet (fail)
      go_wp2
      go_ret
      exact ⟨ret_int HF.out.symm, by repeat (first | exact Below.refl _ _ | refine below_drewN ?_ _ | refine Below.drew ?_ | refine Below.alloc ?_ (by simp) _)⟩
end Go.Proofs.Rm
namespace Go.Proofs.Rm
open Go.RowKit Go.Proofs.Heap Go.Proofs.Mem
set_option maxHeartbeats 2000000 in
theorem heard_any (b : Nat) (R : Room) (o : Op) (sa ba : Option Addr) (sl sc bl bc : Nat) (w : World) (hR : RoomAt w b R) (hs : 1 ≤ o.source ∧ o.source < 9) (hp : 1 ≤ o.peer ∧ o.peer < 9) :
    Calls Tryz.prog 165 #[.pointer (some ⟨b, 0, none⟩), .agg #[.int .i64 o.kind, .int .i64 o.peer, .int .i64 o.source, .int .i64 o.layer, .string (str o.name), .slice sa sl sc, .slice ba bl bc]] w fun e w' => e = .returned (.int .i64 (heard R o)) ∧ Below w.heap.size w w' := by
  have CL := Lib.hid (fun (w1 : World) (h : Below w.heap.size w w1) => layer_any b R o sa ba sl sc bl bc w1 (hR.below h) hs)
  obtain ⟨k, p, n, q, nm, ss⟩ := o
  obtain ⟨n, rfl⟩ := Int.eq_ofNat_of_zero_le (show 0 ≤ n by have := hs.1; dsimp only at this; omega)
  obtain ⟨p, rfl⟩ := Int.eq_ofNat_of_zero_le (show 0 ≤ p by have := hp.1; dsimp only at this; omega)
  have hn : n < 9 := by have := hs.2; dsimp only at this; omega
  have hp9 : p < 9 := by have := hp.2; dsimp only at this; omega
  obtain ⟨c0, c1, c2⟩ := hR.subc hn hp9
  have hb := hR.lt
  have HL : Hid (heard R ⟨k, p, n, q, nm, ss⟩ = (let x := R.sub n p
      if !x.there then 8 else if k = 10 ∧ x.paused = true then 9 else if k = 11 ∧ x.paused = false then 11 else if k ≠ 12 then 0
      else if layer R ⟨k, p, n, q, nm, ss⟩ ≠ 0 then layer R ⟨k, p, n, q, nm, ss⟩ else if x.want = q then 9 else 0)) := rfl
  clear hR hs hp
  dsimp only at CL HL ⊢
  generalize layer R ⟨k, p, n, q, nm, ss⟩ = ly at *
  generalize heard R ⟨k, p, n, q, nm, ss⟩ = hd at *
  generalize (R.sub n p).there = t0 at *
  generalize (R.sub n p).paused = t1 at *
  generalize (R.sub n p).want = t2 at *
  go_enter Tryz.func165, Tryz.ntmps165
  go_wp2
  go_region
  go_wp2_with (go_at_call 164; refine (CL.out _ (by repeat (first | exact Below.refl _ _ | refine Below.drew ?_ | refine Below.alloc ?_ (by simp) _))).mono ?_; rintro e w1 ⟨rfl, hb1⟩; obtain ⟨hcl, hfz⟩ := bcell hb1)
  all_goals (go_ret; refine ⟨ret_int ?_, ?_⟩)
  all_goals try (refine Below.trans ?_ (hb1.mono (by simp; omega)))
  all_goals try (refine Below.drew ?_)
  all_goals try (refine Below.alloc (Below.alloc (Below.refl _ _) (Nat.le_refl _) _) (by simp) _)
  all_goals (rw [HL.out]; first | (simp [*]; done) | (simp_all; done) | skip)
end Go.Proofs.Rm
namespace Go.Proofs.Rm
open Go.RowKit Go.Proofs.Heap Go.Proofs.Mem
set_option maxHeartbeats 4000000 in
theorem about_any (b : Nat) (R : Room) (o : Op) (sa ba : Option Addr) (sl sc bl bc : Nat) (w : World) (hR : RoomAt w b R) (hs : 1 ≤ o.source ∧ o.source < 9) (hp : 1 ≤ o.peer ∧ o.peer < 9) :
    Calls Tryz.prog 135 #[.pointer (some ⟨b, 0, none⟩), .agg #[.int .i64 o.kind, .int .i64 o.peer, .int .i64 o.source, .int .i64 o.layer, .string (str o.name), .slice sa sl sc, .slice ba bl bc]] w fun e w' => e = .returned (.int .i64 (about R o)) ∧ Below w.heap.size w w' := by
  have CL := Lib.hid (fun (w1 : World) (h : Below w.heap.size w w1) => layer_any b R o sa ba sl sc bl bc w1 (hR.below h) hs)
  have CH := Lib.hid (fun (w1 : World) (h : Below w.heap.size w w1) => heard_any b R o sa ba sl sc bl bc w1 (hR.below h) hs hp)
  obtain ⟨k, p, n, q, nm, ss⟩ := o
  obtain ⟨n, rfl⟩ := Int.eq_ofNat_of_zero_le (show 0 ≤ n by have := hs.1; dsimp only at this; omega)
  obtain ⟨p, rfl⟩ := Int.eq_ofNat_of_zero_le (show 0 ≤ p by have := hp.1; dsimp only at this; omega)
  have hn : n < 9 := by have := hs.2; dsimp only at this; omega
  have hp9 : p < 9 := by have := hp.2; dsimp only at this; omega
  obtain ⟨c0, c1, c2⟩ := hR.subc hn hp9
  obtain ⟨s0, s1, s2, s3, s4⟩ := hR.srcc hn
  have hb := hR.lt
  have HL : Hid (about R ⟨k, p, n, q, nm, ss⟩ = (if k = 5 ∨ k = 8 ∨ k = 9 then
      (if (R.src n).own ≠ p then 10 else if k = 8 ∧ (R.src n).muted = true then 9 else if k = 9 ∧ (R.src n).muted = false then 11 else 0)
    else if k = 6 then (if (R.src n).own = p then 10 else if (R.sub n p).there then 9 else layer R ⟨k, p, n, q, nm, ss⟩)
    else heard R ⟨k, p, n, q, nm, ss⟩)) := rfl
  obtain ⟨va, vc, hsv, hx⟩ := hR.rows n hn
  rw [hsv] at s3
  clear hR hs hp hsv hx
  dsimp only at CL CH HL ⊢
  generalize layer R ⟨k, p, n, q, nm, ss⟩ = ly at *
  generalize heard R ⟨k, p, n, q, nm, ss⟩ = hd at *
  generalize about R ⟨k, p, n, q, nm, ss⟩ = ab at *
  generalize (R.sub n p).there = t0 at *
  generalize (R.src n).there = u0 at *
  generalize (R.src n).num = u1 at *
  generalize (R.src n).own = u2 at *
  generalize (R.src n).muted = u4 at *
  generalize (R.src n).ss.length = vl at *
  go_enter Tryz.func135, Tryz.ntmps135
  go_wp2
  go_region
  go_wp2_with (first | (go_at_call 164; refine (CL.out _ (by repeat (first | exact Below.refl _ _ | refine Below.drew ?_ | refine Below.alloc ?_ (by simp) _))).mono ?_; rintro e w1 ⟨rfl, hb1⟩) | (go_at_call 165; refine (CH.out _ (by repeat (first | exact Below.refl _ _ | refine Below.drew ?_ | refine Below.alloc ?_ (by simp) _))).mono ?_; rintro e w1 ⟨rfl, hb1⟩))
  all_goals try (go_region; go_wp2_with (first | (go_at_call 164; refine (CL.out _ (by repeat (first | exact Below.refl _ _ | refine Below.drew ?_ | refine Below.alloc ?_ (by simp) _))).mono ?_; rintro e w1 ⟨rfl, hb1⟩) | (go_at_call 165; refine (CH.out _ (by repeat (first | exact Below.refl _ _ | refine Below.drew ?_ | refine Below.alloc ?_ (by simp) _))).mono ?_; rintro e w1 ⟨rfl, hb1⟩)))
  all_goals (go_ret; refine ⟨ret_int ?_, ?_⟩)
  all_goals try (refine Below.trans ?_ (hb1.mono (by simp; omega)))
  all_goals try (refine Below.drew ?_)
  all_goals try (refine Below.drew ?_)
  all_goals try (refine Below.alloc (Below.alloc (Below.refl _ _) (Nat.le_refl _) _) (by simp) _)
  all_goals try (rw [HL.out]; first | (simp [*]; done) | (simp_all; done) | skip)
  go_goals
end Go.Proofs.Rm
namespace Go.Proofs.Rm
open Go.RowKit Go.Proofs.Heap Go.Proofs.Mem
theorem index_neg {l : List Int} {x : Int} : decide (0 ≤ index l x) = l.contains x := by
  unfold index
  cases h : l.findIdx? (fun y => y == x) with
  | none =>
    have := List.findIdx?_eq_none_iff.1 h
    have hx : l.contains x = false := by
      rw [Bool.eq_false_iff]; intro hc
      have := this x (by simpa using hc)
      simp at this
    rw [hx]; rfl
  | some i =>
    have hx : l.contains x = true := by
      obtain ⟨hi, h1, _⟩ := List.findIdx?_eq_some_iff_getElem.1 h
      have : l[i] = x := by simpa using h1
      rw [List.contains_iff_mem, ← this]; exact List.getElem_mem hi
    rw [hx]; simp
theorem Contains_any (v : Value) (l : List Int) (x : Int) (w : World) (hv : RRow w v l.length (u32s l)) :
    Calls Tryz.prog 163 #[v, .int .u32 x] w fun e w' => e = .returned (.bool (l.contains x)) ∧ w = w' := by
  have CI := Lib.hid (Index_any v l x w hv)
  have HN : Hid (decide (0 ≤ index l x) = l.contains x) := index_neg
  clear hv
  generalize index l x = q at *
  go_enter Tryz.func163, Tryz.ntmps163
  go_wp2_with (go_at_call 156; refine CI.out.mono ?_; rintro e w1 ⟨rfl, rfl⟩)
  all_goals go_ret
  all_goals exact ⟨ret_bool (by rw [← HN.out]), rfl⟩
theorem u32_take {w : World} {g off n cap : Nat} {l : List Int} (h : RRow w (.slice (some ⟨g, off, none⟩) n cap) l.length (u32s l)) (k : Nat) (hk : k ≤ l.length) : RRow w (.slice (some ⟨g, off, none⟩) k cap) (l.take k).length (u32s (l.take k)) := by
  obtain ⟨a, cap', hv, h1, h2, h3, h4⟩ := h
  injection hv with ha hn hc
  subst hc
  have hl : (l.take k).length = k := by rw [List.length_take]; omega
  refine ⟨some ⟨g, off, none⟩, cap, by rw [hl], by rw [hl]; omega, h2, (fun h => by cases h), ?_⟩
  by_cases hz : k = 0
  · subst hz; exact Or.inl rfl
  · rcases h4 with h4 | ⟨b, o, hab, hlt, hcc⟩
    · have : (u32s l).length = 0 := by rw [h4]; rfl
      rw [u32s_length] at this; omega
    · refine Or.inr ⟨b, o, by rw [ha, hab], hlt, fun j hj => ?_⟩
      rw [u32s_length, hl] at hj
      rw [hcc j (by rw [u32s_length]; omega)]
      simp [u32s, List.getElem?_take_of_lt hj]
theorem twice_split (R : Room) (l : List Int) (k : Nat) : twice R l k = ((of R (l.getD k 0)).2.2 || (l.take k).contains (l.getD k 0)) := rfl
set_option maxHeartbeats 4000000 in
theorem publishes_any (b : Nat) (R : Room) (o : Op) (sa ba : Option Addr) (sc bl bc : Nat) (w : World) (hR : RoomAt w b R) (hs : 1 ≤ o.source ∧ o.source < 9)
    (hrow : RRow w (.slice sa o.ssrcs.length sc) o.ssrcs.length (u32s o.ssrcs)) :
    Calls Tryz.prog 134 #[.pointer (some ⟨b, 0, none⟩), .agg #[.int .i64 o.kind, .int .i64 o.peer, .int .i64 o.source, .int .i64 o.layer, .string (str o.name), .slice sa o.ssrcs.length sc, .slice ba bl bc]] w fun e w' => e = .returned (.int .i64 (publishes R o)) ∧ Below w.heap.size w w' := by
  have CO := Lib.hid (fun (w1 : World) (x : Int) (h : Below w.heap.size w w1) => Of_any b R x w1 (hR.below h))
  obtain ⟨kd, p, n, q, nm, ss⟩ := o
  obtain ⟨n, rfl⟩ := Int.eq_ofNat_of_zero_le (show 0 ≤ n by have := hs.1; dsimp only at this; omega)
  have hn : n < 9 := by have := hs.2; dsimp only at this; omega
  obtain ⟨s0, s1, s2, s3, s4⟩ := hR.srcc hn
  have hb := hR.lt
  have HP : Hid (publishes R ⟨kd, p, n, q, nm, ss⟩ = (if ss.length < 1 ∨ 3 < ss.length then 5 else if ss.any (fun s => decide (s < 2) || decide (3221225472 ≤ s)) then 5 else if (R.src n).there then 9 else if (List.range ss.length).any (twice R ss) then 9 else 0)) := rfl
  dsimp only at *
  have hlen := hrow.len
  clear hR hs s1 s2 s3 s4
  generalize publishes R ⟨kd, p, n, q, nm, ss⟩ = pub at *
  generalize (R.src n).there = u0 at *
  by_cases h1 : ss.length < 1
  · have HF : Hid (pub = 5) := by show _ = _; rw [HP.out, if_pos (Or.inl h1)]
    clear hrow
    go_enter Tryz.func134, Tryz.ntmps134
    go_wp2
    go_ret
    exact ⟨ret_int HF.out.symm, below_alloc _ _⟩
  by_cases h2 : 3 < ss.length
  · have HF : Hid (pub = 5) := by show _ = _; rw [HP.out, if_pos (Or.inr h2)]
    clear hrow
    go_enter Tryz.func134, Tryz.ntmps134
    go_wp2
    go_ret
    exact ⟨ret_int HF.out.symm, below_alloc _ _⟩
  have HP2 : Hid (pub = (if ss.any (fun s => decide (s < 2) || decide (3221225472 ≤ s)) then 5 else if u0 then 9 else if (List.range ss.length).any (twice R ss) then 9 else 0)) := by
    show _ = _; rw [HP.out, if_neg (by omega)]
  obtain ⟨g, off, cap, e1, _, _, hg, hcells⟩ := u32_openR hrow (by omega)
  cases e1
  have HC := Lib.hid hcells
  have HROW := Lib.hid hrow
  clear hcells hrow HP
  go_enter Tryz.func134, Tryz.ntmps134
  go_wp2
  go_loop [25] (fun i => ∃ k : Nat, k ≤ ss.length ∧ i = .int .i64 k ∧ Hid (∀ j, j < k → 2 ≤ ss.getD j 0 ∧ ss.getD j 0 < 3221225472)) (fun i => ss.length - (intOf i).toNat)
  case atStart => exact ⟨0, Nat.zero_le _, rfl, fun j hj => by omega⟩
  case round =>
    obtain ⟨k, hk, rfl, hno⟩ := hrel
    by_cases hkl : k < ss.length
    · have hc := HC.out k hkl
      have HBAD : Hid (¬ (2 ≤ ss.getD k 0 ∧ ss.getD k 0 < 3221225472) → pub = 5) := by
        intro h
        rw [HP2.out, if_pos]
        rw [List.any_eq_true]
        refine ⟨ss.getD k 0, ?_, by generalize ss.getD k 0 = z at h ⊢; simp; omega⟩
        rw [List.getD_eq_getElem?_getD, List.getElem?_eq_getElem hkl]; exact List.getElem_mem hkl
      generalize hy : ss.getD k 0 = y at *
      have HY := Lib.hid hy
      clear hy
      by_cases g1 : y < 2
      · have HF := Lib.hid (HBAD.out (by omega))
        go_wp2
        go_ret
        exact ⟨ret_int HF.out.symm, below_alloc _ _⟩
      by_cases g2 : 3221225472 ≤ y
      · have HF := Lib.hid (HBAD.out (by omega))
        go_wp2
        go_ret
        exact ⟨ret_int HF.out.symm, below_alloc _ _⟩
      · go_wp2
        go_round
        case rel => exact ⟨k + 1, by omega, by go_num, fun j hj => by by_cases hjk : j < k; exact hno.out j hjk; rw [show j = k by omega, HY.out]; omega⟩
        case measure => simp [intOf]; omega
    · have HP3 : Hid (pub = if u0 then 9 else if (List.range ss.length).any (twice R ss) then 9 else 0) := by
        show _ = _
        rw [HP2.out, if_neg]
        rw [List.any_eq_true]
        rintro ⟨x, hx, hx2⟩
        obtain ⟨j, hj, rfl⟩ := List.getElem_of_mem hx
        have := hno.out j (by omega)
        rw [List.getD_eq_getElem?_getD, List.getElem?_eq_getElem hj] at this
        simp at hx2 this; omega
      clear hno HP2
      cases u0
      · have HP4 : Hid (pub = if (List.range ss.length).any (twice R ss) then 9 else 0) := by show _ = _; rw [HP3.out]; rfl
        clear HP3
        go_wp2
        go_quiet (fail)
        go_wp2
        go_loopw [47] (fun i w' => ∃ k : Nat, k ≤ ss.length ∧ i = .int .i64 k ∧ Below w.heap.size w w' ∧ w.heap.size < w'.heap.size ∧ w'.cell? ⟨w.heap.size, 5, none⟩ = some (.slice (some ⟨g, off, none⟩) ss.length sc) ∧ Hid (∀ j, j < k → twice R ss j = false)) (fun i _ => ss.length - (intOf i).toNat)
        case atStart => exact ⟨0, Nat.zero_le _, rfl, below_drewN (below_alloc _ _) _, by simp, by simp, fun j hj => by omega⟩
        case round =>
          obtain ⟨k, hk, rfl, hbl, hsz, hbox, hno⟩ := hrel
          by_cases hkl : k < ss.length
          · have hrowr := HROW.out.below hbl
            obtain ⟨g', off', cap', e1, _, _, hg', hcells⟩ := u32_openR hrowr (by omega)
            cases e1
            have hc := hcells k hkl
            have CO1 := Lib.hid (CO.out wr (ss.getD k 0) hbl)
            have CC : Hid (∀ w1, Below wr.heap.size wr w1 → Calls Tryz.prog 163 #[.slice (some ⟨g, off, none⟩) k sc, .int .u32 (ss.getD k 0)] w1 fun e w' => e = .returned (.bool ((ss.take k).contains (ss.getD k 0))) ∧ w1 = w') :=
              fun w1 h => Contains_any _ (ss.take k) _ w1 (u32_take (hrowr.below h) k hk)
            have HTW := Lib.hid (twice_split R ss k)
            have HNIN : Hid (twice R ss k = true → pub = 9) := by
              intro h
              rw [HP4.out, if_pos]
              rw [List.any_eq_true]
              exact ⟨k, by simpa using hkl, h⟩
            clear hcells hrowr
            generalize of R (ss.getD k 0) = O at *
            obtain ⟨o1, o2, o3⟩ := O
            dsimp only at CO1 HTW
            generalize hcn : (ss.take k).contains (ss.getD k 0) = cn at *
            clear hcn
            generalize ss.getD k 0 = x at *
            cases o3
            · cases cn
              · have HF : Hid (twice R ss k = false) := by show _ = _; rw [HTW.out]; rfl
                go_wp2_with (first | (go_at_call 127; refine CO1.out.mono ?_; rintro e w2 ⟨rfl, hb2⟩; have hbox2 := (hb2.cell (p := ⟨w.heap.size, 5, none⟩) hsz).trans hbox) | (go_at_call 163; refine (CC.out _ hb2).mono ?_; rintro e w3 ⟨rfl, rfl⟩))
                go_roundw
                case rel => exact ⟨k + 1, by omega, by go_num, hbl.trans (hb2.mono hbl.size), Nat.lt_of_lt_of_le hsz hb2.size, hbox2, fun j hj => by by_cases hjk : j < k; exact hno.out j hjk; rw [show j = k by omega]; exact HF.out⟩
                case measure => simp [intOf]; omega
              · have HF := Lib.hid (HNIN.out (by rw [HTW.out]; rfl))
                go_wp2_with (first | (go_at_call 127; refine CO1.out.mono ?_; rintro e w2 ⟨rfl, hb2⟩; have hbox2 := (hb2.cell (p := ⟨w.heap.size, 5, none⟩) hsz).trans hbox) | (go_at_call 163; refine (CC.out _ hb2).mono ?_; rintro e w3 ⟨rfl, rfl⟩))
                go_ret
                exact ⟨ret_int HF.out.symm, hbl.trans (hb2.mono hbl.size)⟩
            · have HF := Lib.hid (HNIN.out (by rw [HTW.out]; rfl))
              go_wp2_with (first | (go_at_call 127; refine CO1.out.mono ?_; rintro e w2 ⟨rfl, hb2⟩; have hbox2 := (hb2.cell (p := ⟨w.heap.size, 5, none⟩) hsz).trans hbox))
              go_ret
              exact ⟨ret_int HF.out.symm, hbl.trans (hb2.mono hbl.size)⟩
          · have HF : Hid (pub = 0) := by
              show _ = _
              rw [HP4.out, if_neg]
              rw [List.any_eq_true]
              rintro ⟨j, hj, hj2⟩
              rw [hno.out j (by simp at hj; omega)] at hj2
              cases hj2
            go_wp2
            go_ret
            exact ⟨ret_int HF.out.symm, hbl⟩
      · have HF : Hid (pub = 9) := by show _ = _; rw [HP3.out]; rfl
        go_wp2
        go_quiet (fail)
        go_wp2
        go_ret
        exact ⟨ret_int HF.out.symm, below_drewN (below_alloc _ _) _⟩
end Go.Proofs.Rm
namespace Go.Proofs.Lab
open Go.RowKit Go.Lib Go.Proofs.Mem
theorem below_iter (w : World) (s : ByteArray) (p : Nat) : Below w.heap.size w (w.iter s p) := (Below.refl _ _).alloc (Nat.le_refl _) _
theorem ret_str {a b : ByteArray} (h : a = b) : Ending.returned (.string a) = .returned (.string b) := by rw [h]
theorem ret_bool {a b : Bool} (h : a = b) : Ending.returned (.bool a) = .returned (.bool b) := by rw [h]
theorem ret_int {k : IntKind} {a b : Int} (h : a = b) : Ending.returned (.int k a) = .returned (.int k b) := by rw [h]
theorem pos_facts (s : ByteArray) (k : Nat) (h : cutAt s.data.toList k < s.size) : k < (rn s.data.toList).length ∧ cutAt s.data.toList (k + 1) = cutAt s.data.toList k + (Utf8.decode s (cutAt s.data.toList k)).2 ∧ k ≤ cutAt s.data.toList k ∧ (rn s.data.toList)[k]? = some (Utf8.decode s (cutAt s.data.toList k)) := by
  have hl : s.data.toList.length = s.size := (Lib.size_eq s).symm
  have h1 := (cutAt_lt s.data.toList k).1 (by omega)
  refine ⟨h1, ?_, cutAt_ge _ _ (by omega), ?_⟩
  · rw [cutAt_succ _ _ (by omega), decodeL_drop]
  · rw [List.getElem?_eq_getElem h1, rn_at _ _ h1, decodeL_drop]
theorem pos_end (s : ByteArray) (k : Nat) (h : ¬ cutAt s.data.toList k < s.size) : (rn s.data.toList).length ≤ k := by
  have hl : s.data.toList.length = s.size := (Lib.size_eq s).symm
  have := cutAt_lt s.data.toList k
  omega
theorem all_snoc {p : Nat × Nat → Bool} {R : List (Nat × Nat)} {k : Nat} {x : Nat × Nat} (h : (R.take k).all p = true) (hk : R[k]? = some x) (hx : p x = true) : (R.take (k + 1)).all p = true := by
  rw [List.take_add_one, hk, List.all_append, h]; simp [hx]
theorem all_bad {p : Nat × Nat → Bool} {R : List (Nat × Nat)} {k : Nat} {x : Nat × Nat} (hk : R[k]? = some x) (hx : p x = false) : R.all p = false := by
  rw [Bool.eq_false_iff]; intro h
  have := List.all_eq_true.1 h x (List.mem_of_getElem? hk)
  rw [hx] at this; cases this

set_option maxHeartbeats 400000 in
theorem May_any (s : ByteArray) (w : World) (hs : s.size < 9223372036854775807) :
    Calls Tryz.prog 161 #[.string s] w (fun e w' => e = .returned (.bool (may s.data.toList)) ∧ Below w.heap.size w w') := by
  have HR : Hid ((rn s.data.toList).length ≤ s.size) := by have := rn_length_le s.data.toList; rw [Lib.size_eq]; exact this
  go_enter Tryz.func161, Tryz.ntmps161
  go_wp2
  go_loopw [3] (fun c w' => ∃ k : Nat, w' = w.iter s (cutAt s.data.toList k) ∧ c = .int .i64 k ∧ k ≤ (rn s.data.toList).length ∧ Hid (((rn s.data.toList).take k).all (fun p => okR p.1) = true)) (fun _ w' => s.size - w'.iterPos w.heap.size)
  case atStart => exact ⟨0, rfl, rfl, Nat.zero_le _, rfl⟩
  case round =>
    obtain ⟨k, rfl, rfl, hle, hall⟩ := hrel
    by_cases hp : cutAt s.data.toList k < s.size
    · have hnx : ∀ ty, (Instr.next (.pointer (some ⟨w.heap.size, 0, none⟩)) true ty).run Tryz.prog (w.iter s (cutAt s.data.toList k)) = _ := fun ty => run_next_any w s _ ty hp
      have hwd := Lib.decode_width_pos s _ hp
      obtain ⟨h1, h2, h3, h4⟩ := pos_facts s k hp
      have H2 := Lib.hid h2
      have H4 := Lib.hid h4
      clear h2 h4
      have hks : k < s.size := by omega
      generalize hd : Utf8.decode s (cutAt s.data.toList k) = d at *
      have HD := Lib.hid hd
      clear hd
      obtain ⟨r, wd⟩ := d
      dsimp only at *
      by_cases hbad : okR r = true
      · have HB := Lib.hid hbad
        have hb := hbad
        unfold okR at hb
        simp only [Bool.and_eq_true, Bool.or_eq_true, decide_eq_true_eq, Bool.not_eq_true', beq_eq_false_iff_ne] at hb
        obtain ⟨⟨b1, b2⟩, b3⟩ := hb
        clear hbad
        have t1 : ((r : Int) == 65533) = false := by rw [beq_eq_false_iff_ne]; omega
        clear b3
        by_cases b4 : r < 127
        · clear b2
          go_wp2
          go_roundw
          case rel => exact ⟨k + 1, by rw [H2.out], by go_num, by omega, all_snoc hall.out H4.out HB.out⟩
          case measure => simp; omega
        · have b5 : 159 < r := by omega
          clear b2
          go_wp2
          go_roundw
          case rel => exact ⟨k + 1, by rw [H2.out], by go_num, by omega, all_snoc hall.out H4.out HB.out⟩
          case measure => simp; omega
      · have HF : Hid (may s.data.toList = false) := by
          show _ = _
          unfold may; rw [all_bad H4.out (by simpa using hbad)]; rfl
        have HC : Hid (r < 33 ∨ (127 ≤ r ∧ r ≤ 159) ∨ r = 65533) := by
          show _ ∨ _
          unfold okR at hbad
          simp at hbad; omega
        clear hbad
        by_cases b1 : r < 33
        · go_wp2
          go_ret
          exact ⟨ret_bool HF.out.symm, below_iter _ _ _⟩
        by_cases b2 : 127 ≤ r ∧ r ≤ 159
        · obtain ⟨b2, b3⟩ := b2
          go_wp2
          go_ret
          exact ⟨ret_bool HF.out.symm, below_iter _ _ _⟩
        · have b3 : r = 65533 := by have := HC.out; omega
          subst b3
          go_wp2
          go_ret
          exact ⟨ret_bool HF.out.symm, below_iter _ _ _⟩
    · have hnx : ∀ ty, (Instr.next (.pointer (some ⟨w.heap.size, 0, none⟩)) true ty).run Tryz.prog (w.iter s (cutAt s.data.toList k)) = _ := fun ty => run_next_end w s _ ty hp
      have hend := pos_end s k hp
      have HM : Hid (may s.data.toList = (decide (1 ≤ k) && decide (k ≤ 8))) := by
        show _ = _
        have e : (rn s.data.toList).length = k := by omega
        have h := hall.out
        rw [← e, List.take_length] at h
        unfold may; rw [h, e, Bool.true_and]
      by_cases c1 : 1 ≤ k
      · by_cases c2 : k ≤ 8
        · go_wp2
          go_ret
          exact ⟨ret_bool (by rw [HM.out]; first | (simp [c1, c2]; done) | (simp [c1, c2]; omega)), below_iter _ _ _⟩
        · go_wp2
          go_ret
          exact ⟨ret_bool (by rw [HM.out]; first | (simp [c1, c2]; done) | (simp [c1, c2]; omega)), below_iter _ _ _⟩
      · go_wp2
        go_ret
        exact ⟨ret_bool (by rw [HM.out]; first | (simp [c1]; done) | (simp [c1]; omega)), below_iter _ _ _⟩
end Go.Proofs.Lab
namespace Go.Proofs.Lab
open Go.RowKit Go.Lib Go.Proofs.Mem
/-- The two tables of unicode/utf8. -/
abbrev Tabs (w : World) : Prop := Utf8Tabs 0 1 w
theorem Key1_any (r : Int) (w : World) (h0 : 0 ≤ r) (h1 : r ≤ 1114111) :
    Calls Tryz.prog 178 #[.int .i32 r] w (fun e w' => e = .returned (.int .i32 (lowF r)) ∧ w = w') := by
  have HC : Hid (lowF r = if 65 ≤ r ∧ r ≤ 90 then r - 65 + 97 else r) := rfl
  by_cases b1 : 65 ≤ r
  · by_cases b2 : r ≤ 90
    · have HF : Hid (lowF r = r - 65 + 97) := by show _ = _; rw [HC.out, if_pos ⟨b1, b2⟩]
      go_enter Tryz.func178, Tryz.ntmps178
      go_wp2
      go_ret
      exact ⟨ret_int HF.out.symm, rfl⟩
    · have HF : Hid (lowF r = r) := by show _ = _; rw [HC.out, if_neg (by omega)]
      go_enter Tryz.func178, Tryz.ntmps178
      go_wp2
      go_ret
      exact ⟨ret_int HF.out.symm, rfl⟩
  · have HF : Hid (lowF r = r) := by show _ = _; rw [HC.out, if_neg (by omega)]
    go_enter Tryz.func178, Tryz.ntmps178
    go_wp2
    go_ret
    exact ⟨ret_int HF.out.symm, rfl⟩
set_option maxRecDepth 100000 in
theorem Key_any (s : ByteArray) (w : World) (hs : s.size < 9223372036854775807) (hT : Tabs w) :
    Calls Tryz.prog 162 #[.string s] w (fun e w' => e = .returned (.string (str (key s.data.toList))) ∧ Below w.heap.size w w') := by
  have hT' := Lib.hid hT
  have CM := Lib.hid (May_any s w hs)
  have HK : Hid (key s.data.toList = if may s.data.toList then s.data.toList.map low else []) := rfl
  clear hT
  by_cases hm : may s.data.toList = true
  · have HF : Hid (key s.data.toList = mapD lowF s.data.toList) := by
      show _ = _
      rw [HK.out, if_pos hm, mapD_low _ (by rw [validD_rn]; exact may_valid hm)]
    have hs2 : s.size < 35184372088832 := by have := may_len hm; rw [← Lib.size_eq] at this; omega
    rw [hm] at CM
    clear hm
    have CF : ∀ w1, Below w.heap.size w w1 → Calls Tryz.prog 177 #[.func (.func 178) #[] #[], .string s] w1 fun e w' => e = .returned (.string ⟨(Lib.mapD lowF s.data.toList).toArray⟩) ∧ Below w1.heap.size w1 w' := by
      intro w1 hb
      refine Tryz.strings_Map_runes 178 #[] ?_ lowF s w1 hs2 ?_ ?_ (Utf8Tabs_below hT'.out hb)
      · exact fun args w => by kernel_rfl
      · intro W x hx _
        exact (Key1_any (x : Int) W (by omega) (by omega)).mono fun e w' h => ⟨h.1, 0, h.2.symm⟩
      · intro x hx
        unfold lowF; split <;> omega
    have CF := Lib.hid CF
    go_enter Tryz.func162, Tryz.ntmps162
    go_wp2_with (first | (go_at_call 161; refine CM.out.mono ?_; rintro e w1 ⟨rfl, hb⟩) | (go_at_call 177; refine (CF.out _ (by assumption)).mono ?_; rintro e w2 ⟨rfl, hb2⟩))
    go_ret
    refine ⟨?_, hb.trans (hb2.mono hb.size)⟩
    rw [HF.out]; rfl
  · have hm : may s.data.toList = false := by simpa using hm
    have HF : Hid (key s.data.toList = []) := by show _ = _; rw [HK.out, hm]; rfl
    rw [hm] at CM
    clear hm
    go_enter Tryz.func162, Tryz.ntmps162
    go_wp2_with (first | (go_at_call 161; refine CM.out.mono ?_; rintro e w1 ⟨rfl, hb⟩))
    go_ret
    exact ⟨ret_str (by rw [HF.out]; rfl), hb⟩

end Go.Proofs.Lab
