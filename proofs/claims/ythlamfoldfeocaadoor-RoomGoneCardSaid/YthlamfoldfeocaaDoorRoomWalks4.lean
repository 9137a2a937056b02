/- The walks of package room, each function once: gone, leave, mute. -/
import Derived.Test.YthlamfoldfeocaaDoorRoomWalks3
namespace Go.Proofs.Rm
open Go.RowKit Go.Proofs.Heap Go.Proofs.Mem
theorem Row.grown {w w' : World} {e : TypeId} {v : Value} {n : Nat} {xs : List Value} (h : Row w e v n xs) {base : Nat} {e2 : TypeId} {size : Nat} {vo : Value} {m : Nat} {ys : List Value} (ho : w.ownsRow base e2 size vo m ys) (hg : w.grownBy w' vo.ownBlock) (hne : e ≠ e2) : Row w' e v n xs := by
  refine h.fr (B := w.heap.size) (S := fun k => vo.ownBlock = some k) ⟨hg.os, hg.tape, hg.output, hg.size, fun k hk hs => hg.block k hk (fun e => hs e.symm)⟩ (Nat.le_refl _) ?_
  intro k c fr hk he
  obtain ⟨_, ho⟩ := ho
  rcases ho with ⟨rfl, _⟩ | ⟨g, cap, cur, rfl, _, hh, _⟩
  · cases hk
  · have hk : some g = some k := hk
    cases hk
    rw [hh] at he
    exact cells_ne (fun h => hne h.symm) he
theorem RoomAt.grown {w w' : World} {b : Nat} {R : Room} (h : RoomAt w b R) {base : Nat} {e2 : TypeId} {size : Nat} {vo : Value} {m : Nat} {ys : List Value} (ho : w.ownsRow base e2 size vo m ys) (hg : w.grownBy w' vo.ownBlock) (hb : b < base) (hne : 23 ≠ e2) : RoomAt w' b R := by
  refine ⟨?_, fun n hn => Row.grown (h.rows n hn) ho hg hne⟩
  obtain ⟨c, hc, hs, hall⟩ := h.cells
  refine ⟨c, ?_, hs, hall⟩
  rw [hg.block b h.lt (fun e => by have := own_le ho b e.symm; omega)]
  exact hc
theorem owns_fr {base : Nat} {e : TypeId} {size : Nat} {v : Value} {n : Nat} {xs : List Value} {w w' : World} {S : Nat → Prop} (h : w.ownsRow base e size v n xs) (hf : Fr w.heap.size S w w') (hS : ∀ k, S k → k < base) : w'.ownsRow base e size v n xs := by
  obtain ⟨h1, h2⟩ := h
  refine ⟨h1, ?_⟩
  rcases h2 with h2 | ⟨g, cap, cur, hv, hg, hh, r⟩
  · exact Or.inl h2
  · have hlt : g < w.heap.size := by
      rcases Nat.lt_or_ge g w.heap.size with h | h
      · exact h
      · rw [Array.getElem?_eq_none h] at hh; cases hh
    exact Or.inr ⟨g, cap, cur, hv, hg, by rw [hf.block g hlt (fun hs => by have := hS g hs; omega)]; exact hh, r⟩
theorem RoomAt.typ {w : World} {b : Nat} {R : Room} (h : RoomAt w b R) {e : TypeId} (he : e ≠ 88) : ∀ k c fr, k = b → w.heap[k]? ≠ some (.cells c e fr) := by
  intro k c fr hk
  subst hk
  obtain ⟨c', hc, _, _⟩ := h.cells
  rw [hc]
  exact cells_ne (fun h => he h.symm)
theorem src_setSrc (R : Room) (n : Nat) (x : Src) : (R.setSrc n x).src n = x := by simp [Room.setSrc]
theorem setSrc_setSrc (R : Room) (n : Nat) (x y : Src) : (R.setSrc n x).setSrc n y = R.setSrc n y := by
  unfold Room.setSrc
  congr 1
  funext m
  dsimp only
  split <;> rfl
theorem RoomAt.setSrcCell {w : World} {b : Nat} {R : Room} (h : RoomAt w b R) {n i : Nat} (hn : n < 9) (hi : i < 5) {x : Src} {v : Value} (hx : ∀ j, j < 5 → srcCell x j = if j = i then v else srcCell (R.src n) j)
    (hrow : Row w 23 x.sv x.ss.length (u32s x.ss)) : RoomAt (w.setCell ⟨b, 9 + n * 5 + i, none⟩ v) b (R.setSrc n x) := by
  refine h.set (by omega) (fun j hj => ?_) (fun m hm => ?_)
  · by_cases h1 : j < 9 ∨ 54 ≤ j
    · unfold roomCell
      rw [if_neg (by omega : ¬ j = 9 + n * 5 + i)]
      by_cases h2 : j < 9
      · rw [if_pos h2, if_pos h2]; rfl
      · rw [if_neg h2, if_neg h2, if_neg (by omega), if_neg (by omega)]; rfl
    · unfold roomCell
      rw [if_neg (by omega : ¬ j < 9), if_pos (by omega : j < 54), if_neg (by omega : ¬ j < 9), if_pos (by omega : j < 54)]
      by_cases h3 : (j - 9) / 5 = n
      · have e : (R.setSrc n x).src ((j - 9) / 5) = x := by simp [Room.setSrc, h3]
        rw [e, h3, hx _ (by omega)]
        have : ((j - 9) % 5 = i) ↔ (j = 9 + n * 5 + i) := by omega
        by_cases h4 : (j - 9) % 5 = i
        · rw [if_pos h4, if_pos (this.1 h4)]
        · rw [if_neg h4, if_neg (fun e => h4 (this.2 e))]
      · have e : (R.setSrc n x).src ((j - 9) / 5) = R.src ((j - 9) / 5) := by simp [Room.setSrc, h3]
        rw [e, if_neg (by omega)]
  · by_cases hmn : m = n
    · subst hmn; rw [src_setSrc]; exact hrow
    · have e : (R.setSrc n x).src m = R.src m := by simp [Room.setSrc, hmn]
      rw [e]; exact h.rows m hm
theorem RoomAt.setSrc {w : World} {b : Nat} {R : Room} (h : RoomAt w b R) {n : Nat} (hn : n < 9) (x : Src) (hrow : Row w 23 x.sv x.ss.length (u32s x.ss)) :
    RoomAt (((((w.setCell ⟨b, 9 + n * 5, none⟩ (.bool x.there)).setCell ⟨b, 9 + n * 5 + 1, none⟩ (.int .i64 x.num)).setCell ⟨b, 9 + n * 5 + 2, none⟩ (.int .i64 x.own)).setCell ⟨b, 9 + n * 5 + 3, none⟩ x.sv).setCell ⟨b, 9 + n * 5 + 4, none⟩ (.bool x.muted)) b (R.setSrc n x) := by
  have ho := h.other
  obtain ⟨c, hc, _, _⟩ := h.cells
  have r1 := h.rows n hn
  have c5 : ∀ j, j < 5 → (j = 0 ∨ j = 1 ∨ j = 2 ∨ j = 3 ∨ j = 4) := by intro j hj; omega
  have h1 := h.setSrcCell hn (i := 0) (by omega) (x := { R.src n with there := x.there }) (v := .bool x.there) (by intro j hj; rcases c5 j hj with rfl | rfl | rfl | rfl | rfl <;> rfl) r1
  have h2 := h1.setSrcCell hn (i := 1) (by omega) (x := { R.src n with there := x.there, num := x.num }) (v := .int .i64 x.num) (by intro j hj; rw [src_setSrc]; rcases c5 j hj with rfl | rfl | rfl | rfl | rfl <;> rfl) (by have := h1.rows n hn; rw [src_setSrc] at this; exact this)
  have h3 := h2.setSrcCell hn (i := 2) (by omega) (x := { R.src n with there := x.there, num := x.num, own := x.own }) (v := .int .i64 x.own) (by intro j hj; rw [src_setSrc]; rcases c5 j hj with rfl | rfl | rfl | rfl | rfl <;> rfl) (by have := h2.rows n hn; rw [src_setSrc] at this; exact this)
  have hrow3 : Row (((w.setCell ⟨b, 9 + n * 5, none⟩ (.bool x.there)).setCell ⟨b, 9 + n * 5 + 1, none⟩ (.int .i64 x.num)).setCell ⟨b, 9 + n * 5 + 2, none⟩ (.int .i64 x.own)) 23 x.sv x.ss.length (u32s x.ss) :=
    hrow.fr ((((Fr.refl w.heap.size (· = b) w).setAt _ _).setAt _ _).setAt _ _) (Nat.le_refl _) ho
  have h4 := h3.setSrcCell hn (i := 3) (by omega) (x := { R.src n with there := x.there, num := x.num, own := x.own, sv := x.sv, ss := x.ss }) (v := x.sv) (by intro j hj; rw [src_setSrc]; rcases c5 j hj with rfl | rfl | rfl | rfl | rfl <;> rfl) hrow3
  have h5 := h4.setSrcCell hn (i := 4) (by omega) (x := x) (v := .bool x.muted) (by intro j hj; rw [src_setSrc]; rcases c5 j hj with rfl | rfl | rfl | rfl | rfl <;> rfl) (by have := h4.rows n hn; rw [src_setSrc] at this; exact this)
  rw [setSrc_setSrc, setSrc_setSrc, setSrc_setSrc, setSrc_setSrc] at h5
  exact h5
theorem goneGo_snoc (n : Nat) (p : Nat) : ∀ (l : List Nat) (R : Room), goneGo n (l ++ [p]) R = ((goneGo n l R).1 ++ [⟨3, p, n, 0, 0⟩, ⟨2, p, n, 0, 0⟩], (goneGo n l R).2.setSub n p noSub)
  | [], R => rfl
  | q :: l, R => by
    simp only [List.cons_append, goneGo]
    rw [goneGo_snoc n p l]
theorem goneGo_len (n : Nat) : ∀ (l : List Nat) (R : Room), (goneGo n l R).1.length = 2 * l.length
  | [], R => rfl
  | q :: l, R => by
    simp only [goneGo, List.length_cons, goneGo_len n l]; omega
theorem turnCells_len (t : Turn) : (turnCells t).length = 5 := rfl
theorem turns_one (l : List Turn) : ∀ u ∈ l.flatMap turnCells, u.oneCell' = true := by
  intro u hu
  obtain ⟨t, _, hu⟩ := List.mem_flatMap.1 hu
  simp only [turnCells, List.mem_cons, List.mem_nil_iff, or_false] at hu
  rcases hu with rfl | rfl | rfl | rfl | rfl <;> rfl
theorem turns_len (l : List Turn) : (l.flatMap turnCells).length = l.length * 5 := flat_length _ 5 turnCells_len l
theorem int_open {w : World} {v : Value} {l : List Nat} (h : Row w 3 v l.length (ints l)) (hl : 0 < l.length) : ∃ g off cap, v = .slice (some ⟨g, off, none⟩) l.length cap ∧ g < w.heap.size ∧ ∀ j, j < l.length → w.cell? ⟨g, off + j, none⟩ = some (.int .i64 (l.getD j 0 : Nat)) := by
  have hil : (ints l).length = l.length := List.length_map _
  obtain ⟨g, off, cap, h1, _, _, h4, h5⟩ := h.open (by rw [hil]; exact hl)
  refine ⟨g, off, cap, h1, h4, fun j hj => ?_⟩
  rw [h5 j (by rw [hil]; exact hj), List.getD_eq_getElem?_getD, List.getElem?_eq_getElem hj]
  simp [ints, hj]
theorem subs_mem {R : Room} {n : Int} {j : Nat} (h : j < (subs R n).length) : (subs R n).getD j 0 < 9 := by
  rw [List.getD_eq_getElem?_getD, List.getElem?_eq_getElem h]
  have := List.getElem_mem h
  have := (List.mem_filter.1 this).1
  simpa using this
theorem subs_len (R : Room) (n : Int) : (subs R n).length ≤ 9 := subsTo_len R n 9
theorem take_snoc {l : List Nat} {k : Nat} (h : k < l.length) : l.take (k + 1) = l.take k ++ [l.getD k 0] := by
  rw [List.take_succ_eq_append_getElem h, List.getD_eq_getElem?_getD, List.getElem?_eq_getElem h]; rfl
set_option maxHeartbeats 2000000 in
theorem gone_any (b : Nat) (R : Room) (n : Nat) (w : World) (hR : RoomAt w b R) (hn : n < 9) :
    Calls Tryd.prog 50 #[.pointer (some ⟨b, 0, none⟩), .int .i64 n] w fun e w' => (∃ v, e = .returned v ∧ TurnRow w' v (gone R n).1) ∧ RoomAt w' b (gone R n).2 ∧ Fr w.heap.size (· = b) w w' := by
  have hb := hR.lt
  have CS := Lib.hid (Subs_any b R n w hR)
  have HG0 : Hid (gone R n = ((goneGo n (subs R n) R).1, (goneGo n (subs R n) R).2.setSrc n noSrc)) := rfl
  have HM : Hid (∀ j, j < (subs R n).length → (subs R n).getD j 0 < 9) := fun j h => subs_mem h
  have HL := subs_len R n
  have HR := Lib.hid hR
  clear hR
  generalize subs R n = L at *
  go_enter Tryd.func50, Tryd.ntmps50
  go_wp2_with fail
  refine CS.out.mono ?_
  rintro e w1 ⟨⟨lv, rfl, hrow⟩, hb1⟩
  have HROW := Lib.hid hrow
  have HB := Lib.hid hb1
  clear hb1
  rcases Nat.eq_zero_or_pos L.length with h0 | h0
  · obtain ⟨la, lcap, rfl, hx⟩ := hrow
    clear hx
    have HLE : Hid (L = []) := List.eq_nil_of_length_eq_zero h0
    have HROOM := Lib.hid (HR.out.below HB.out)
    obtain ⟨s0, s1, s2, s3, s4⟩ := HROOM.out.srcc hn
    have f0 := HROOM.out.unfrozen (9 + n * 5)
    have f1 := HROOM.out.unfrozen (9 + n * 5 + 1)
    have f2 := HROOM.out.unfrozen (9 + n * 5 + 2)
    have f3 := HROOM.out.unfrozen (9 + n * 5 + 3)
    have f4 := HROOM.out.unfrozen (9 + n * 5 + 4)
    go_wp2_with fail
    go_loopw [5, 12] (fun v i w' => v = .slice none 0 0 ∧ i = .int .i64 0 ∧ w' = w1) (fun _ _ _ => 0)
    case atStart => exact ⟨rfl, rfl, rfl⟩
    case round =>
      obtain ⟨rfl, rfl, rfl⟩ := hrel
      go_wp2
      go_ret
      rw [HG0.out, HLE.out]
      refine ⟨⟨_, rfl, ?_⟩, HROOM.out.setSrc hn noSrc (Row.nil _ _), ((((((Fr.of_below _ HB.out).setAt _ _).setAt _ _).setAt _ _).setAt _ _).setAt _ _)⟩
      exact Row.nil _ _
  · obtain ⟨g, off, cap, rfl, hg, hcells⟩ := int_open hrow h0
    have HC := Lib.hid hcells
    clear hrow hcells
    go_wp2_with fail
    go_loopw [5, 12] (fun v i w' => ∃ k : Nat, k ≤ L.length ∧ i = .int .i64 k ∧ Fr w.heap.size (· = b) w w' ∧ Row w' 3 (.slice (some ⟨g, off, none⟩) L.length cap) L.length (ints L) ∧ RoomAt w' b (goneGo n (L.take k) R).2 ∧ w'.ownsRow w.heap.size 59 5 v (goneGo n (L.take k) R).1.length ((goneGo n (L.take k) R).1.flatMap turnCells)) (fun _ i _ => L.length - (intOf i).toNat)
    case atStart => exact ⟨0, by omega, rfl, Fr.of_below _ HB.out, HROW.out, HR.out.below HB.out, World.ownsRow_nil _ _ _ _⟩
    case round =>
      obtain ⟨k, hk, rfl, hfr, hrow, hroom, hown⟩ := hrel
      have HFR := Lib.hid hfr
      have HROW2 := Lib.hid hrow
      have HROOM := Lib.hid hroom
      have HOWN := Lib.hid hown
      clear hfr hown hroom
      by_cases hkl : k < L.length
      · obtain ⟨g', off', cap', e1, hg', hcells⟩ := int_open hrow h0
        cases e1
        have hc := hcells k hkl
        have hp := HM.out k hkl
        have HT := Lib.hid (take_snoc hkl)
        have HGL := goneGo_len n (L.take k) R
        rw [List.length_take] at HGL
        clear hcells hrow
        generalize L.getD k 0 = p at *
        have HS := Lib.hid (goneGo_snoc n p (L.take k) R)
        have CE := Lib.hid (end_any b (goneGo n (L.take k) R).2 p n wr HROOM.out hn hp)
        generalize goneGo n (L.take k) R = G at *
        go_wp2_with (first | (go_at_call 57; refine CE.out.mono ?_; rintro e w2 ⟨rfl, hroom2, hfr2⟩; have HROOM2 := Lib.hid hroom2; have HFR2 := Lib.hid hfr2; clear hroom2 hfr2) | (at_builtin; refine wpList_app rfl (.tmp 16) (.tmp 24) 33 rfl w.heap.size elemTurn _ G.1.length (G.1.flatMap turnCells) rfl ?a1 _ 2 ([⟨3, p, n, 0, 0⟩, ⟨2, p, n, 0, 0⟩].flatMap turnCells) rfl ?a2 rfl ?a4 ?a5 ?a6 ?a7 (fun v' w3 HO HG => ?_)))
        case a1 => exact (owns_fr HOWN.out HFR2.out (fun k hk => by omega)).alloc _
        case a2 => exact row_new' _ _ 2 _ ([⟨3, p, n, 0, 0⟩, ⟨2, p, n, 0, 0⟩].flatMap turnCells) (by decide) rfl
        case a4 => exact turns_one _
        case a5 => omega
        case a6 => omega
        case a7 => have h1 := HFR.out.size; have h2 := HFR2.out.size; simp; omega
        go_roundw
        case rel =>
          have h1 := HFR.out.size
          have h2 := HFR2.out.size
          have hown2 := (owns_fr HOWN.out HFR2.out (fun k hk => by omega)).alloc (.cells ([⟨3, p, n, 0, 0⟩, ⟨2, p, n, 0, 0⟩].flatMap turnCells).toArray 59)
          have hbl := below_alloc w2 (.cells ([⟨3, p, n, 0, 0⟩, ⟨2, p, n, 0, 0⟩].flatMap turnCells).toArray 59)
          refine ⟨k + 1, by omega, by go_num, ?_, ?_, ?_, ?_⟩
          · have h3 := HFR.out.trans (HFR2.out.mono (by omega) (fun _ _ h => h))
            exact (h3.alloc (by omega) _).grown HG.out (by simp; omega) (own_le HOWN.out)
          · exact Row.grown ((HROW2.out.fr HFR2.out (Nat.le_refl _) (HROOM.out.typ (by decide))).below hbl) hown2 HG.out (by decide)
          · rw [HT.out, HS.out]
            exact RoomAt.grown (HROOM2.out.below hbl) hown2 HG.out hb (by decide)
          · rw [HT.out, HS.out]
            dsimp only
            rw [List.length_append, List.flatMap_append]
            exact HO.out
        case measure => simp [intOf]; omega
      · have hkk : k = L.length := by omega
        have hT : L.take k = L := by rw [hkk, List.take_length]
        rw [hT] at HROOM HOWN
        obtain ⟨s0, s1, s2, s3, s4⟩ := HROOM.out.srcc hn
        have f0 := HROOM.out.unfrozen (9 + n * 5)
        have f1 := HROOM.out.unfrozen (9 + n * 5 + 1)
        have f2 := HROOM.out.unfrozen (9 + n * 5 + 2)
        have f3 := HROOM.out.unfrozen (9 + n * 5 + 3)
        have f4 := HROOM.out.unfrozen (9 + n * 5 + 4)
        clear hT hrow
        generalize goneGo n L R = G at *
        go_wp2
        go_ret
        rw [HG0.out]
        exact ⟨⟨_, rfl, (Row.of_owns HOWN.out).fr (((((((Fr.refl wr.heap.size (· = b) wr).setAt _ _).setAt _ _).setAt _ _).setAt _ _).setAt _ _)) (Nat.le_refl _) (HROOM.out.typ (by decide))⟩, HROOM.out.setSrc hn noSrc (Row.nil _ _), (((((HFR.out.setAt _ _).setAt _ _).setAt _ _).setAt _ _).setAt _ _)⟩
end Go.Proofs.Rm
