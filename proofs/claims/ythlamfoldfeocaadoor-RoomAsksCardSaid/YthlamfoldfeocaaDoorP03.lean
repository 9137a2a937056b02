/- Several texts in one: The walks of package room, each function once: Subs, gone, leave, begin, mute. The walks of package room, each function once: gone, leave, mute. The walks of package room, each function once: why an operation may not be done. The walks of the reference's comparisons: SameTurns, SameSource, SameTable. The walks of package room, each function once: leave. -/
import Derived.Laws.StructEq
import Derived.Test.YthlamfoldfeocaaDoorP02
namespace Go.Proofs.Rm
open Go.RowKit Go.Proofs.Heap Go.Proofs.Mem
theorem owns_below {base : Nat} {e : TypeId} {size : Nat} {v : Value} {n : Nat} {xs : List Value} {w w' : World} (h : w.ownsRow base e size v n xs) (hb : Below w.heap.size w w') : w'.ownsRow base e size v n xs := by
  obtain ⟨h1, h2⟩ := h
  refine ⟨h1, ?_⟩
  rcases h2 with h2 | ⟨g, cap, cur, hv, hg, hh, r⟩
  · exact Or.inl h2
  · have hlt : g < w.heap.size := by
      rcases Nat.lt_or_ge g w.heap.size with h | h
      · exact h
      · rw [Array.getElem?_eq_none h] at hh; cases hh
    exact Or.inr ⟨g, cap, cur, hv, hg, by rw [hb.block g hlt]; exact hh, r⟩
def subsTo (R : Room) (n : Int) (k : Nat) : List Nat := (List.range k).filter fun p => hears R p n
theorem subsTo_succ (R : Room) (n : Int) (k : Nat) : subsTo R n (k + 1) = subsTo R n k ++ if hears R k n then [k] else [] := by
  unfold subsTo
  rw [List.range_succ, List.filter_append]
  congr 1
  cases h : hears R k n <;> simp [h]
theorem subsTo_len (R : Room) (n : Int) (k : Nat) : (subsTo R n k).length ≤ k := by
  have := List.length_filter_le (fun p : Nat => hears R p n) (List.range k)
  rw [List.length_range] at this
  exact this
theorem ints_append (a b : List Nat) : ints (a ++ b) = ints a ++ ints b := List.map_append
theorem own_le {base : Nat} {e : TypeId} {size : Nat} {v : Value} {n : Nat} {xs : List Value} {w : World} (h : w.ownsRow base e size v n xs) : ∀ k, v.ownBlock = some k → base ≤ k := by
  intro k hk
  obtain ⟨_, h⟩ := h
  rcases h with ⟨rfl, _⟩ | ⟨g, cap, cur, rfl, hg, _⟩
  · cases hk
  · have hk : some g = some k := hk
    cases hk; exact hg
set_option maxHeartbeats 1000000 in
theorem Subs_any (b : Nat) (R : Room) (n : Int) (w : World) (hR : RoomAt w b R) :
    Calls Tryd.prog 23 #[.pointer (some ⟨b, 0, none⟩), .int .i64 n] w fun e w' => (∃ v, e = .returned v ∧ Row w' 3 v (subs R n).length (ints (subs R n))) ∧ Below w.heap.size w w' := by
  have HR := Lib.hid hR
  have hb := hR.lt
  have HS : Hid (subs R n = subsTo R n 9) := rfl
  clear hR
  go_enter Tryd.func23, Tryd.ntmps23
  go_wp2
  go_loopw [5, 9] (fun v i w' => ∃ k : Nat, k ≤ 9 ∧ i = .int .i64 k ∧ Below w.heap.size w w' ∧ w'.ownsRow w.heap.size 3 1 v (subsTo R n k).length (ints (subsTo R n k))) (fun _ i _ => 9 - (intOf i).toNat)
  case atStart => exact ⟨0, by omega, rfl, Below.refl _ _, World.ownsRow_nil _ _ _ _⟩
  case round =>
    obtain ⟨k, hk, rfl, hbl, hown⟩ := hrel
    have HOWN := Lib.hid hown
    clear hown
    by_cases hk9 : k < 9
    · have cs := Sub_any b R k n wr (HR.out.below hbl)
      have HSS := Lib.hid (subsTo_succ R n k)
      have HSL := subsTo_len R n k
      cases hh : hears R k n
      · rw [hh, if_neg (by decide)] at cs
        have CS := Lib.hid cs
        clear cs
        have HF : Hid (subsTo R n (k + 1) = subsTo R n k) := by show _ = _; rw [HSS.out, hh]; simp
        clear hh
        go_wp2_with (go_at_call 17; refine CS.out.mono ?_; rintro e w1 ⟨rfl, hb1⟩)
        go_roundw
        case rel =>
          refine ⟨k + 1, by omega, by go_num, (hbl.trans (hb1.mono hbl.size)).alloc (Nat.le_trans hbl.size hb1.size) _, ?_⟩
          rw [HF.out]
          exact (owns_below HOWN.out hb1).alloc _
        case measure => simp [intOf]; omega
      · rw [hh, if_pos rfl, Int.toNat_natCast] at cs
        generalize (R.sub n.toNat k).want = wa at cs
        generalize (R.sub n.toNat k).paused = pa at cs
        have CS := Lib.hid cs
        clear cs
        have HF : Hid (subsTo R n (k + 1) = subsTo R n k ++ [k]) := by show _ = _; rw [HSS.out, hh]; simp
        clear hh
        go_wp2_with (first | (go_at_call 17; refine CS.out.mono ?_; rintro e w1 ⟨rfl, hb1⟩) | (at_builtin; refine wpList_app rfl (.tmp 20) (.tmp 22) 55 rfl w.heap.size elemInt _ (subsTo R n k).length (ints (subsTo R n k)) rfl ?a1 _ 1 [.int .i64 k] rfl ?a2 rfl ?a4 ?a5 ?a6 ?a7 (fun v' w2 HO2 HG => ?_)))
        case a1 => exact ((owns_below HOWN.out hb1).alloc _).alloc _
        case a2 => exact row_new' _ _ 1 _ [.int .i64 k] (by decide) (by simp)
        case a4 => intro u hu; simp at hu; subst hu; rfl
        case a5 => omega
        case a6 => omega
        case a7 => have h1 := hbl.size; have h2 := hb1.size; simp; omega
        go_roundw
        case rel =>
          refine ⟨k + 1, by omega, by go_num, ?_, ?_⟩
          · have h1 := hbl.trans (hb1.mono hbl.size)
            have h2 := h1.alloc h1.size (.cells #[.int .i64 k, .int .i64 n, .int .i64 wa, .bool pa] 48)
            have h3 := h2.alloc h2.size (.cells #[.int .i64 k] 3)
            exact h3.grown HG.out h3.size (own_le HOWN.out)
          · rw [HF.out, List.length_append, ints_append]
            exact HO2.out
        case measure => simp [intOf]; omega
    · have hk' : k = 9 := by omega
      subst hk'
      go_wp2
      go_ret
      exact ⟨⟨_, rfl, by rw [HS.out]; exact Row.of_owns HOWN.out⟩, hbl⟩
end Go.Proofs.Rm
namespace Go.Proofs.Rm
open Go.RowKit Go.Proofs.Heap Go.Proofs.Mem
theorem Row.grown {w w' : World} {e : TypeId} {v : Value} {n : Nat} {xs : List Value} (h : Row w e v n xs) {base : Nat} {e2 : TypeId} {size : Nat} {vo : Value} {m : Nat} {ys : List Value} (ho : w.ownsRow base e2 size vo m ys) (hg : w.grownBy w' vo.ownBlock) (hne : e ≠ e2) : Row w' e v n xs := by
  refine h.fr (B := w.heap.size) (S := fun k => vo.ownBlock = some k) ⟨hg.os, hg.tape, hg.output, hg.size, fun k hk hs => hg.block k hk (fun e => hs e.symm)⟩ (Nat.le_refl _) ?_
  intro k c fr hk he
  obtain ⟨_, ho⟩ := ho
  rcases ho with ⟨rfl, _⟩ | ⟨g, cap, cur, rfl, _, hh, _⟩
  · cases hk
  · have hk : some g = some k := hk
    cases hk
    rw [hh] at he
    exact cells_ne (fun h => hne h.symm) he
theorem RoomAt.grown {w w' : World} {b : Nat} {R : Room} (h : RoomAt w b R) {base : Nat} {e2 : TypeId} {size : Nat} {vo : Value} {m : Nat} {ys : List Value} (ho : w.ownsRow base e2 size vo m ys) (hg : w.grownBy w' vo.ownBlock) (hb : b < base) (hne : 23 ≠ e2) : RoomAt w' b R := by
  refine ⟨?_, fun n hn => Row.grown (h.rows n hn) ho hg hne⟩
  obtain ⟨c, hc, hs, hall⟩ := h.cells
  refine ⟨c, ?_, hs, hall⟩
  rw [hg.block b h.lt (fun e => by have := own_le ho b e.symm; omega)]
  exact hc
theorem owns_fr {base : Nat} {e : TypeId} {size : Nat} {v : Value} {n : Nat} {xs : List Value} {w w' : World} {S : Nat → Prop} (h : w.ownsRow base e size v n xs) (hf : Fr w.heap.size S w w') (hS : ∀ k, S k → k < base) : w'.ownsRow base e size v n xs := by
  obtain ⟨h1, h2⟩ := h
  refine ⟨h1, ?_⟩
  rcases h2 with h2 | ⟨g, cap, cur, hv, hg, hh, r⟩
  · exact Or.inl h2
  · have hlt : g < w.heap.size := by
      rcases Nat.lt_or_ge g w.heap.size with h | h
      · exact h
      · rw [Array.getElem?_eq_none h] at hh; cases hh
    exact Or.inr ⟨g, cap, cur, hv, hg, by rw [hf.block g hlt (fun hs => by have := hS g hs; omega)]; exact hh, r⟩
theorem RoomAt.typ {w : World} {b : Nat} {R : Room} (h : RoomAt w b R) {e : TypeId} (he : e ≠ 88) : ∀ k c fr, k = b → w.heap[k]? ≠ some (.cells c e fr) := by
  intro k c fr hk
  subst hk
  obtain ⟨c', hc, _, _⟩ := h.cells
  rw [hc]
  exact cells_ne (fun h => he h.symm)
theorem src_setSrc (R : Room) (n : Nat) (x : Src) : (R.setSrc n x).src n = x := by simp [Room.setSrc]
theorem setSrc_setSrc (R : Room) (n : Nat) (x y : Src) : (R.setSrc n x).setSrc n y = R.setSrc n y := by
  unfold Room.setSrc
  congr 1
  funext m
  dsimp only
  split <;> rfl
theorem RoomAt.setSrcCell {w : World} {b : Nat} {R : Room} (h : RoomAt w b R) {n i : Nat} (hn : n < 9) (hi : i < 5) {x : Src} {v : Value} (hx : ∀ j, j < 5 → srcCell x j = if j = i then v else srcCell (R.src n) j)
    (hrow : Row w 23 x.sv x.ss.length (u32s x.ss)) : RoomAt (w.setCell ⟨b, 9 + n * 5 + i, none⟩ v) b (R.setSrc n x) := by
  refine h.set (by omega) (fun j hj => ?_) (fun m hm => ?_)
  · by_cases h1 : j < 9 ∨ 54 ≤ j
    · unfold roomCell
      rw [if_neg (by omega : ¬ j = 9 + n * 5 + i)]
      by_cases h2 : j < 9
      · rw [if_pos h2, if_pos h2]; rfl
      · rw [if_neg h2, if_neg h2, if_neg (by omega), if_neg (by omega)]; rfl
    · unfold roomCell
      rw [if_neg (by omega : ¬ j < 9), if_pos (by omega : j < 54), if_neg (by omega : ¬ j < 9), if_pos (by omega : j < 54)]
      by_cases h3 : (j - 9) / 5 = n
      · have e : (R.setSrc n x).src ((j - 9) / 5) = x := by simp [Room.setSrc, h3]
        rw [e, h3, hx _ (by omega)]
        have : ((j - 9) % 5 = i) ↔ (j = 9 + n * 5 + i) := by omega
        by_cases h4 : (j - 9) % 5 = i
        · rw [if_pos h4, if_pos (this.1 h4)]
        · rw [if_neg h4, if_neg (fun e => h4 (this.2 e))]
      · have e : (R.setSrc n x).src ((j - 9) / 5) = R.src ((j - 9) / 5) := by simp [Room.setSrc, h3]
        rw [e, if_neg (by omega)]
  · by_cases hmn : m = n
    · subst hmn; rw [src_setSrc]; exact hrow
    · have e : (R.setSrc n x).src m = R.src m := by simp [Room.setSrc, hmn]
      rw [e]; exact h.rows m hm
theorem RoomAt.setSrc {w : World} {b : Nat} {R : Room} (h : RoomAt w b R) {n : Nat} (hn : n < 9) (x : Src) (hrow : Row w 23 x.sv x.ss.length (u32s x.ss)) :
    RoomAt (((((w.setCell ⟨b, 9 + n * 5, none⟩ (.bool x.there)).setCell ⟨b, 9 + n * 5 + 1, none⟩ (.int .i64 x.num)).setCell ⟨b, 9 + n * 5 + 2, none⟩ (.int .i64 x.own)).setCell ⟨b, 9 + n * 5 + 3, none⟩ x.sv).setCell ⟨b, 9 + n * 5 + 4, none⟩ (.bool x.muted)) b (R.setSrc n x) := by
  have ho := h.other
  obtain ⟨c, hc, _, _⟩ := h.cells
  have r1 := h.rows n hn
  have c5 : ∀ j, j < 5 → (j = 0 ∨ j = 1 ∨ j = 2 ∨ j = 3 ∨ j = 4) := by intro j hj; omega
  have h1 := h.setSrcCell hn (i := 0) (by omega) (x := { R.src n with there := x.there }) (v := .bool x.there) (by intro j hj; rcases c5 j hj with rfl | rfl | rfl | rfl | rfl <;> rfl) r1
  have h2 := h1.setSrcCell hn (i := 1) (by omega) (x := { R.src n with there := x.there, num := x.num }) (v := .int .i64 x.num) (by intro j hj; rw [src_setSrc]; rcases c5 j hj with rfl | rfl | rfl | rfl | rfl <;> rfl) (by have := h1.rows n hn; rw [src_setSrc] at this; exact this)
  have h3 := h2.setSrcCell hn (i := 2) (by omega) (x := { R.src n with there := x.there, num := x.num, own := x.own }) (v := .int .i64 x.own) (by intro j hj; rw [src_setSrc]; rcases c5 j hj with rfl | rfl | rfl | rfl | rfl <;> rfl) (by have := h2.rows n hn; rw [src_setSrc] at this; exact this)
  have hrow3 : Row (((w.setCell ⟨b, 9 + n * 5, none⟩ (.bool x.there)).setCell ⟨b, 9 + n * 5 + 1, none⟩ (.int .i64 x.num)).setCell ⟨b, 9 + n * 5 + 2, none⟩ (.int .i64 x.own)) 23 x.sv x.ss.length (u32s x.ss) :=
    hrow.fr ((((Fr.refl w.heap.size (· = b) w).setAt _ _).setAt _ _).setAt _ _) (Nat.le_refl _) ho
  have h4 := h3.setSrcCell hn (i := 3) (by omega) (x := { R.src n with there := x.there, num := x.num, own := x.own, sv := x.sv, ss := x.ss }) (v := x.sv) (by intro j hj; rw [src_setSrc]; rcases c5 j hj with rfl | rfl | rfl | rfl | rfl <;> rfl) hrow3
  have h5 := h4.setSrcCell hn (i := 4) (by omega) (x := x) (v := .bool x.muted) (by intro j hj; rw [src_setSrc]; rcases c5 j hj with rfl | rfl | rfl | rfl | rfl <;> rfl) (by have := h4.rows n hn; rw [src_setSrc] at this; exact this)
  rw [setSrc_setSrc, setSrc_setSrc, setSrc_setSrc, setSrc_setSrc] at h5
  exact h5
theorem goneGo_snoc (n : Nat) (p : Nat) : ∀ (l : List Nat) (R : Room), goneGo n (l ++ [p]) R = ((goneGo n l R).1 ++ [⟨3, p, n, 0, 0⟩, ⟨2, p, n, 0, 0⟩], (goneGo n l R).2.setSub n p noSub)
  | [], R => rfl
  | q :: l, R => by
    simp only [List.cons_append, goneGo]
    rw [goneGo_snoc n p l]
theorem goneGo_len (n : Nat) : ∀ (l : List Nat) (R : Room), (goneGo n l R).1.length = 2 * l.length
  | [], R => rfl
  | q :: l, R => by
    simp only [goneGo, List.length_cons, goneGo_len n l]; omega
theorem turnCells_len (t : Turn) : (turnCells t).length = 5 := rfl
theorem turns_one (l : List Turn) : ∀ u ∈ l.flatMap turnCells, u.oneCell' = true := by
  intro u hu
  obtain ⟨t, _, hu⟩ := List.mem_flatMap.1 hu
  simp only [turnCells, List.mem_cons, List.mem_nil_iff, or_false] at hu
  rcases hu with rfl | rfl | rfl | rfl | rfl <;> rfl
theorem turns_len (l : List Turn) : (l.flatMap turnCells).length = l.length * 5 := flat_length _ 5 turnCells_len l
theorem int_open {w : World} {v : Value} {l : List Nat} (h : Row w 3 v l.length (ints l)) (hl : 0 < l.length) : ∃ g off cap, v = .slice (some ⟨g, off, none⟩) l.length cap ∧ g < w.heap.size ∧ ∀ j, j < l.length → w.cell? ⟨g, off + j, none⟩ = some (.int .i64 (l.getD j 0 : Nat)) := by
  have hil : (ints l).length = l.length := List.length_map _
  obtain ⟨g, off, cap, h1, _, _, h4, h5⟩ := h.open (by rw [hil]; exact hl)
  refine ⟨g, off, cap, h1, h4, fun j hj => ?_⟩
  rw [h5 j (by rw [hil]; exact hj), List.getD_eq_getElem?_getD, List.getElem?_eq_getElem hj]
  simp [ints, hj]
theorem subs_mem {R : Room} {n : Int} {j : Nat} (h : j < (subs R n).length) : (subs R n).getD j 0 < 9 := by
  rw [List.getD_eq_getElem?_getD, List.getElem?_eq_getElem h]
  have := List.getElem_mem h
  have := (List.mem_filter.1 this).1
  simpa using this
theorem subs_len (R : Room) (n : Int) : (subs R n).length ≤ 9 := subsTo_len R n 9
theorem take_snoc {l : List Nat} {k : Nat} (h : k < l.length) : l.take (k + 1) = l.take k ++ [l.getD k 0] := by
  rw [List.take_succ_eq_append_getElem h, List.getD_eq_getElem?_getD, List.getElem?_eq_getElem h]; rfl
set_option maxHeartbeats 2000000 in
theorem gone_any (b : Nat) (R : Room) (n : Nat) (w : World) (hR : RoomAt w b R) (hn : n < 9) :
    Calls Tryd.prog 50 #[.pointer (some ⟨b, 0, none⟩), .int .i64 n] w fun e w' => (∃ v, e = .returned v ∧ TurnRow w' v (gone R n).1) ∧ RoomAt w' b (gone R n).2 ∧ Fr w.heap.size (· = b) w w' := by
  have hb := hR.lt
  have CS := Lib.hid (Subs_any b R n w hR)
  have HG0 : Hid (gone R n = ((goneGo n (subs R n) R).1, (goneGo n (subs R n) R).2.setSrc n noSrc)) := rfl
  have HM : Hid (∀ j, j < (subs R n).length → (subs R n).getD j 0 < 9) := fun j h => subs_mem h
  have HL := subs_len R n
  have HR := Lib.hid hR
  clear hR
  generalize subs R n = L at *
  go_enter Tryd.func50, Tryd.ntmps50
  go_wp2_with fail
  refine CS.out.mono ?_
  rintro e w1 ⟨⟨lv, rfl, hrow⟩, hb1⟩
  have HROW := Lib.hid hrow
  have HB := Lib.hid hb1
  clear hb1
  rcases Nat.eq_zero_or_pos L.length with h0 | h0
  · obtain ⟨la, lcap, rfl, hx⟩ := hrow
    clear hx
    have HLE : Hid (L = []) := List.eq_nil_of_length_eq_zero h0
    have HROOM := Lib.hid (HR.out.below HB.out)
    obtain ⟨s0, s1, s2, s3, s4⟩ := HROOM.out.srcc hn
    have f0 := HROOM.out.unfrozen (9 + n * 5)
    have f1 := HROOM.out.unfrozen (9 + n * 5 + 1)
    have f2 := HROOM.out.unfrozen (9 + n * 5 + 2)
    have f3 := HROOM.out.unfrozen (9 + n * 5 + 3)
    have f4 := HROOM.out.unfrozen (9 + n * 5 + 4)
    go_wp2_with fail
    go_loopw [5, 12] (fun v i w' => v = .slice none 0 0 ∧ i = .int .i64 0 ∧ w' = w1) (fun _ _ _ => 0)
    case atStart => exact ⟨rfl, rfl, rfl⟩
    case round =>
      obtain ⟨rfl, rfl, rfl⟩ := hrel
      go_wp2
      go_ret
      rw [HG0.out, HLE.out]
      refine ⟨⟨_, rfl, ?_⟩, HROOM.out.setSrc hn noSrc (Row.nil _ _), ((((((Fr.of_below _ HB.out).setAt _ _).setAt _ _).setAt _ _).setAt _ _).setAt _ _)⟩
      exact Row.nil _ _
  · obtain ⟨g, off, cap, rfl, hg, hcells⟩ := int_open hrow h0
    have HC := Lib.hid hcells
    clear hrow hcells
    go_wp2_with fail
    go_loopw [5, 12] (fun v i w' => ∃ k : Nat, k ≤ L.length ∧ i = .int .i64 k ∧ Fr w.heap.size (· = b) w w' ∧ Row w' 3 (.slice (some ⟨g, off, none⟩) L.length cap) L.length (ints L) ∧ RoomAt w' b (goneGo n (L.take k) R).2 ∧ w'.ownsRow w.heap.size 59 5 v (goneGo n (L.take k) R).1.length ((goneGo n (L.take k) R).1.flatMap turnCells)) (fun _ i _ => L.length - (intOf i).toNat)
    case atStart => exact ⟨0, by omega, rfl, Fr.of_below _ HB.out, HROW.out, HR.out.below HB.out, World.ownsRow_nil _ _ _ _⟩
    case round =>
      obtain ⟨k, hk, rfl, hfr, hrow, hroom, hown⟩ := hrel
      have HFR := Lib.hid hfr
      have HROW2 := Lib.hid hrow
      have HROOM := Lib.hid hroom
      have HOWN := Lib.hid hown
      clear hfr hown hroom
      by_cases hkl : k < L.length
      · obtain ⟨g', off', cap', e1, hg', hcells⟩ := int_open hrow h0
        cases e1
        have hc := hcells k hkl
        have hp := HM.out k hkl
        have HT := Lib.hid (take_snoc hkl)
        have HGL := goneGo_len n (L.take k) R
        rw [List.length_take] at HGL
        clear hcells hrow
        generalize L.getD k 0 = p at *
        have HS := Lib.hid (goneGo_snoc n p (L.take k) R)
        have CE := Lib.hid (end_any b (goneGo n (L.take k) R).2 p n wr HROOM.out hn hp)
        generalize goneGo n (L.take k) R = G at *
        go_wp2_with (first | (go_at_call 57; refine CE.out.mono ?_; rintro e w2 ⟨rfl, hroom2, hfr2⟩; have HROOM2 := Lib.hid hroom2; have HFR2 := Lib.hid hfr2; clear hroom2 hfr2) | (at_builtin; refine wpList_app rfl (.tmp 16) (.tmp 24) 33 rfl w.heap.size elemTurn _ G.1.length (G.1.flatMap turnCells) rfl ?a1 _ 2 ([⟨3, p, n, 0, 0⟩, ⟨2, p, n, 0, 0⟩].flatMap turnCells) rfl ?a2 rfl ?a4 ?a5 ?a6 ?a7 (fun v' w3 HO HG => ?_)))
        case a1 => exact (owns_fr HOWN.out HFR2.out (fun k hk => by omega)).alloc _
        case a2 => exact row_new' _ _ 2 _ ([⟨3, p, n, 0, 0⟩, ⟨2, p, n, 0, 0⟩].flatMap turnCells) (by decide) rfl
        case a4 => exact turns_one _
        case a5 => omega
        case a6 => omega
        case a7 => have h1 := HFR.out.size; have h2 := HFR2.out.size; simp; omega
        go_roundw
        case rel =>
          have h1 := HFR.out.size
          have h2 := HFR2.out.size
          have hown2 := (owns_fr HOWN.out HFR2.out (fun k hk => by omega)).alloc (.cells ([⟨3, p, n, 0, 0⟩, ⟨2, p, n, 0, 0⟩].flatMap turnCells).toArray 59)
          have hbl := below_alloc w2 (.cells ([⟨3, p, n, 0, 0⟩, ⟨2, p, n, 0, 0⟩].flatMap turnCells).toArray 59)
          refine ⟨k + 1, by omega, by go_num, ?_, ?_, ?_, ?_⟩
          · have h3 := HFR.out.trans (HFR2.out.mono (by omega) (fun _ _ h => h))
            exact (h3.alloc (by omega) _).grown HG.out (by simp; omega) (own_le HOWN.out)
          · exact Row.grown ((HROW2.out.fr HFR2.out (Nat.le_refl _) (HROOM.out.typ (by decide))).below hbl) hown2 HG.out (by decide)
          · rw [HT.out, HS.out]
            exact RoomAt.grown (HROOM2.out.below hbl) hown2 HG.out hb (by decide)
          · rw [HT.out, HS.out]
            dsimp only
            rw [List.length_append, List.flatMap_append]
            exact HO.out
        case measure => simp [intOf]; omega
      · have hkk : k = L.length := by omega
        have hT : L.take k = L := by rw [hkk, List.take_length]
        rw [hT] at HROOM HOWN
        obtain ⟨s0, s1, s2, s3, s4⟩ := HROOM.out.srcc hn
        have f0 := HROOM.out.unfrozen (9 + n * 5)
        have f1 := HROOM.out.unfrozen (9 + n * 5 + 1)
        have f2 := HROOM.out.unfrozen (9 + n * 5 + 2)
        have f3 := HROOM.out.unfrozen (9 + n * 5 + 3)
        have f4 := HROOM.out.unfrozen (9 + n * 5 + 4)
        clear hT hrow
        generalize goneGo n L R = G at *
        go_wp2
        go_ret
        rw [HG0.out]
        exact ⟨⟨_, rfl, (Row.of_owns HOWN.out).fr (((((((Fr.refl wr.heap.size (· = b) wr).setAt _ _).setAt _ _).setAt _ _).setAt _ _).setAt _ _)) (Nat.le_refl _) (HROOM.out.typ (by decide))⟩, HROOM.out.setSrc hn noSrc (Row.nil _ _), (((((HFR.out.setAt _ _).setAt _ _).setAt _ _).setAt _ _).setAt _ _)⟩
end Go.Proofs.Rm
namespace Go.Proofs.Rm
open Go.RowKit Go.Proofs.Heap Go.Proofs.Mem
theorem below_drewN {B : Nat} {a w : World} (h : Below B a w) : ∀ q, Below B a (w.drewN q)
  | 0 => h
  | q + 1 => (below_drewN h q).drew
/-- An operation as a value: its texts' bytes and its two slices beside it. -/
def opAgg (o : Op) (sv bv : Value) : Value := .agg #[.int .i64 o.kind, .int .i64 o.peer, .int .i64 o.source, .int .i64 o.layer, .string (str o.name), sv, bv]
set_option maxHeartbeats 1000000 in
theorem layer_any (b : Nat) (R : Room) (o : Op) (sa ba : Option Addr) (sl sc bl bc : Nat) (w : World) (hR : RoomAt w b R) (hs : 1 ≤ o.source ∧ o.source < 9) :
    Calls Tryd.prog 73 #[.pointer (some ⟨b, 0, none⟩), .agg #[.int .i64 o.kind, .int .i64 o.peer, .int .i64 o.source, .int .i64 o.layer, .string (str o.name), .slice sa sl sc, .slice ba bl bc]] w fun e w' => e = .returned (.int .i64 (layer R o)) ∧ Below w.heap.size w w' := by
  obtain ⟨k, p, n, q, nm, ss⟩ := o
  obtain ⟨n, rfl⟩ := Int.eq_ofNat_of_zero_le (show 0 ≤ n by have := hs.1; dsimp only at this; omega)
  have hn : n < 9 := by have := hs.2; dsimp only at this; omega
  obtain ⟨s0, s1, s2, s3, s4⟩ := hR.srcc hn
  have hb := hR.lt
  have HL : Hid (layer R ⟨k, p, n, q, nm, ss⟩ = if q < 0 ∨ ((R.src n).ss.length : Int) ≤ q then 5 else 0) := rfl
  have hlen := (hR.rows n hn).len
  obtain ⟨va, vc, hsv, hx⟩ := hR.rows n hn
  rw [hsv] at s3
  clear hR hs hx hsv
  generalize (R.src n).ss.length = L at *
  dsimp only
  by_cases h1 : q < 0
  · have HF : Hid (layer R ⟨k, p, n, q, nm, ss⟩ = 5) := by show _ = _; rw [HL.out, if_pos (Or.inl h1)]
    go_enter Tryd.func73, Tryd.ntmps73
    go_wp2
    go_quiet (fail)
    go_wp2
    go_ret
    exact ⟨ret_int HF.out.symm, by repeat (first | exact Below.refl _ _ | refine below_drewN ?_ _ | refine Below.drew ?_ | refine Below.alloc ?_ (by simp) _)⟩
  · by_cases h2 : (L : Int) ≤ q
    · have HF : Hid (layer R ⟨k, p, n, q, nm, ss⟩ = 5) := by show _ = _; rw [HL.out, if_pos (Or.inr h2)]
      have hd1 : decide (q < 0) = false := decide_eq_false h1
      have hd2 : decide ((L : Int) ≤ q) = true := decide_eq_true h2
      go_enter Tryd.func73, Tryd.ntmps73
      go_wp2
      go_quiet (fail)
      go_wp2
      go_ret
      exact ⟨ret_int HF.out.symm, by repeat (first | exact Below.refl _ _ | refine below_drewN ?_ _ | refine Below.drew ?_ | refine Below.alloc ?_ (by simp) _)⟩
    · have HF : Hid (layer R ⟨k, p, n, q, nm, ss⟩ = 0) := by show _ = _; rw [HL.out, if_neg (by omega)]
      have hd1 : decide (q < 0) = false := decide_eq_false h1
      have hd2 : decide ((L : Int) ≤ q) = false := decide_eq_false h2
      go_enter Tryd.func73, Tryd.ntmps73
      go_wp2
      go_quiet (fail)
      go_wp2
      go_ret
      exact ⟨ret_int HF.out.symm, by repeat (first | exact Below.refl _ _ | refine below_drewN ?_ _ | refine Below.drew ?_ | refine Below.alloc ?_ (by simp) _)⟩
end Go.Proofs.Rm
namespace Go.Proofs.Rm
open Go.RowKit Go.Proofs.Heap Go.Proofs.Mem
theorem row_at {α : Type} (f : α → List Value) (k : Nat) (hk : ∀ x, (f x).length = k) (hk0 : 0 < k) {w : World} {e : TypeId} {v : Value} {n : Nat} {l : List α} (h : Row w e v n (l.flatMap f)) (hl : 0 < l.length) :
    ∃ g off cap, v = .slice (some ⟨g, off, none⟩) n cap ∧ n ≤ cap ∧ cap ≤ maxLen ∧ g < w.heap.size ∧ ∀ (i : Nat) (x : α), l[i]? = some x → ∀ j, j < k → w.cell? ⟨g, off + i * k + j, none⟩ = (f x)[j]? := by
  have hfl := flat_length f k hk l
  obtain ⟨g, off, cap, h1, h2, h3, h4, h5⟩ := h.open (by rw [hfl]; exact Nat.mul_pos hl hk0)
  refine ⟨g, off, cap, h1, h2, h3, h4, fun i x hx j hj => ?_⟩
  have hi : i < l.length := (List.getElem?_eq_some_iff.1 hx).1
  have hlt : i * k + j < l.length * k := by
    have h6 : (i + 1) * k ≤ l.length * k := Nat.mul_le_mul_right _ hi
    rw [Nat.succ_mul] at h6
    omega
  rw [Nat.add_assoc, h5 _ (by rw [hfl]; exact hlt)]
  exact flat_at f k hk l i j x hx hj
theorem turn_at {w : World} {v : Value} {l : List Turn} (h : TurnRow w v l) (hl : 0 < l.length) : ∃ g off cap, v = .slice (some ⟨g, off, none⟩) l.length cap ∧ g < w.heap.size ∧
    ∀ (i : Nat) (x : Turn), l[i]? = some x → w.cell? ⟨g, off + i * 5, none⟩ = some (.int .i64 x.kind) ∧ w.cell? ⟨g, off + i * 5 + 1, none⟩ = some (.int .i64 x.peer) ∧ w.cell? ⟨g, off + i * 5 + 2, none⟩ = some (.int .i64 x.source) ∧ w.cell? ⟨g, off + i * 5 + 3, none⟩ = some (.int .i64 x.layer) ∧ w.cell? ⟨g, off + i * 5 + 4, none⟩ = some (.int .u32 x.ssrc) := by
  obtain ⟨g, off, cap, h1, _, _, h4, h5⟩ := row_at turnCells 5 (fun _ => rfl) (by omega) h hl
  exact ⟨g, off, cap, h1, h4, fun i x hx => ⟨h5 i x hx 0 (by omega), h5 i x hx 1 (by omega), h5 i x hx 2 (by omega), h5 i x hx 3 (by omega), h5 i x hx 4 (by omega)⟩⟩
theorem take_eq_succ {α : Type} {a b : List α} {k : Nat} (ha : k < a.length) (hb : k < b.length) (h : a.take k = b.take k) (e : a[k] = b[k]) : a.take (k + 1) = b.take (k + 1) := by
  rw [List.take_succ_eq_append_getElem ha, List.take_succ_eq_append_getElem hb, h, e]
theorem drewN_cell (w : World) (q : Nat) (a : Addr) : (w.drewN q).cell? a = w.cell? a := by
  induction q with
  | zero => rfl
  | succ q ih => exact ih
set_option maxHeartbeats 2000000 in
theorem SameTurns_any (v1 v2 : Value) (l1 l2 : List Turn) (w : World) (h1 : TurnRow w v1 l1) (h2 : TurnRow w v2 l2) :
    Calls Tryd.prog 31 #[v1, v2] w fun e w' => e = .returned (.bool (decide (l1 = l2))) ∧ Below w.heap.size w w' := by
  have n1 := h1.len
  have n2 := h2.len
  by_cases hl : l1.length = l2.length
  · by_cases h0 : 0 < l1.length
    · obtain ⟨g1, o1, c1, rfl, hg1, hc1⟩ := turn_at h1 h0
      obtain ⟨g2, o2, c2, rfl, hg2, hc2⟩ := turn_at h2 (by omega)
      have HC1 : Hid (∀ w', Below w.heap.size w w' → ∀ (i : Nat) (x : Turn), l1[i]? = some x → w'.cell? ⟨g1, o1 + i * 5, none⟩ = some (.int .i64 x.kind) ∧ w'.cell? ⟨g1, o1 + i * 5 + 1, none⟩ = some (.int .i64 x.peer) ∧ w'.cell? ⟨g1, o1 + i * 5 + 2, none⟩ = some (.int .i64 x.source) ∧ w'.cell? ⟨g1, o1 + i * 5 + 3, none⟩ = some (.int .i64 x.layer) ∧ w'.cell? ⟨g1, o1 + i * 5 + 4, none⟩ = some (.int .u32 x.ssrc)) := fun w' hb i x hx => by
        obtain ⟨a, b, c, d, e⟩ := hc1 i x hx
        exact ⟨(hb.cell hg1).trans a, (hb.cell hg1).trans b, (hb.cell hg1).trans c, (hb.cell hg1).trans d, (hb.cell hg1).trans e⟩
      have HC2 : Hid (∀ w', Below w.heap.size w w' → ∀ (i : Nat) (x : Turn), l2[i]? = some x → w'.cell? ⟨g2, o2 + i * 5, none⟩ = some (.int .i64 x.kind) ∧ w'.cell? ⟨g2, o2 + i * 5 + 1, none⟩ = some (.int .i64 x.peer) ∧ w'.cell? ⟨g2, o2 + i * 5 + 2, none⟩ = some (.int .i64 x.source) ∧ w'.cell? ⟨g2, o2 + i * 5 + 3, none⟩ = some (.int .i64 x.layer) ∧ w'.cell? ⟨g2, o2 + i * 5 + 4, none⟩ = some (.int .u32 x.ssrc)) := fun w' hb i x hx => by
        obtain ⟨a, b, c, d, e⟩ := hc2 i x hx
        exact ⟨(hb.cell hg2).trans a, (hb.cell hg2).trans b, (hb.cell hg2).trans c, (hb.cell hg2).trans d, (hb.cell hg2).trans e⟩
      have HL := Lib.hid hl
      rw [← hl]
      rw [← hl] at n2
      clear hc1 hc2 h1 h2 hl
      go_enter Tryd.func31, Tryd.ntmps31
      go_wp2
      go_loopw [13] (fun i w' => ∃ k : Nat, k ≤ l1.length ∧ i = .int .i64 k ∧ Below w.heap.size w w' ∧ Hid (l1.take k = l2.take k)) (fun i _ => l1.length - (intOf i).toNat)
      case atStart => exact ⟨0, by omega, rfl, Below.refl _ _, rfl⟩
      case round =>
        obtain ⟨k, hk, rfl, hbl, HT⟩ := hrel
        by_cases hkl : k < l1.length
        · have hkl2 : k < l2.length := by have := HL.out; omega
          obtain ⟨a0, a1, a2, a3, a4⟩ := HC1.out wr hbl k l1[k] (List.getElem?_eq_getElem hkl)
          obtain ⟨b0, b1, b2, b3, b4⟩ := HC2.out wr hbl k l2[k] (List.getElem?_eq_getElem hkl2)
          have HEQ : Hid (l1[k] = l2[k] → l1.take (k + 1) = l2.take (k + 1)) := take_eq_succ hkl hkl2 HT.out
          have HNE : Hid (¬ l1[k] = l2[k] → ¬ l1 = l2) := fun h e => h (by subst e; rfl)
          by_cases he : l1[k] = l2[k]
          · have HF := Lib.hid (HEQ.out he)
            rw [← he] at b0 b1 b2 b3 b4
            clear he HEQ HNE
            generalize l1[k] = x at *
            obtain ⟨x0, x1, x2, x3, x4⟩ := x
            dsimp only at *
            go_wp2
            go_quiet (fail)
            go_wp2
            go_roundw
            case rel => exact ⟨k + 1, by omega, by go_num, below_drewN hbl _, HF.out⟩
            case measure => simp [intOf]; omega
          · have HF := Lib.hid (HNE.out he)
            generalize l1[k] = x at *
            generalize l2[k] = y at *
            have HXY := Lib.hid he
            clear he HEQ HNE
            obtain ⟨x0, x1, x2, x3, x4⟩ := x
            obtain ⟨y0, y1, y2, y3, y4⟩ := y
            dsimp only at a0 a1 a2 a3 a4 b0 b1 b2 b3 b4
            by_cases e0 : x0 = y0
            rotate_left
            · go_wp2
              go_quiet (fail)
              go_wp2
              go_ret
              exact ⟨ret_bool (by rw [decide_eq_false HF.out]), below_drewN hbl _⟩
            subst e0
            by_cases e1 : x1 = y1
            rotate_left
            · go_wp2
              go_quiet (fail)
              go_wp2
              go_ret
              exact ⟨ret_bool (by rw [decide_eq_false HF.out]), below_drewN hbl _⟩
            subst e1
            by_cases e2 : x2 = y2
            rotate_left
            · go_wp2
              go_quiet (fail)
              go_wp2
              go_ret
              exact ⟨ret_bool (by rw [decide_eq_false HF.out]), below_drewN hbl _⟩
            subst e2
            by_cases e3 : x3 = y3
            rotate_left
            · go_wp2
              go_quiet (fail)
              go_wp2
              go_ret
              exact ⟨ret_bool (by rw [decide_eq_false HF.out]), below_drewN hbl _⟩
            subst e3
            by_cases e4 : x4 = y4
            rotate_left
            · go_wp2
              go_quiet (fail)
              go_wp2
              go_ret
              exact ⟨ret_bool (by rw [decide_eq_false HF.out]), below_drewN hbl _⟩
            subst e4
            exact absurd rfl HXY.out
        · have HF : Hid (l1 = l2) := by
            have := HT.out
            rw [List.take_of_length_le (by omega), List.take_of_length_le (by have := HL.out; omega)] at this
            exact this
          go_wp2
          go_ret
          exact ⟨ret_bool (by rw [decide_eq_true HF.out]), hbl⟩
    · have e1 : l1 = [] := List.eq_nil_of_length_eq_zero (by omega)
      have e2 : l2 = [] := List.eq_nil_of_length_eq_zero (by omega)
      subst e1 e2
      obtain ⟨a1, c1, rfl, _⟩ := h1
      obtain ⟨a2, c2, rfl, _⟩ := h2
      go_enter Tryd.func31, Tryd.ntmps31
      go_wp2
      go_loopw [13] (fun i w' => i = .int .i64 0 ∧ w' = w) (fun _ _ => 0)
      case atStart => exact ⟨rfl, rfl⟩
      case round =>
        obtain ⟨rfl, rfl⟩ := hrel
        go_wp2
        go_ret
        exact ⟨rfl, Below.refl _ _⟩
  · obtain ⟨a1, c1, rfl, _⟩ := h1
    obtain ⟨a2, c2, rfl, _⟩ := h2
    have HF : Hid (¬ l1 = l2) := fun e => hl (by rw [e])
    have hb : ((l1.length : Int) != (l2.length : Int)) = true := by rw [bne_iff_ne]; omega
    have hb2 : (l1.length != l2.length) = true := by rw [bne_iff_ne]; omega
    go_enter Tryd.func31, Tryd.ntmps31
    go_wp2
    go_ret
    exact ⟨ret_bool (by rw [decide_eq_false HF.out]), Below.refl _ _⟩
end Go.Proofs.Rm
namespace Go.Proofs.Rm
open Go.RowKit Go.Proofs.Heap Go.Proofs.Mem
theorem leave1_succ (p : Nat) (R : Room) (k : Nat) : leave1 p R (k + 1) = if ((leave1 p R k).2.sub k p).there then ((leave1 p R k).1 ++ [⟨2, p, k, 0, 0⟩], (leave1 p R k).2.setSub k p noSub) else leave1 p R k := rfl
theorem leave2_succ (p : Nat) (R : Room) (k : Nat) : leave2 R p (k + 1) = if (R.src k).there && decide ((R.src k).own = p) then ((leave2 R p k).1 ++ (gone (leave2 R p k).2 k).1, (gone (leave2 R p k).2 k).2) else leave2 R p k := rfl
theorem gone_len (R : Room) (n : Nat) : (gone R n).1.length ≤ 18 := by
  unfold gone
  dsimp only
  rw [goneGo_len]
  have := subs_len R n
  omega
theorem leave1_len (p : Nat) (R : Room) : ∀ k, (leave1 p R k).1.length ≤ k
  | 0 => Nat.le_refl _
  | k + 1 => by
    rw [leave1_succ]
    have := leave1_len p R k
    split
    · simp; omega
    · omega
theorem leave2_len (p : Nat) (R : Room) : ∀ k, (leave2 R p k).1.length ≤ k * 18
  | 0 => Nat.le_refl _
  | k + 1 => by
    rw [leave2_succ]
    have := leave2_len p R k
    have := gone_len (leave2 R p k).2 k
    split
    · simp; omega
    · omega
theorem names_setName (R : Room) (p : Nat) (s : List UInt8) : (R.setName p s).names p = s := by simp [Room.setName]
theorem RoomAt.setName {w : World} {b : Nat} {R : Room} (h : RoomAt w b R) {p : Nat} (hp : p < 9) (s : List UInt8) : RoomAt (w.setCell ⟨b, p, none⟩ (.string (str s))) b (R.setName p s) := by
  refine h.set (by omega) (fun j hj => ?_) h.rows
  unfold roomCell
  by_cases h1 : j < 9
  · rw [if_pos h1, if_pos h1]
    by_cases h2 : j = p
    · subst h2; rw [if_pos rfl, names_setName]
    · rw [if_neg h2]; simp [Room.setName, h2]
  · rw [if_neg h1, if_neg h1, if_neg (by omega : ¬ j = p)]; rfl
set_option maxHeartbeats 2000000 in
theorem leave_any (b : Nat) (R : Room) (p : Nat) (w : World) (hR : RoomAt w b R) (hp : p < 9) :
    Calls Tryd.prog 55 #[.pointer (some ⟨b, 0, none⟩), .int .i64 p] w fun e w' => (∃ v, e = .returned v ∧ TurnRow w' v (leave R p).1) ∧ RoomAt w' b (leave R p).2 ∧ Fr w.heap.size (· = b) w w' := by
  have hb := hR.lt
  have HL0 : Hid (leave R p = ((leave1 p R 9).1 ++ (leave2 (leave1 p R 9).2 p 9).1, (leave2 (leave1 p R 9).2 p 9).2.setName p [])) := rfl
  have HR := Lib.hid hR
  clear hR
  go_enter Tryd.func55, Tryd.ntmps55
  go_wp2
  go_loopw [5, 9] (fun v i w' => ∃ k : Nat, k ≤ 9 ∧ i = .int .i64 k ∧ Fr w.heap.size (· = b) w w' ∧ RoomAt w' b (leave1 p R k).2 ∧ w'.ownsRow w.heap.size 59 5 v (leave1 p R k).1.length ((leave1 p R k).1.flatMap turnCells)) (fun _ i _ => 9 - (intOf i).toNat)
  case atStart => exact ⟨0, by omega, rfl, Fr.refl _ _ _, HR.out, World.ownsRow_nil _ _ _ _⟩
  case round =>
    obtain ⟨k, hk, rfl, hfr, hroom, hown⟩ := hrel
    have HFR := Lib.hid hfr
    have HROOM := Lib.hid hroom
    have HOWN := Lib.hid hown
    clear hfr hroom hown
    by_cases hk9 : k < 9
    · have HS := Lib.hid (leave1_succ p R k)
      have HGL := leave1_len p R k
      have CE := Lib.hid (end_any b (leave1 p R k).2 p k wr HROOM.out hk9 hp)
      obtain ⟨c0, c1, c2⟩ := HROOM.out.subc hk9 hp
      clear c1 c2
      generalize leave1 p R k = G at *
      cases ht : (G.2.sub k p).there
      · rw [ht] at c0
        have HF : Hid (leave1 p R (k + 1) = G) := by show _ = _; rw [HS.out, ht]; rfl
        clear ht
        go_wp2
        go_roundw
        case rel => exact ⟨k + 1, by omega, by go_num, HFR.out, by rw [HF.out]; exact HROOM.out, by rw [HF.out]; exact HOWN.out⟩
        case measure => simp [intOf]; omega
      · rw [ht] at c0
        have HF : Hid (leave1 p R (k + 1) = (G.1 ++ [⟨2, p, k, 0, 0⟩], G.2.setSub k p noSub)) := by show _ = _; rw [HS.out, ht]; rfl
        clear ht
        go_wp2_with (first | (go_at_call 57; refine CE.out.mono ?_; rintro e w2 ⟨rfl, hroom2, hfr2⟩; have HROOM2 := Lib.hid hroom2; have HFR2 := Lib.hid hfr2; clear hroom2 hfr2) | (at_builtin; refine wpList_app rfl (.tmp 21) (.tmp 26) 33 rfl w.heap.size elemTurn _ G.1.length (G.1.flatMap turnCells) rfl ?a1 _ 1 ([⟨2, p, k, 0, 0⟩].flatMap turnCells) rfl ?a2 rfl ?a4 ?a5 ?a6 ?a7 (fun v' w3 HO HG => ?_)))
        case a1 => exact (owns_fr HOWN.out HFR2.out (fun k hk => by omega)).alloc _
        case a2 => exact row_new' _ _ 1 _ ([⟨2, p, k, 0, 0⟩].flatMap turnCells) (by decide) rfl
        case a4 => exact turns_one _
        case a5 => omega
        case a6 => omega
        case a7 => have h1 := HFR.out.size; have h2 := HFR2.out.size; simp; omega
        go_roundw
        case rel =>
          have h1 := HFR.out.size
          have h2 := HFR2.out.size
          have hown2 := (owns_fr HOWN.out HFR2.out (fun k hk => by omega)).alloc (.cells ([⟨2, p, k, 0, 0⟩].flatMap turnCells).toArray 59)
          have hbl := below_alloc w2 (.cells ([⟨2, p, k, 0, 0⟩].flatMap turnCells).toArray 59)
          refine ⟨k + 1, by omega, by go_num, ?_, ?_, ?_⟩
          · have h3 := HFR.out.trans (HFR2.out.mono (by omega) (fun _ _ h => h))
            exact (h3.alloc (by omega) _).grown HG.out (by simp; omega) (own_le HOWN.out)
          · rw [HF.out]
            exact RoomAt.grown (HROOM2.out.below hbl) hown2 HG.out hb (by decide)
          · rw [HF.out]
            dsimp only
            rw [List.length_append, List.flatMap_append]
            exact HO.out
        case measure => simp [intOf]; omega
    · obtain rfl : k = 9 := by omega
      have HGL := leave1_len p R 9
      have HL2 : Hid (∀ k, leave2 (leave1 p R 9).2 p (k + 1) = if ((leave1 p R 9).2.src k).there && decide (((leave1 p R 9).2.src k).own = p) then ((leave2 (leave1 p R 9).2 p k).1 ++ (gone (leave2 (leave1 p R 9).2 p k).2 k).1, (gone (leave2 (leave1 p R 9).2 p k).2 k).2) else leave2 (leave1 p R 9).2 p k) := fun k => leave2_succ p _ k
      have HLL : Hid (∀ k, (leave2 (leave1 p R 9).2 p k).1.length ≤ k * 18) := fun k => leave2_len p _ k
      have HL20 : Hid (leave2 (leave1 p R 9).2 p 0 = ([], (leave1 p R 9).2)) := rfl
      generalize leave1 p R 9 = X at *
      have hcs : ∀ j, j < (srcsArr X.2).size → wr.cell? ⟨b, 9 + j, none⟩ = (srcsArr X.2)[j]? := by
        intro j hj
        rw [srcsArr_size] at hj
        rw [HROOM.out.cell (by omega), srcsArr_at X.2 j hj]
      have hinfo : (Tryd.prog.info? 82).map (·.size) = some (srcsArr X.2).size := by rw [srcsArr_size]; kernel_rfl
      have HP : Hid (∀ n : Nat, n < 9 → ∀ w, (Instr.index 82 (.agg (srcsArr X.2)) (.int .i64 (n : Int))).run Tryd.prog w = .ok (.agg #[.bool (X.2.src n).there, .int .i64 (X.2.src n).num, .int .i64 (X.2.src n).own, (X.2.src n).sv, .bool (X.2.src n).muted]) w) :=
        fun n hn w => Load.run_index_agg w 82 81 9 (srcsArr X.2) n 5 _ Tryd.underlying82 hn Tryd.underlying81 rfl (by kernel_rfl) _ (srcsArr_part X.2 n hn)
      have HSV : Hid (∀ n, n < 9 → ∃ a c, (X.2.src n).sv = .slice a (X.2.src n).ss.length c) := fun n hn => by
        obtain ⟨a, c, h, _⟩ := HROOM.out.rows n hn
        exact ⟨a, c, h⟩
      generalize srcsArr X.2 = CS at *
      obtain ⟨wo, rfl⟩ : ∃ wo : World, wo = wr := ⟨_, rfl⟩
      go_wp2_with (refine Load.wpList_load_part rfl 82 (.tmp 31) rfl b 9 rfl CS (.array 9 81) hcs Tryd.underlying82 rfl hinfo ?_)
      clear hcs hinfo
      go_loopw [5, 33] (fun v i w' => ∃ k : Nat, k ≤ 9 ∧ i = .int .i64 k ∧ Fr w.heap.size (· = b) w w' ∧ RoomAt w' b (leave2 X.2 p k).2 ∧ w'.ownsRow w.heap.size 59 5 v (X.1 ++ (leave2 X.2 p k).1).length ((X.1 ++ (leave2 X.2 p k).1).flatMap turnCells)) (fun _ i _ => 9 - (intOf i).toNat)
      case atStart => exact ⟨0, by omega, rfl, HFR.out, by rw [HL20.out]; exact HROOM.out, by rw [HL20.out, List.append_nil]; exact HOWN.out⟩
      case round =>
        obtain ⟨k, hk, rfl, hfr, hroom, hown⟩ := hrel
        clear HFR HROOM HOWN HL20
        have HFR := Lib.hid hfr
        have HROOM := Lib.hid hroom
        have HOWN := Lib.hid hown
        clear hfr hroom hown
        by_cases hk9 : k < 9
        · have HS := Lib.hid (HL2.out k)
          have HGL2 := HLL.out k
          have HGN := gone_len (leave2 X.2 p k).2 k
          have hix := HP.out k hk9
          have hsz := HFR.out.size
          have CG := Lib.hid (fun w1 (h : Below wr.heap.size wr w1) => gone_any b (leave2 X.2 p k).2 k w1 (HROOM.out.below h) hk9)
          obtain ⟨sa, sc, hsv⟩ := HSV.out k hk9
          rw [hsv] at hix
          clear hsv
          generalize leave2 X.2 p k = G at *
          generalize (X.2.src k).num = u1 at *
          generalize (X.2.src k).muted = u4 at *
          generalize (X.2.src k).ss.length = ul at *
          cases ht : (X.2.src k).there
          · have HF : Hid (leave2 X.2 p (k + 1) = G) := by show _ = _; rw [HS.out, ht]; rfl
            rw [ht] at hix
            clear ht
            go_wp2
            go_roundw
            case rel => exact ⟨k + 1, by omega, by go_num, HFR.out.alloc hsz _, by rw [HF.out]; exact HROOM.out.below (below_alloc _ _), by rw [HF.out]; exact HOWN.out.alloc _⟩
            case measure => simp [intOf]; omega
          · by_cases ho : (X.2.src k).own = p
            · have HF : Hid (leave2 X.2 p (k + 1) = (G.1 ++ (gone G.2 k).1, (gone G.2 k).2)) := by show _ = _; rw [HS.out, ht, ho]; simp
              rw [ht, ho] at hix
              clear ht ho
              generalize gone G.2 k = Y at *
              go_wp2_with (first | (go_at_call 50; refine (CG.out _ (below_alloc _ _)).mono ?_; rintro e w2 ⟨⟨tv, rfl, htr⟩, hroom2, hfr2⟩; have HTR := Lib.hid htr; have HROOM2 := Lib.hid hroom2; have HFR2 := Lib.hid hfr2; clear hroom2 hfr2 htr) | (at_builtin; refine wpList_app rfl (.tmp 46) (.tmp 49) 33 rfl w.heap.size elemTurn _ (X.1 ++ G.1).length ((X.1 ++ G.1).flatMap turnCells) rfl ?b1 _ Y.1.length (Y.1.flatMap turnCells) rfl ?b2 ?b3 ?b4 ?b5 ?b6 ?b7 (fun v' w3 HO HG => ?_)))
              case b1 => exact owns_fr (HOWN.out.alloc _) HFR2.out (fun k hk => by omega)
              case b2 => exact HTR.out
              case b3 => exact turns_len _
              case b4 => exact turns_one _
              case b5 => simp; omega
              case b6 => simp; omega
              case b7 => have h2 := HFR2.out.size; simp at h2; omega
              go_roundw
              case rel =>
                have h2 := HFR2.out.size
                simp at h2
                refine ⟨k + 1, by omega, by go_num, ?_, ?_, ?_⟩
                · have h3 := (HFR.out.alloc hsz _).trans (HFR2.out.mono (by simp; omega) (fun _ _ h => h))
                  exact h3.grown HG.out (by omega) (own_le HOWN.out)
                · rw [HF.out]
                  exact RoomAt.grown HROOM2.out (owns_fr (HOWN.out.alloc _) HFR2.out (fun k hk => by omega)) HG.out hb (by decide)
                · rw [HF.out]
                  dsimp only
                  rw [← List.append_assoc, List.length_append, List.flatMap_append]
                  exact HO.out
              case measure => simp [intOf]; omega
            · have HF : Hid (leave2 X.2 p (k + 1) = G) := by show _ = _; rw [HS.out, ht]; simp [ho]
              have hbq : ((X.2.src k).own == (p : Int)) = false := by rw [beq_eq_false_iff_ne]; exact ho
              rw [ht] at hix
              clear ht ho
              generalize (X.2.src k).own = u2 at *
              go_wp2
              go_roundw
              case rel => exact ⟨k + 1, by omega, by go_num, HFR.out.alloc hsz _, by rw [HF.out]; exact HROOM.out.below (below_alloc _ _), by rw [HF.out]; exact HOWN.out.alloc _⟩
              case measure => simp [intOf]; omega
        · obtain rfl : k = 9 := by omega
          have c0 := HROOM.out.namec hp
          have f0 := HROOM.out.unfrozen p
          clear HP HL2 HLL
          generalize leave2 X.2 p 9 = G at *
          go_wp2
          go_ret
          rw [HL0.out]
          exact ⟨⟨_, rfl, (Row.of_owns HOWN.out).fr ((Fr.refl wr.heap.size (· = b) wr).setAt _ _) (Nat.le_refl _) (HROOM.out.typ (by decide))⟩, HROOM.out.setName hp [], HFR.out.setAt _ _⟩
end Go.Proofs.Rm
