/- The walks of package room, each function once: mute. -/
import Derived.Test.YthlamfoldfeocaaDoorRoomWalks5
namespace Go.Proofs.Rm
open Go.RowKit Go.Proofs.Heap Go.Proofs.Mem
theorem muteTurns_len (R : Room) (n : Nat) (on : Bool) (p : Nat) : (muteTurns R n on p).length ≤ 2 := by
  unfold muteTurns waits
  split
  · simp
  · split <;> simp
theorem muteAll_len (R : Room) (n : Nat) (on : Bool) : ∀ l : List Nat, (l.flatMap (muteTurns R n on)).length ≤ 2 * l.length
  | [] => Nat.le_refl _
  | p :: l => by
    rw [List.flatMap_cons, List.length_append, List.length_cons]
    have := muteTurns_len R n on p
    have := muteAll_len R n on l
    omega
theorem flat_snoc {α : Type} (f : Nat → List α) {l : List Nat} {k : Nat} (h : k < l.length) : (l.take (k + 1)).flatMap f = (l.take k).flatMap f ++ f (l.getD k 0) := by
  rw [take_snoc h, List.flatMap_append]; simp
theorem subs_there {R : Room} {n : Nat} {j : Nat} (hn : n < 9) (h : j < (subs R n).length) : (subs R n).getD j 0 < 9 ∧ (R.sub n ((subs R n).getD j 0)).there = true := by
  refine ⟨subs_mem h, ?_⟩
  rw [List.getD_eq_getElem?_getD, List.getElem?_eq_getElem h]
  have := (List.mem_filter.1 (List.getElem_mem h)).2
  simp only [hears, Bool.and_eq_true, Int.toNat_natCast] at this
  exact this.2
theorem srcCell_muted (s : Src) (on : Bool) : ∀ j, j < 5 → srcCell { s with muted := on } j = if j = 4 then .bool on else srcCell s j := by
  intro j hj
  have : j = 0 ∨ j = 1 ∨ j = 2 ∨ j = 3 ∨ j = 4 := by omega
  rcases this with rfl | rfl | rfl | rfl | rfl <;> rfl
set_option maxHeartbeats 2000000 in
theorem mute_on (b : Nat) (R : Room) (n : Nat) (w : World) (hR : RoomAt w b R) (hn : n < 9) :
    Calls Tryd.prog 58 #[.pointer (some ⟨b, 0, none⟩), .int .i64 n, .bool true] w fun e w' => (∃ v, e = .returned v ∧ TurnRow w' v (mute R n true).1) ∧ RoomAt w' b (mute R n true).2 ∧ Fr w.heap.size (· = b) w w' := by
  have hb := hR.lt
  obtain ⟨s0, s1, s2, s3, s4⟩ := hR.srcc hn
  have f4 := hR.unfrozen (9 + n * 5 + 4)
  have HR1 := Lib.hid (hR.setSrcCell hn (i := 4) (by omega) (srcCell_muted (R.src n) true) (hR.rows n hn))
  have HM0 : Hid (mute R n true = ((subs (R.setSrc n { R.src n with muted := true }) n).flatMap (muteTurns (R.setSrc n { R.src n with muted := true }) n true), R.setSrc n { R.src n with muted := true })) := rfl
  clear s0 s1 s2 s3
  generalize R.setSrc n { R.src n with muted := true } = R1 at *
  have CS := Lib.hid (Subs_any b R1 n _ HR1.out)
  have HM : Hid (∀ j, j < (subs R1 n).length → (subs R1 n).getD j 0 < 9) := fun j h => subs_mem h
  have HL := subs_len R1 n
  have HT : Hid (∀ k, k < (subs R1 n).length → ((subs R1 n).take (k + 1)).flatMap (muteTurns R1 n true) = ((subs R1 n).take k).flatMap (muteTurns R1 n true) ++ [⟨6, (subs R1 n).getD k 0, n, 0, 0⟩]) := fun k h => flat_snoc _ h
  have HTL : Hid (∀ k, (((subs R1 n).take k).flatMap (muteTurns R1 n true)).length ≤ 2 * ((subs R1 n).take k).length) := fun k => muteAll_len _ _ _ _
  clear hR
  generalize subs R1 n = L at *
  generalize muteTurns R1 n true = f at *
  go_enter Tryd.func58, Tryd.ntmps58
  go_wp2_with fail
  refine CS.out.mono ?_
  rintro e w1 ⟨⟨lv, rfl, hrow⟩, hb1⟩
  have HROW := Lib.hid hrow
  have HB := Lib.hid hb1
  have hsz : w.heap.size ≤ w1.heap.size := by have := hb1.size; rw [size_setCell] at this; exact this
  have HFR0 : Hid (Fr w.heap.size (· = b) w w1) := ((Fr.refl w.heap.size (· = b) w).setAt _ _).trans ((Fr.of_below _ hb1).mono (by rw [size_setCell]; exact Nat.le_refl _) (fun _ _ h => h))
  have HROOM0 := Lib.hid (HR1.out.below hb1)
  clear hb1 HB
  rcases Nat.eq_zero_or_pos L.length with h0 | h0
  · obtain ⟨la, lcap, rfl, hx⟩ := hrow
    clear hx
    have HLE : Hid (L = []) := List.eq_nil_of_length_eq_zero h0
    go_wp2_with fail
    go_loopw [7, 22] (fun v i w' => v = .slice none 0 0 ∧ i = .int .i64 0 ∧ w' = w1) (fun _ _ _ => 0)
    case atStart => exact ⟨rfl, rfl, rfl⟩
    case round =>
      obtain ⟨rfl, rfl, rfl⟩ := hrel
      go_wp2
      go_ret
      rw [HM0.out, HLE.out]
      exact ⟨⟨_, rfl, Row.nil _ _⟩, HROOM0.out, HFR0.out⟩
  · obtain ⟨g, off, cap, rfl, hg, hcells⟩ := int_open hrow h0
    have HC := Lib.hid hcells
    clear hrow hcells
    go_wp2_with fail
    go_loopw [7, 22] (fun v i w' => ∃ k : Nat, k ≤ L.length ∧ i = .int .i64 k ∧ Fr w.heap.size (· = b) w w' ∧ Row w' 3 (.slice (some ⟨g, off, none⟩) L.length cap) L.length (ints L) ∧ RoomAt w' b R1 ∧ w'.ownsRow w.heap.size 59 5 v ((L.take k).flatMap f).length (((L.take k).flatMap f).flatMap turnCells)) (fun _ i _ => L.length - (intOf i).toNat)
    case atStart => exact ⟨0, by omega, rfl, HFR0.out, HROW.out, HROOM0.out, World.ownsRow_nil _ _ _ _⟩
    case round =>
      obtain ⟨k, hk, rfl, hfr, hrow, hroom, hown⟩ := hrel
      have HFR := Lib.hid hfr
      have HROW2 := Lib.hid hrow
      have HROOM := Lib.hid hroom
      have HOWN := Lib.hid hown
      clear hfr hown hroom
      by_cases hkl : k < L.length
      · obtain ⟨g', off', cap', e1, hg', hcells⟩ := int_open hrow h0
        cases e1
        have hc := hcells k hkl
        have hp := HM.out k hkl
        have HS := Lib.hid (HT.out k hkl)
        have HGL := HTL.out k
        rw [List.length_take] at HGL
        clear hcells hrow
        generalize L.getD k 0 = p at *
        generalize (L.take k).flatMap f = G at *
        go_wp2_with (at_builtin; refine wpList_app rfl (.tmp 27) (.tmp 31) 33 rfl w.heap.size elemTurn _ G.length (G.flatMap turnCells) rfl ?a1 _ 1 ([⟨6, p, n, 0, 0⟩].flatMap turnCells) rfl ?a2 rfl ?a4 ?a5 ?a6 ?a7 (fun v' w3 HO HG => ?_))
        case a1 => exact HOWN.out.alloc _
        case a2 => exact row_new' _ _ 1 _ ([⟨6, p, n, 0, 0⟩].flatMap turnCells) (by decide) rfl
        case a4 => exact turns_one _
        case a5 => omega
        case a6 => omega
        case a7 => have h1 := HFR.out.size; simp; omega
        go_roundw
        case rel =>
          have h1 := HFR.out.size
          have hown2 := HOWN.out.alloc (.cells ([⟨6, p, n, 0, 0⟩].flatMap turnCells).toArray 59)
          have hbl := below_alloc wr (.cells ([⟨6, p, n, 0, 0⟩].flatMap turnCells).toArray 59)
          refine ⟨k + 1, by omega, by go_num, ?_, ?_, ?_, ?_⟩
          · exact (HFR.out.alloc (by omega) _).grown HG.out (by simp; omega) (own_le HOWN.out)
          · exact Row.grown (HROW2.out.below hbl) hown2 HG.out (by decide)
          · exact RoomAt.grown (HROOM.out.below hbl) hown2 HG.out hb (by decide)
          · rw [HS.out, List.length_append, List.flatMap_append]
            exact HO.out
        case measure => simp [intOf]; omega
      · have hkk : k = L.length := by omega
        have hT : L.take k = L := by rw [hkk, List.take_length]
        rw [hT] at HOWN
        clear hT hrow
        go_wp2
        go_ret
        rw [HM0.out]
        exact ⟨⟨_, rfl, Row.of_owns HOWN.out⟩, HROOM.out, HFR.out⟩
set_option maxHeartbeats 4000000 in
theorem mute_off (b : Nat) (R : Room) (n : Nat) (w : World) (hR : RoomAt w b R) (hn : n < 9) (hwant : ∀ p, p < 9 → (R.sub n p).there = true → 0 ≤ (R.sub n p).want ∧ (R.sub n p).want < (R.src n).ss.length) :
    Calls Tryd.prog 58 #[.pointer (some ⟨b, 0, none⟩), .int .i64 n, .bool false] w fun e w' => (∃ v, e = .returned v ∧ TurnRow w' v (mute R n false).1) ∧ RoomAt w' b (mute R n false).2 ∧ Fr w.heap.size (· = b) w w' := by
  have hb := hR.lt
  obtain ⟨s0, s1, s2, s3, s4⟩ := hR.srcc hn
  have f4 := hR.unfrozen (9 + n * 5 + 4)
  have HR1 := Lib.hid (hR.setSrcCell hn (i := 4) (by omega) (srcCell_muted (R.src n) false) (hR.rows n hn))
  have HM0 : Hid (mute R n false = ((subs (R.setSrc n { R.src n with muted := false }) n).flatMap (muteTurns (R.setSrc n { R.src n with muted := false }) n false), R.setSrc n { R.src n with muted := false })) := rfl
  have HW1 : Hid (∀ p, p < 9 → ((R.setSrc n { R.src n with muted := false }).sub n p).there = true → 0 ≤ ((R.setSrc n { R.src n with muted := false }).sub n p).want ∧ ((R.setSrc n { R.src n with muted := false }).sub n p).want < ((R.setSrc n { R.src n with muted := false }).src n).ss.length) := by
    intro p hp ht
    rw [src_setSrc]
    exact hwant p hp ht
  clear s0 s1 s2 s3 hwant
  generalize R.setSrc n { R.src n with muted := false } = R1 at *
  have CS := Lib.hid (Subs_any b R1 n _ HR1.out)
  have HM : Hid (∀ j, j < (subs R1 n).length → (subs R1 n).getD j 0 < 9 ∧ (R1.sub n ((subs R1 n).getD j 0)).there = true) := fun j h => subs_there hn h
  have HL := subs_len R1 n
  have HT : Hid (∀ k, k < (subs R1 n).length → ((subs R1 n).take (k + 1)).flatMap (muteTurns R1 n false) = ((subs R1 n).take k).flatMap (muteTurns R1 n false) ++ [⟨7, (subs R1 n).getD k 0, n, 0, 0⟩] ++ waits R1 ((subs R1 n).getD k 0) n) := fun k h => by rw [flat_snoc _ h, List.append_assoc]; rfl
  have HTL : Hid (∀ k, (((subs R1 n).take k).flatMap (muteTurns R1 n false)).length ≤ 2 * ((subs R1 n).take k).length) := fun k => muteAll_len _ _ _ _
  have HWL : Hid (∀ p, (waits R1 p n).length ≤ 1) := fun p => by unfold waits; split <;> simp
  clear hR
  generalize subs R1 n = L at *
  generalize muteTurns R1 n false = f at *
  go_enter Tryd.func58, Tryd.ntmps58
  go_wp2_with fail
  refine CS.out.mono ?_
  rintro e w1 ⟨⟨lv, rfl, hrow⟩, hb1⟩
  have HROW := Lib.hid hrow
  have HB := Lib.hid hb1
  have hsz : w.heap.size ≤ w1.heap.size := by have := hb1.size; rw [size_setCell] at this; exact this
  have HFR0 : Hid (Fr w.heap.size (· = b) w w1) := ((Fr.refl w.heap.size (· = b) w).setAt _ _).trans ((Fr.of_below _ hb1).mono (by rw [size_setCell]; exact Nat.le_refl _) (fun _ _ h => h))
  have HROOM0 := Lib.hid (HR1.out.below hb1)
  clear hb1 HB
  rcases Nat.eq_zero_or_pos L.length with h0 | h0
  · obtain ⟨la, lcap, rfl, hx⟩ := hrow
    clear hx
    have HLE : Hid (L = []) := List.eq_nil_of_length_eq_zero h0
    go_wp2_with fail
    go_loopw [7, 22] (fun v i w' => v = .slice none 0 0 ∧ i = .int .i64 0 ∧ w' = w1) (fun _ _ _ => 0)
    case atStart => exact ⟨rfl, rfl, rfl⟩
    case round =>
      obtain ⟨rfl, rfl, rfl⟩ := hrel
      go_wp2
      go_ret
      rw [HM0.out, HLE.out]
      exact ⟨⟨_, rfl, Row.nil _ _⟩, HROOM0.out, HFR0.out⟩
  · obtain ⟨g, off, cap, rfl, hg, hcells⟩ := int_open hrow h0
    have HC := Lib.hid hcells
    clear hrow hcells
    go_wp2_with fail
    go_loopw [7, 22] (fun v i w' => ∃ k : Nat, k ≤ L.length ∧ i = .int .i64 k ∧ Fr w.heap.size (· = b) w w' ∧ Row w' 3 (.slice (some ⟨g, off, none⟩) L.length cap) L.length (ints L) ∧ RoomAt w' b R1 ∧ w'.ownsRow w.heap.size 59 5 v ((L.take k).flatMap f).length (((L.take k).flatMap f).flatMap turnCells)) (fun _ i _ => L.length - (intOf i).toNat)
    case atStart => exact ⟨0, by omega, rfl, HFR0.out, HROW.out, HROOM0.out, World.ownsRow_nil _ _ _ _⟩
    case round =>
      obtain ⟨k, hk, rfl, hfr, hrow, hroom, hown⟩ := hrel
      have HFR := Lib.hid hfr
      have HROW2 := Lib.hid hrow
      have HROOM := Lib.hid hroom
      have HOWN := Lib.hid hown
      clear hfr hown hroom
      by_cases hkl : k < L.length
      · obtain ⟨g', off', cap', e1, hg', hcells⟩ := int_open hrow h0
        cases e1
        have hc := hcells k hkl
        have HP := Lib.hid (HM.out k hkl)
        have HS := Lib.hid (HT.out k hkl)
        have HGL := HTL.out k
        have HWLk := HWL.out (L.getD k 0)
        rw [List.length_take] at HGL
        clear hcells hrow
        generalize L.getD k 0 = p at *
        generalize (L.take k).flatMap f = G at *
        have h1 := HFR.out.size
        have CW : Hid (∀ w3, RoomAt w3 b R1 → Calls Tryd.prog 59 #[.pointer (some ⟨b, 0, none⟩), .int .i64 p, .int .i64 n] w3 fun e w' => (∃ v, e = .returned v ∧ TurnRow w' v (waits R1 p n)) ∧ Below w3.heap.size w3 w') := fun w3 h3 => waits_any b R1 p n w3 h3 hn HP.out.1 (HW1.out p HP.out.1 HP.out.2)
        have HO2 := Lib.hid (HOWN.out.alloc (.cells ([⟨7, p, n, 0, 0⟩].flatMap turnCells).toArray 59))
        have HBL := Lib.hid (below_alloc wr (.cells ([⟨7, p, n, 0, 0⟩].flatMap turnCells).toArray 59))
        generalize waits R1 p n = Wt at *
        go_wp2_with (first | (at_builtin; refine wpList_app rfl (.tmp 33) (.tmp 37) 33 rfl w.heap.size elemTurn _ G.length (G.flatMap turnCells) rfl ?a1 _ 1 ([⟨7, p, n, 0, 0⟩].flatMap turnCells) rfl ?a2 rfl ?a4 ?a5 ?a6 ?a7 (fun v' w3 HO HG => ?_)) | (go_at_call 59; refine (CW.out _ (RoomAt.grown (HROOM.out.below HBL.out) HO2.out HG.out hb (by decide))).mono ?_; rintro e w4 ⟨⟨tv, rfl, htr⟩, hb4⟩; have HTR := Lib.hid htr; have HB4 := Lib.hid hb4; clear htr hb4) | (at_builtin; refine wpList_app rfl (.tmp 39) (.tmp 43) 33 rfl w.heap.size elemTurn _ (G ++ [Turn.mk 7 p n 0 0]).length ((G ++ [Turn.mk 7 p n 0 0]).flatMap turnCells) rfl ?b1 _ Wt.length (Wt.flatMap turnCells) rfl ?b2 ?b3 ?b4 ?b5 ?b6 ?b7 (fun v' w5 HO5 HG5 => ?_)))
        case a1 => exact HOWN.out.alloc _
        case a2 => exact row_new' _ _ 1 _ ([⟨7, p, n, 0, 0⟩].flatMap turnCells) (by decide) rfl
        case a4 => exact turns_one _
        case a5 => omega
        case a6 => omega
        case a7 => simp; omega
        case b1 => rw [List.length_append, List.flatMap_append]; exact owns_below HO.out HB4.out
        case b2 => exact HTR.out
        case b3 => exact turns_len _
        case b4 => exact turns_one _
        case b5 => simp; omega
        case b6 => simp; omega
        case b7 => have h2 := HG.out.size; have h3 := HB4.out.size; simp at h2; omega
        go_roundw
        case rel =>
          have h2 := HG.out.size
          have h3 := HB4.out.size
          simp at h2
          have HO3 := owns_below HO.out HB4.out
          refine ⟨k + 1, by omega, by go_num, ?_, ?_, ?_, ?_⟩
          · have g1 := (HFR.out.alloc (by omega) _).grown HG.out (by simp; omega) (own_le HOWN.out)
            have g2 := g1.trans ((Fr.of_below _ HB4.out).mono (by omega) (fun _ _ h => h))
            exact g2.grown HG5.out (by omega) (own_le HO.out)
          · exact Row.grown ((Row.grown (HROW2.out.below HBL.out) HO2.out HG.out (by decide)).below HB4.out) HO3 HG5.out (by decide)
          · exact RoomAt.grown ((RoomAt.grown (HROOM.out.below HBL.out) HO2.out HG.out hb (by decide)).below HB4.out) HO3 HG5.out hb (by decide)
          · rw [HS.out, List.length_append, List.flatMap_append]
            exact HO5.out
        case measure => simp [intOf]; omega
      · have hkk : k = L.length := by omega
        have hT : L.take k = L := by rw [hkk, List.take_length]
        rw [hT] at HOWN
        clear hT hrow
        go_wp2
        go_ret
        rw [HM0.out]
        exact ⟨⟨_, rfl, Row.of_owns HOWN.out⟩, HROOM.out, HFR.out⟩
end Go.Proofs.Rm
