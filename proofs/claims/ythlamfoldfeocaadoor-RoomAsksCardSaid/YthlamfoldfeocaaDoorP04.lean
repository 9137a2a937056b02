/- Several texts in one: The walks of package room, each function once: mute. The walks of package room, each function once: begin. The walks of package room, each function once: turns (most kinds). Append to a slice of the call's own at a step of a region that draws its order. Over any program. The walks of package room, each function once: turns (publish, resume, switch). The walks of the reference's comparisons: SameSource. -/
import Derived.Deep.RegionLawGrows
import Derived.Deep.RegionHeld3
import Derived.Test.YthlamfoldfeocaaDoorP01
import Derived.Test.YthlamfoldfeocaaDoorP03
namespace Go.Proofs.Rm
open Go.RowKit Go.Proofs.Heap Go.Proofs.Mem
theorem muteTurns_len (R : Room) (n : Nat) (on : Bool) (p : Nat) : (muteTurns R n on p).length ≤ 2 := by
  unfold muteTurns waits
  split
  · simp
  · split <;> simp
theorem muteAll_len (R : Room) (n : Nat) (on : Bool) : ∀ l : List Nat, (l.flatMap (muteTurns R n on)).length ≤ 2 * l.length
  | [] => Nat.le_refl _
  | p :: l => by
    rw [List.flatMap_cons, List.length_append, List.length_cons]
    have := muteTurns_len R n on p
    have := muteAll_len R n on l
    omega
theorem flat_snoc {α : Type} (f : Nat → List α) {l : List Nat} {k : Nat} (h : k < l.length) : (l.take (k + 1)).flatMap f = (l.take k).flatMap f ++ f (l.getD k 0) := by
  rw [take_snoc h, List.flatMap_append]; simp
theorem subs_there {R : Room} {n : Nat} {j : Nat} (_hn : n < 9) (h : j < (subs R n).length) : (subs R n).getD j 0 < 9 ∧ (R.sub n ((subs R n).getD j 0)).there = true := by
  refine ⟨subs_mem h, ?_⟩
  rw [List.getD_eq_getElem?_getD, List.getElem?_eq_getElem h]
  have := (List.mem_filter.1 (List.getElem_mem h)).2
  simp only [hears, Bool.and_eq_true, Int.toNat_natCast] at this
  exact this.2
theorem srcCell_muted (s : Src) (on : Bool) : ∀ j, j < 5 → srcCell { s with muted := on } j = if j = 4 then .bool on else srcCell s j := by
  intro j hj
  have : j = 0 ∨ j = 1 ∨ j = 2 ∨ j = 3 ∨ j = 4 := by omega
  rcases this with rfl | rfl | rfl | rfl | rfl <;> rfl
set_option maxHeartbeats 2000000 in
theorem mute_on (b : Nat) (R : Room) (n : Nat) (w : World) (hR : RoomAt w b R) (hn : n < 9) :
    Calls Tryd.prog 58 #[.pointer (some ⟨b, 0, none⟩), .int .i64 n, .bool true] w fun e w' => (∃ v, e = .returned v ∧ TurnRow w' v (mute R n true).1) ∧ RoomAt w' b (mute R n true).2 ∧ Fr w.heap.size (· = b) w w' := by
  have hb := hR.lt
  obtain ⟨s0, s1, s2, s3, s4⟩ := hR.srcc hn
  have f4 := hR.unfrozen (9 + n * 5 + 4)
  have HR1 := Lib.hid (hR.setSrcCell hn (i := 4) (by omega) (srcCell_muted (R.src n) true) (hR.rows n hn))
  have HM0 : Hid (mute R n true = ((subs (R.setSrc n { R.src n with muted := true }) n).flatMap (muteTurns (R.setSrc n { R.src n with muted := true }) n true), R.setSrc n { R.src n with muted := true })) := rfl
  clear s0 s1 s2 s3
  generalize R.setSrc n { R.src n with muted := true } = R1 at *
  have CS := Lib.hid (Subs_any b R1 n _ HR1.out)
  have HM : Hid (∀ j, j < (subs R1 n).length → (subs R1 n).getD j 0 < 9) := fun j h => subs_mem h
  have HL := subs_len R1 n
  have HT : Hid (∀ k, k < (subs R1 n).length → ((subs R1 n).take (k + 1)).flatMap (muteTurns R1 n true) = ((subs R1 n).take k).flatMap (muteTurns R1 n true) ++ [⟨6, (subs R1 n).getD k 0, n, 0, 0⟩]) := fun k h => flat_snoc _ h
  have HTL : Hid (∀ k, (((subs R1 n).take k).flatMap (muteTurns R1 n true)).length ≤ 2 * ((subs R1 n).take k).length) := fun k => muteAll_len _ _ _ _
  clear hR
  generalize subs R1 n = L at *
  generalize muteTurns R1 n true = f at *
  go_enter Tryd.func58, Tryd.ntmps58
  go_wp2_with fail
  refine CS.out.mono ?_
  rintro e w1 ⟨⟨lv, rfl, hrow⟩, hb1⟩
  have HROW := Lib.hid hrow
  have HB := Lib.hid hb1
  have hsz : w.heap.size ≤ w1.heap.size := by have := hb1.size; rw [size_setCell] at this; exact this
  have HFR0 : Hid (Fr w.heap.size (· = b) w w1) := ((Fr.refl w.heap.size (· = b) w).setAt _ _).trans ((Fr.of_below _ hb1).mono (by rw [size_setCell]; exact Nat.le_refl _) (fun _ _ h => h))
  have HROOM0 := Lib.hid (HR1.out.below hb1)
  clear hb1 HB
  rcases Nat.eq_zero_or_pos L.length with h0 | h0
  · obtain ⟨la, lcap, rfl, hx⟩ := hrow
    clear hx
    have HLE : Hid (L = []) := List.eq_nil_of_length_eq_zero h0
    go_wp2_with fail
    go_loopw [7, 22] (fun v i w' => v = .slice none 0 0 ∧ i = .int .i64 0 ∧ w' = w1) (fun _ _ _ => 0)
    case atStart => exact ⟨rfl, rfl, rfl⟩
    case round =>
      obtain ⟨rfl, rfl, rfl⟩ := hrel
      go_wp2
      go_ret
      rw [HM0.out, HLE.out]
      exact ⟨⟨_, rfl, Row.nil _ _⟩, HROOM0.out, HFR0.out⟩
  · obtain ⟨g, off, cap, rfl, hg, hcells⟩ := int_open hrow h0
    have HC := Lib.hid hcells
    clear hrow hcells
    go_wp2_with fail
    go_loopw [7, 22] (fun v i w' => ∃ k : Nat, k ≤ L.length ∧ i = .int .i64 k ∧ Fr w.heap.size (· = b) w w' ∧ Row w' 3 (.slice (some ⟨g, off, none⟩) L.length cap) L.length (ints L) ∧ RoomAt w' b R1 ∧ w'.ownsRow w.heap.size 59 5 v ((L.take k).flatMap f).length (((L.take k).flatMap f).flatMap turnCells)) (fun _ i _ => L.length - (intOf i).toNat)
    case atStart => exact ⟨0, by omega, rfl, HFR0.out, HROW.out, HROOM0.out, World.ownsRow_nil _ _ _ _⟩
    case round =>
      obtain ⟨k, hk, rfl, hfr, hrow, hroom, hown⟩ := hrel
      have HFR := Lib.hid hfr
      have HROW2 := Lib.hid hrow
      have HROOM := Lib.hid hroom
      have HOWN := Lib.hid hown
      clear hfr hown hroom
      by_cases hkl : k < L.length
      · obtain ⟨g', off', cap', e1, hg', hcells⟩ := int_open hrow h0
        cases e1
        have hc := hcells k hkl
        have hp := HM.out k hkl
        have HS := Lib.hid (HT.out k hkl)
        have HGL := HTL.out k
        rw [List.length_take] at HGL
        clear hcells hrow
        generalize L.getD k 0 = p at *
        generalize (L.take k).flatMap f = G at *
        go_wp2_with (at_builtin; refine wpList_app rfl (.tmp 27) (.tmp 31) 33 rfl w.heap.size elemTurn _ G.length (G.flatMap turnCells) rfl ?a1 _ 1 ([⟨6, p, n, 0, 0⟩].flatMap turnCells) rfl ?a2 rfl ?a4 ?a5 ?a6 ?a7 (fun v' w3 HO HG => ?_))
        case a1 => exact HOWN.out.alloc _
        case a2 => exact row_new' _ _ 1 _ ([⟨6, p, n, 0, 0⟩].flatMap turnCells) (by decide) rfl
        case a4 => exact turns_one _
        case a5 => omega
        case a6 => omega
        case a7 => have h1 := HFR.out.size; simp; omega
        go_roundw
        case rel =>
          have h1 := HFR.out.size
          have hown2 := HOWN.out.alloc (.cells ([⟨6, p, n, 0, 0⟩].flatMap turnCells).toArray 59)
          have hbl := below_alloc wr (.cells ([⟨6, p, n, 0, 0⟩].flatMap turnCells).toArray 59)
          refine ⟨k + 1, by omega, by go_num, ?_, ?_, ?_, ?_⟩
          · exact (HFR.out.alloc (by omega) _).grown HG.out (by simp; omega) (own_le HOWN.out)
          · exact Row.grown (HROW2.out.below hbl) hown2 HG.out (by decide)
          · exact RoomAt.grown (HROOM.out.below hbl) hown2 HG.out hb (by decide)
          · rw [HS.out, List.length_append, List.flatMap_append]
            exact HO.out
        case measure => simp [intOf]; omega
      · have hkk : k = L.length := by omega
        have hT : L.take k = L := by rw [hkk, List.take_length]
        rw [hT] at HOWN
        clear hT hrow
        go_wp2
        go_ret
        rw [HM0.out]
        exact ⟨⟨_, rfl, Row.of_owns HOWN.out⟩, HROOM.out, HFR.out⟩
set_option maxHeartbeats 4000000 in
theorem mute_off (b : Nat) (R : Room) (n : Nat) (w : World) (hR : RoomAt w b R) (hn : n < 9) (hwant : ∀ p, p < 9 → (R.sub n p).there = true → 0 ≤ (R.sub n p).want ∧ (R.sub n p).want < (R.src n).ss.length) :
    Calls Tryd.prog 58 #[.pointer (some ⟨b, 0, none⟩), .int .i64 n, .bool false] w fun e w' => (∃ v, e = .returned v ∧ TurnRow w' v (mute R n false).1) ∧ RoomAt w' b (mute R n false).2 ∧ Fr w.heap.size (· = b) w w' := by
  have hb := hR.lt
  obtain ⟨s0, s1, s2, s3, s4⟩ := hR.srcc hn
  have f4 := hR.unfrozen (9 + n * 5 + 4)
  have HR1 := Lib.hid (hR.setSrcCell hn (i := 4) (by omega) (srcCell_muted (R.src n) false) (hR.rows n hn))
  have HM0 : Hid (mute R n false = ((subs (R.setSrc n { R.src n with muted := false }) n).flatMap (muteTurns (R.setSrc n { R.src n with muted := false }) n false), R.setSrc n { R.src n with muted := false })) := rfl
  have HW1 : Hid (∀ p, p < 9 → ((R.setSrc n { R.src n with muted := false }).sub n p).there = true → 0 ≤ ((R.setSrc n { R.src n with muted := false }).sub n p).want ∧ ((R.setSrc n { R.src n with muted := false }).sub n p).want < ((R.setSrc n { R.src n with muted := false }).src n).ss.length) := by
    intro p hp ht
    rw [src_setSrc]
    exact hwant p hp ht
  clear s0 s1 s2 s3 hwant
  generalize R.setSrc n { R.src n with muted := false } = R1 at *
  have CS := Lib.hid (Subs_any b R1 n _ HR1.out)
  have HM : Hid (∀ j, j < (subs R1 n).length → (subs R1 n).getD j 0 < 9 ∧ (R1.sub n ((subs R1 n).getD j 0)).there = true) := fun j h => subs_there hn h
  have HL := subs_len R1 n
  have HT : Hid (∀ k, k < (subs R1 n).length → ((subs R1 n).take (k + 1)).flatMap (muteTurns R1 n false) = ((subs R1 n).take k).flatMap (muteTurns R1 n false) ++ [⟨7, (subs R1 n).getD k 0, n, 0, 0⟩] ++ waits R1 ((subs R1 n).getD k 0) n) := fun k h => by rw [flat_snoc _ h, List.append_assoc]; rfl
  have HTL : Hid (∀ k, (((subs R1 n).take k).flatMap (muteTurns R1 n false)).length ≤ 2 * ((subs R1 n).take k).length) := fun k => muteAll_len _ _ _ _
  have HWL : Hid (∀ p, (waits R1 p n).length ≤ 1) := fun p => by unfold waits; split <;> simp
  clear hR
  generalize subs R1 n = L at *
  generalize muteTurns R1 n false = f at *
  go_enter Tryd.func58, Tryd.ntmps58
  go_wp2_with fail
  refine CS.out.mono ?_
  rintro e w1 ⟨⟨lv, rfl, hrow⟩, hb1⟩
  have HROW := Lib.hid hrow
  have HB := Lib.hid hb1
  have hsz : w.heap.size ≤ w1.heap.size := by have := hb1.size; rw [size_setCell] at this; exact this
  have HFR0 : Hid (Fr w.heap.size (· = b) w w1) := ((Fr.refl w.heap.size (· = b) w).setAt _ _).trans ((Fr.of_below _ hb1).mono (by rw [size_setCell]; exact Nat.le_refl _) (fun _ _ h => h))
  have HROOM0 := Lib.hid (HR1.out.below hb1)
  clear hb1 HB
  rcases Nat.eq_zero_or_pos L.length with h0 | h0
  · obtain ⟨la, lcap, rfl, hx⟩ := hrow
    clear hx
    have HLE : Hid (L = []) := List.eq_nil_of_length_eq_zero h0
    go_wp2_with fail
    go_loopw [7, 22] (fun v i w' => v = .slice none 0 0 ∧ i = .int .i64 0 ∧ w' = w1) (fun _ _ _ => 0)
    case atStart => exact ⟨rfl, rfl, rfl⟩
    case round =>
      obtain ⟨rfl, rfl, rfl⟩ := hrel
      go_wp2
      go_ret
      rw [HM0.out, HLE.out]
      exact ⟨⟨_, rfl, Row.nil _ _⟩, HROOM0.out, HFR0.out⟩
  · obtain ⟨g, off, cap, rfl, hg, hcells⟩ := int_open hrow h0
    have HC := Lib.hid hcells
    clear hrow hcells
    go_wp2_with fail
    go_loopw [7, 22] (fun v i w' => ∃ k : Nat, k ≤ L.length ∧ i = .int .i64 k ∧ Fr w.heap.size (· = b) w w' ∧ Row w' 3 (.slice (some ⟨g, off, none⟩) L.length cap) L.length (ints L) ∧ RoomAt w' b R1 ∧ w'.ownsRow w.heap.size 59 5 v ((L.take k).flatMap f).length (((L.take k).flatMap f).flatMap turnCells)) (fun _ i _ => L.length - (intOf i).toNat)
    case atStart => exact ⟨0, by omega, rfl, HFR0.out, HROW.out, HROOM0.out, World.ownsRow_nil _ _ _ _⟩
    case round =>
      obtain ⟨k, hk, rfl, hfr, hrow, hroom, hown⟩ := hrel
      have HFR := Lib.hid hfr
      have HROW2 := Lib.hid hrow
      have HROOM := Lib.hid hroom
      have HOWN := Lib.hid hown
      clear hfr hown hroom
      by_cases hkl : k < L.length
      · obtain ⟨g', off', cap', e1, hg', hcells⟩ := int_open hrow h0
        cases e1
        have hc := hcells k hkl
        have HP := Lib.hid (HM.out k hkl)
        have HS := Lib.hid (HT.out k hkl)
        have HGL := HTL.out k
        have HWLk := HWL.out (L.getD k 0)
        rw [List.length_take] at HGL
        clear hcells hrow
        generalize L.getD k 0 = p at *
        generalize (L.take k).flatMap f = G at *
        have h1 := HFR.out.size
        have CW : Hid (∀ w3, RoomAt w3 b R1 → Calls Tryd.prog 59 #[.pointer (some ⟨b, 0, none⟩), .int .i64 p, .int .i64 n] w3 fun e w' => (∃ v, e = .returned v ∧ TurnRow w' v (waits R1 p n)) ∧ Below w3.heap.size w3 w') := fun w3 h3 => waits_any b R1 p n w3 h3 hn HP.out.1 (HW1.out p HP.out.1 HP.out.2)
        have HO2 := Lib.hid (HOWN.out.alloc (.cells ([⟨7, p, n, 0, 0⟩].flatMap turnCells).toArray 59))
        have HBL := Lib.hid (below_alloc wr (.cells ([⟨7, p, n, 0, 0⟩].flatMap turnCells).toArray 59))
        generalize waits R1 p n = Wt at *
        go_wp2_with (first | (at_builtin; refine wpList_app rfl (.tmp 33) (.tmp 37) 33 rfl w.heap.size elemTurn _ G.length (G.flatMap turnCells) rfl ?a1 _ 1 ([⟨7, p, n, 0, 0⟩].flatMap turnCells) rfl ?a2 rfl ?a4 ?a5 ?a6 ?a7 (fun v' w3 HO HG => ?_)) | (go_at_call 59; refine (CW.out _ (RoomAt.grown (HROOM.out.below HBL.out) HO2.out HG.out hb (by decide))).mono ?_; rintro e w4 ⟨⟨tv, rfl, htr⟩, hb4⟩; have HTR := Lib.hid htr; have HB4 := Lib.hid hb4; clear htr hb4) | (at_builtin; refine wpList_app rfl (.tmp 39) (.tmp 43) 33 rfl w.heap.size elemTurn _ (G ++ [Turn.mk 7 p n 0 0]).length ((G ++ [Turn.mk 7 p n 0 0]).flatMap turnCells) rfl ?b1 _ Wt.length (Wt.flatMap turnCells) rfl ?b2 ?b3 ?b4 ?b5 ?b6 ?b7 (fun v' w5 HO5 HG5 => ?_)))
        case a1 => exact HOWN.out.alloc _
        case a2 => exact row_new' _ _ 1 _ ([⟨7, p, n, 0, 0⟩].flatMap turnCells) (by decide) rfl
        case a4 => exact turns_one _
        case a5 => omega
        case a6 => omega
        case a7 => simp; omega
        case b1 => rw [List.length_append, List.flatMap_append]; exact owns_below HO.out HB4.out
        case b2 => exact HTR.out
        case b3 => exact turns_len _
        case b4 => exact turns_one _
        case b5 => simp; omega
        case b6 => simp; omega
        case b7 => have h2 := HG.out.size; have h3 := HB4.out.size; simp at h2; omega
        go_roundw
        case rel =>
          have h2 := HG.out.size
          have h3 := HB4.out.size
          simp at h2
          have HO3 := owns_below HO.out HB4.out
          refine ⟨k + 1, by omega, by go_num, ?_, ?_, ?_, ?_⟩
          · have g1 := (HFR.out.alloc (by omega) _).grown HG.out (by simp; omega) (own_le HOWN.out)
            have g2 := g1.trans ((Fr.of_below _ HB4.out).mono (by omega) (fun _ _ h => h))
            exact g2.grown HG5.out (by omega) (own_le HO.out)
          · exact Row.grown ((Row.grown (HROW2.out.below HBL.out) HO2.out HG.out (by decide)).below HB4.out) HO3 HG5.out (by decide)
          · exact RoomAt.grown ((RoomAt.grown (HROOM.out.below HBL.out) HO2.out HG.out hb (by decide)).below HB4.out) HO3 HG5.out hb (by decide)
          · rw [HS.out, List.length_append, List.flatMap_append]
            exact HO5.out
        case measure => simp [intOf]; omega
      · have hkk : k = L.length := by omega
        have hT : L.take k = L := by rw [hkk, List.take_length]
        rw [hT] at HOWN
        clear hT hrow
        go_wp2
        go_ret
        rw [HM0.out]
        exact ⟨⟨_, rfl, Row.of_owns HOWN.out⟩, HROOM.out, HFR.out⟩
end Go.Proofs.Rm
namespace Go.Proofs.Rm
open Go.RowKit Go.Proofs.Heap Go.Proofs.Mem
theorem owns_new (w : World) (e : TypeId) (size n m : Nat) (xs : List Value) (hl : xs.length = n * size) (hn : n ≤ maxLen) (hm : m = w.heap.size) : (w.alloc (.cells xs.toArray e)).ownsRow m e size (.slice (some ⟨m, 0, none⟩) n n) n xs := by
  subst hm
  exact ⟨hl, .inr ⟨w.heap.size, n, xs.toArray, rfl, Nat.le_refl _, (by show (w.heap.push _)[w.heap.size]? = _; simp), Nat.le_refl _, hn, by simp [hl], by rw [List.take_of_length_le (by simp [hl])]⟩⟩
theorem RoomAt.alloc {w : World} {b : Nat} {R : Room} (h : RoomAt w b R) (o : Obj) : RoomAt (w.alloc o) b R := h.below (below_alloc _ _)
theorem RoomAt.drew {w : World} {b : Nat} {R : Room} (h : RoomAt w b R) : RoomAt w.drew b R := h.below (Below.refl _ _).drew
theorem RoomAt.drewN {w : World} {b : Nat} {R : Room} (h : RoomAt w b R) (q : Nat) : RoomAt (w.drewN q) b R := h.below (below_drewN (Below.refl _ _) q)
theorem owns_drew {base : Nat} {e : TypeId} {size : Nat} {v : Value} {n : Nat} {xs : List Value} {w : World} (h : w.ownsRow base e size v n xs) : w.drew.ownsRow base e size v n xs := owns_below h (Below.refl _ _).drew
theorem Row.drew {w : World} {e : TypeId} {v : Value} {n : Nat} {xs : List Value} (h : Row w e v n xs) : Row w.drew e v n xs := h.below (Below.refl _ _).drew
theorem Fr.drewN {B : Nat} {S : Nat → Prop} {a w : World} (h : Fr B S a w) (q : Nat) : Fr B S a (w.drewN q) := h.trans (Fr.of_below S (below_drewN (Below.refl _ _) q))
set_option maxHeartbeats 2000000 in
theorem begin_any (b : Nat) (R : Room) (o : Op) (sa ba : Option Addr) (sl sc bl bc : Nat) (w : World) (hR : RoomAt w b R) (hs : 1 ≤ o.source ∧ o.source < 9) (hp : 1 ≤ o.peer ∧ o.peer < 9) (hq : 0 ≤ o.layer ∧ o.layer < (R.src o.source.toNat).ss.length) :
    Calls Tryd.prog 56 #[.pointer (some ⟨b, 0, none⟩), .agg #[.int .i64 o.kind, .int .i64 o.peer, .int .i64 o.source, .int .i64 o.layer, .string (str o.name), .slice sa sl sc, .slice ba bl bc]] w fun e w' => (∃ v, e = .returned v ∧ TurnRow w' v (begin R o).1) ∧ RoomAt w' b (begin R o).2 ∧ Fr w.heap.size (· = b) w w' := by
  have hb := hR.lt
  obtain ⟨k, p, n, q, nm, ss⟩ := o
  obtain ⟨n, rfl⟩ := Int.eq_ofNat_of_zero_le (show 0 ≤ n by have := hs.1; dsimp only at this; omega)
  obtain ⟨p, rfl⟩ := Int.eq_ofNat_of_zero_le (show 0 ≤ p by have := hp.1; dsimp only at this; omega)
  dsimp only at hs hp hq ⊢
  rw [Int.toNat_natCast] at hq
  have hn : n < 9 := by omega
  have hp9 : p < 9 := by omega
  obtain ⟨c0, c1, c2⟩ := hR.subc hn hp9
  obtain ⟨s0, s1, s2, s3, s4⟩ := hR.srcc hn
  have f0 := hR.unfrozen (54 + n * 27 + p * 3)
  have f1 := hR.unfrozen (54 + n * 27 + p * 3 + 1)
  have f2 := hR.unfrozen (54 + n * 27 + p * 3 + 2)
  clear s0 s1 s2 s3 s4
  have HR1 := Lib.hid (hR.setSub hn hp9 ⟨true, false, q⟩)
  have hb1 := HR1.out.lt
  obtain ⟨s0, s1, s2, s3, s4⟩ := HR1.out.srcc hn
  have HB0 : Hid (begin R ⟨k, p, n, q, nm, ss⟩ = (⟨1, p, n, q, 0⟩ :: (if (R.src n).muted then [⟨6, p, n, 0, 0⟩] else [asks (R.setSub n p ⟨true, false, q⟩) p n]), R.setSub n p ⟨true, false, q⟩)) := rfl
  have CA : Hid (∀ w1, RoomAt w1 b (R.setSub n p ⟨true, false, q⟩) → Calls Tryd.prog 75 #[.pointer (some ⟨b, 0, none⟩), .int .i64 p, .int .i64 n] w1 fun e w' => e = .returned (turnAgg (asks (R.setSub n p ⟨true, false, q⟩) p n)) ∧ Below w1.heap.size w1 w') :=
    fun w1 h => asks_any b _ p n w1 h hn hp9 (by rw [sub_setSub]; exact hq)
  have HFR : Hid (Fr w.heap.size (· = b) w (((w.setCell ⟨b, 54 + n * 27 + p * 3, none⟩ (.bool true)).setCell ⟨b, 54 + n * 27 + p * 3 + 1, none⟩ (.bool false)).setCell ⟨b, 54 + n * 27 + p * 3 + 2, none⟩ (.int .i64 q))) := (((Fr.refl _ _ _).setAt _ _).setAt _ _).setAt _ _
  have HOWN : Hid (∀ W : World, W.heap.size = w.heap.size → ∀ box : Obj, ((W.alloc box).alloc (.cells ([Turn.mk 1 p n q 0].flatMap turnCells).toArray 59)).ownsRow (w.heap.size + 1) 59 5 (.slice (some ⟨w.heap.size + 1, 0, none⟩) 1 1) 1 ([Turn.mk 1 p n q 0].flatMap turnCells)) := fun W hW box => owns_new _ _ 5 1 _ _ rfl (by decide) (by simp [hW])
  have hmu : ((R.setSub n p ⟨true, false, q⟩).src n).muted = (R.src n).muted := rfl
  rw [hmu] at s4
  clear s0 s1 s2 s3 hmu hR hq
  unfold turnAgg at CA
  generalize asks (R.setSub n p ⟨true, false, q⟩) p n = A at *
  generalize R.setSub n p ⟨true, false, q⟩ = R1 at *
  obtain ⟨a1, a2, a3, a4, a5⟩ := A
  dsimp only at *
  cases hm : (R.src n).muted
  · rw [hm] at s4
    have HF : Hid (begin R ⟨k, p, n, q, nm, ss⟩ = ([⟨1, p, n, q, 0⟩, ⟨a1, a2, a3, a4, a5⟩], R1)) := by show _ = _; rw [HB0.out, hm]; rfl
    clear hm
    go_enter Tryd.func56, Tryd.ntmps56
    go_wp2
    go_region
    go_wp2
    go_region
    go_wp2_with (first | (go_at_call 75; refine (CA.out _ (by repeat (first | exact HR1.out | refine RoomAt.drew ?_ | refine RoomAt.alloc ?_ _))).mono ?_; rintro e w2 ⟨rfl, hb2⟩; have HB2 := Lib.hid hb2; clear hb2) | (at_builtin; refine wpList_app rfl (.tmp 43) (.tmp 50) 33 rfl (w.heap.size + 1) elemTurn _ 1 ([⟨1, p, n, q, 0⟩].flatMap turnCells) rfl ?a1 _ 1 ([⟨a1, a2, a3, a4, a5⟩].flatMap turnCells) rfl ?a2 rfl ?a4 ?a5 ?a6 ?a7 (fun v' w3 HO HG => ?_)))
    case a1 => exact (owns_below (owns_drew (owns_drew (owns_new _ _ 5 1 (w.heap.size + 1) ([⟨1, p, n, q, 0⟩].flatMap turnCells) rfl (by decide) (by simp)))) HB2.out).alloc _
    case a2 => exact row_new' _ _ 1 _ ([⟨a1, a2, a3, a4, a5⟩].flatMap turnCells) (by decide) rfl
    case a4 => exact turns_one _
    case a5 => omega
    case a6 => omega
    case a7 => have h2 := HB2.out.size; simp at h2 ⊢; omega
    go_ret
    rw [HF.out]
    have h2 := HB2.out.size
    simp at h2
    have hown := (owns_below (owns_drew (owns_drew (owns_new _ 59 5 1 (w.heap.size + 1) ([⟨1, p, n, q, 0⟩].flatMap turnCells) rfl (by decide) (by simp)))) HB2.out).alloc (.cells #[.int .i64 a1, .int .i64 a2, .int .i64 a3, .int .i64 a4, .int .u32 a5] 59)
    refine ⟨⟨_, rfl, Row.of_owns HO.out⟩, ?_, ?_⟩
    · exact RoomAt.grown (RoomAt.alloc (RoomAt.below (by repeat (first | exact HR1.out | refine RoomAt.drew ?_ | refine RoomAt.alloc ?_ _)) HB2.out) _) hown HG.out (by omega) (by decide)
    · refine Fr.grown (Fr.alloc (Fr.trans ?_ ((Fr.of_below _ HB2.out).mono (B' := w.heap.size) (by simp; omega) (fun _ _ h => h))) (by omega) _) HG.out (by simp; omega) (fun k hk => by have := own_le hown k hk; omega)
      exact (((HFR.out.alloc (by simp) _).alloc (by simp) _).drew).drew
  · rw [hm] at s4
    have HF : Hid (begin R ⟨k, p, n, q, nm, ss⟩ = ([⟨1, p, n, q, 0⟩, ⟨6, p, n, 0, 0⟩], R1)) := by show _ = _; rw [HB0.out, hm]; rfl
    clear hm
    go_enter Tryd.func56, Tryd.ntmps56
    go_wp2
    go_region
    go_wp2
    go_region
    go_wp2_with (at_builtin; refine wpList_app rfl (.tmp 35) (.tmp 41) 33 rfl (w.heap.size + 1) elemTurn _ 1 ([⟨1, p, n, q, 0⟩].flatMap turnCells) rfl ?a1 _ 1 ([⟨6, p, n, 0, 0⟩].flatMap turnCells) rfl ?a2 rfl ?a4 ?a5 ?a6 ?a7 (fun v' w3 HO HG => ?_))
    case a1 => exact owns_drew (owns_drew ((HOWN.out _ (by simp) _).alloc _))
    case a2 => exact Row.drew (Row.drew (row_new' _ _ 1 _ ([⟨6, p, n, 0, 0⟩].flatMap turnCells) (by decide) (by simp)))
    case a4 => exact turns_one _
    case a5 => omega
    case a6 => omega
    case a7 => simp
    go_ret
    rw [HF.out]
    refine ⟨⟨_, rfl, Row.of_owns HO.out⟩, ?_, ?_⟩
    · exact RoomAt.grown (by repeat (first | exact HR1.out | refine RoomAt.drew ?_ | refine RoomAt.alloc ?_ _)) (by exact owns_drew (owns_drew ((HOWN.out _ (by simp) _).alloc _))) HG.out (by omega : b < w.heap.size + 1) (by decide)
    · refine Fr.grown ?_ HG.out (by simp; omega) (fun k hk => by have hk : some (w.heap.size + 1) = some k := hk; cases hk; omega)
      exact ((((HFR.out.alloc (by simp) _).alloc (by simp) _).alloc (by simp; omega) _).drew).drew
end Go.Proofs.Rm
namespace Go.Proofs.Rm
open Go.RowKit Go.Proofs.Heap Go.Proofs.Mem
/-- What 'turns' leaves. -/
def TurnsPost (b : Nat) (R : Room) (o : Op) (w : World) (e : Ending) (w' : World) : Prop :=
  ∃ v sv, e = .returned v ∧ TurnRow w' v (turns R o sv).1 ∧ RoomAt w' b (turns R o sv).2 ∧ Fr w.heap.size (· = b) w w'
theorem turnsPost_mk {b : Nat} {R R' : Room} {o : Op} {w w' : World} {v sv : Value} {l : List Turn} (h : Hid (turns R o sv = (l, R'))) (h1 : TurnRow w' v l) (h2 : RoomAt w' b R') (h3 : Fr w.heap.size (· = b) w w') : TurnsPost b R o w (.returned v) w' :=
  ⟨v, sv, rfl, by rw [h.out]; exact h1, by rw [h.out]; exact h2, h3⟩
theorem turnsPost_of {b : Nat} {R : Room} {o : Op} {w w1 w' : World} {v sv : Value} {x : List Turn × Room} (h : Hid (turns R o sv = x)) (h1 : TurnRow w' v x.1) (h2 : RoomAt w' b x.2) (hw : Below w.heap.size w w1) (h3 : Fr w1.heap.size (· = b) w1 w') : TurnsPost b R o w (.returned v) w' :=
  ⟨v, sv, rfl, by rw [h.out]; exact h1, by rw [h.out]; exact h2, (Fr.of_below _ hw).trans (h3.mono hw.size (fun _ _ h => h))⟩
theorem subCell_paused (x : Sub) (on : Bool) : ∀ j, j < 3 → subCell { x with paused := on } j = if j = 1 then .bool on else subCell x j := by
  intro j hj
  have : j = 0 ∨ j = 1 ∨ j = 2 := by omega
  rcases this with rfl | rfl | rfl <;> rfl
theorem subCell_want (x : Sub) (q : Int) : ∀ j, j < 3 → subCell { x with want := q } j = if j = 2 then .int .i64 q else subCell x j := by
  intro j hj
  have : j = 0 ∨ j = 1 ∨ j = 2 := by omega
  rcases this with rfl | rfl | rfl <;> rfl
section
variable (b : Nat) (R : Room) (p n q : Int) (nm : List UInt8) (ss : List Int) (sa ba : Option Addr) (sl sc bl bc : Nat) (w : World) (hR : RoomAt w b R)
include hR
set_option maxHeartbeats 2000000 in
theorem turns_join (hp : 1 ≤ p ∧ p < 9) :
    Calls Tryd.prog 35 #[.pointer (some ⟨b, 0, none⟩), .agg #[.int .i64 2, .int .i64 p, .int .i64 n, .int .i64 q, .string (str nm), .slice sa sl sc, .slice ba bl bc]] w (TurnsPost b R ⟨2, p, n, q, nm, ss⟩ w) := by
  obtain ⟨p, rfl⟩ := Int.eq_ofNat_of_zero_le (show 0 ≤ p by omega)
  have hp9 : p < 9 := by omega
  have hb := hR.lt
  have c0 := hR.namec hp9
  have f0 := hR.unfrozen p
  have HF : Hid (turns R ⟨2, p, n, q, nm, ss⟩ (.slice none 0 0) = ([], R.setName p nm)) := rfl
  have HR1 := Lib.hid (hR.setName hp9 nm)
  have HFR : Hid (Fr w.heap.size (· = b) w (w.setCell ⟨b, p, none⟩ (.string (str nm)))) := (Fr.refl _ _ _).setAt _ _
  clear hR
  go_enter Tryd.func35, Tryd.ntmps35
  go_wp2
  go_region
  go_wp2
  go_ret
  exact turnsPost_mk HF (Row.nil _ _) (by repeat (first | exact HR1.out | refine RoomAt.drew ?_ | refine RoomAt.alloc ?_ _)) (by repeat (first | exact HFR.out | refine Fr.drew ?_ | refine Fr.alloc ?_ (by simp <;> omega) _))
set_option maxHeartbeats 2000000 in
theorem turns_leave (hp : 1 ≤ p ∧ p < 9) :
    Calls Tryd.prog 35 #[.pointer (some ⟨b, 0, none⟩), .agg #[.int .i64 3, .int .i64 p, .int .i64 n, .int .i64 q, .string (str nm), .slice sa sl sc, .slice ba bl bc]] w (TurnsPost b R ⟨3, p, n, q, nm, ss⟩ w) := by
  obtain ⟨p, rfl⟩ := Int.eq_ofNat_of_zero_le (show 0 ≤ p by omega)
  have hp9 : p < 9 := by omega
  have hb := hR.lt
  have HF : Hid (turns R ⟨3, p, n, q, nm, ss⟩ (.slice none 0 0) = leave R p) := rfl
  have C := Lib.hid (fun (w1 : World) (h : Below w.heap.size w w1) => leave_any b R p w1 (hR.below h) hp9)
  clear hR
  go_enter Tryd.func35, Tryd.ntmps35
  go_wp2_with (go_at_call 55; refine (C.out _ (by repeat (first | exact Below.refl _ _ | refine Below.drew ?_ | refine Below.alloc ?_ (by simp) _))).mono ?_; rintro e w1 ⟨⟨tv, rfl, htr⟩, hroom, hfr⟩)
  go_ret
  exact turnsPost_of HF htr hroom (by repeat (first | exact Below.refl _ _ | refine Below.drew ?_ | refine Below.alloc ?_ (by simp) _)) hfr
set_option maxHeartbeats 2000000 in
theorem turns_unpublish (hn : 1 ≤ n ∧ n < 9) :
    Calls Tryd.prog 35 #[.pointer (some ⟨b, 0, none⟩), .agg #[.int .i64 5, .int .i64 p, .int .i64 n, .int .i64 q, .string (str nm), .slice sa sl sc, .slice ba bl bc]] w (TurnsPost b R ⟨5, p, n, q, nm, ss⟩ w) := by
  obtain ⟨n, rfl⟩ := Int.eq_ofNat_of_zero_le (show 0 ≤ n by omega)
  have hn9 : n < 9 := by omega
  have hb := hR.lt
  have HF : Hid (turns R ⟨5, p, n, q, nm, ss⟩ (.slice none 0 0) = gone R n) := rfl
  have C := Lib.hid (fun (w1 : World) (h : Below w.heap.size w w1) => gone_any b R n w1 (hR.below h) hn9)
  clear hR
  go_enter Tryd.func35, Tryd.ntmps35
  go_wp2_with (go_at_call 50; refine (C.out _ (by repeat (first | exact Below.refl _ _ | refine Below.drew ?_ | refine Below.alloc ?_ (by simp) _))).mono ?_; rintro e w1 ⟨⟨tv, rfl, htr⟩, hroom, hfr⟩)
  go_ret
  exact turnsPost_of HF htr hroom (by repeat (first | exact Below.refl _ _ | refine Below.drew ?_ | refine Below.alloc ?_ (by simp) _)) hfr
set_option maxHeartbeats 2000000 in
theorem turns_subscribe (hp : 1 ≤ p ∧ p < 9) (hn : 1 ≤ n ∧ n < 9) (hq : 0 ≤ q ∧ q < (R.src n.toNat).ss.length) :
    Calls Tryd.prog 35 #[.pointer (some ⟨b, 0, none⟩), .agg #[.int .i64 6, .int .i64 p, .int .i64 n, .int .i64 q, .string (str nm), .slice sa sl sc, .slice ba bl bc]] w (TurnsPost b R ⟨6, p, n, q, nm, ss⟩ w) := by
  have hb := hR.lt
  have HF : Hid (turns R ⟨6, p, n, q, nm, ss⟩ (.slice none 0 0) = begin R ⟨6, p, n, q, nm, ss⟩) := rfl
  have C := Lib.hid (fun (w1 : World) (h : Below w.heap.size w w1) => begin_any b R ⟨6, p, n, q, nm, ss⟩ sa ba sl sc bl bc w1 (hR.below h) hn hp hq)
  clear hR
  go_enter Tryd.func35, Tryd.ntmps35
  go_wp2_with (go_at_call 56; refine (C.out _ (by repeat (first | exact Below.refl _ _ | refine Below.drew ?_ | refine Below.alloc ?_ (by simp) _))).mono ?_; rintro e w1 ⟨⟨tv, rfl, htr⟩, hroom, hfr⟩)
  go_ret
  exact turnsPost_of HF htr hroom (by repeat (first | exact Below.refl _ _ | refine Below.drew ?_ | refine Below.alloc ?_ (by simp) _)) hfr
set_option maxHeartbeats 2000000 in
theorem turns_mute (hn : 1 ≤ n ∧ n < 9) :
    Calls Tryd.prog 35 #[.pointer (some ⟨b, 0, none⟩), .agg #[.int .i64 8, .int .i64 p, .int .i64 n, .int .i64 q, .string (str nm), .slice sa sl sc, .slice ba bl bc]] w (TurnsPost b R ⟨8, p, n, q, nm, ss⟩ w) := by
  obtain ⟨n, rfl⟩ := Int.eq_ofNat_of_zero_le (show 0 ≤ n by omega)
  have hn9 : n < 9 := by omega
  have hb := hR.lt
  have HF : Hid (turns R ⟨8, p, n, q, nm, ss⟩ (.slice none 0 0) = mute R n true) := rfl
  have C := Lib.hid (fun (w1 : World) (h : Below w.heap.size w w1) => mute_on b R n w1 (hR.below h) hn9)
  clear hR
  go_enter Tryd.func35, Tryd.ntmps35
  go_wp2_with (go_at_call 58; refine (C.out _ (by repeat (first | exact Below.refl _ _ | refine Below.drew ?_ | refine Below.alloc ?_ (by simp) _))).mono ?_; rintro e w1 ⟨⟨tv, rfl, htr⟩, hroom, hfr⟩)
  go_ret
  exact turnsPost_of HF htr hroom (by repeat (first | exact Below.refl _ _ | refine Below.drew ?_ | refine Below.alloc ?_ (by simp) _)) hfr
set_option maxHeartbeats 2000000 in
theorem turns_unmute (hn : 1 ≤ n ∧ n < 9) (hw : ∀ p, p < 9 → (R.sub n.toNat p).there = true → 0 ≤ (R.sub n.toNat p).want ∧ (R.sub n.toNat p).want < (R.src n.toNat).ss.length) :
    Calls Tryd.prog 35 #[.pointer (some ⟨b, 0, none⟩), .agg #[.int .i64 9, .int .i64 p, .int .i64 n, .int .i64 q, .string (str nm), .slice sa sl sc, .slice ba bl bc]] w (TurnsPost b R ⟨9, p, n, q, nm, ss⟩ w) := by
  obtain ⟨n, rfl⟩ := Int.eq_ofNat_of_zero_le (show 0 ≤ n by omega)
  have hn9 : n < 9 := by omega
  have hb := hR.lt
  have HF : Hid (turns R ⟨9, p, n, q, nm, ss⟩ (.slice none 0 0) = mute R n false) := rfl
  have C := Lib.hid (fun (w1 : World) (h : Below w.heap.size w w1) => mute_off b R n w1 (hR.below h) hn9 hw)
  clear hR
  go_enter Tryd.func35, Tryd.ntmps35
  go_wp2_with (go_at_call 58; refine (C.out _ (by repeat (first | exact Below.refl _ _ | refine Below.drew ?_ | refine Below.alloc ?_ (by simp) _))).mono ?_; rintro e w1 ⟨⟨tv, rfl, htr⟩, hroom, hfr⟩)
  go_ret
  exact turnsPost_of HF htr hroom (by repeat (first | exact Below.refl _ _ | refine Below.drew ?_ | refine Below.alloc ?_ (by simp) _)) hfr
set_option maxHeartbeats 2000000 in
theorem turns_unsubscribe (hp : 1 ≤ p ∧ p < 9) (hn : 1 ≤ n ∧ n < 9) :
    Calls Tryd.prog 35 #[.pointer (some ⟨b, 0, none⟩), .agg #[.int .i64 7, .int .i64 p, .int .i64 n, .int .i64 q, .string (str nm), .slice sa sl sc, .slice ba bl bc]] w (TurnsPost b R ⟨7, p, n, q, nm, ss⟩ w) := by
  obtain ⟨p, rfl⟩ := Int.eq_ofNat_of_zero_le (show 0 ≤ p by omega)
  have hp9 : p < 9 := by omega
  obtain ⟨n, rfl⟩ := Int.eq_ofNat_of_zero_le (show 0 ≤ n by omega)
  have hn9 : n < 9 := by omega
  have hb := hR.lt
  have HF : Hid (turns R ⟨7, p, n, q, nm, ss⟩ (.slice none 0 0) = ([⟨2, p, n, 0, 0⟩], R.setSub n p noSub)) := rfl
  have C := Lib.hid (fun (w1 : World) (h : Below w.heap.size w w1) => end_any b R p n w1 (hR.below h) hn9 hp9)
  clear hR
  go_enter Tryd.func35, Tryd.ntmps35
  go_wp2_with (go_at_call 57; refine (C.out _ (by repeat (first | exact Below.refl _ _ | refine Below.drew ?_ | refine Below.alloc ?_ (by simp) _))).mono ?_; rintro e w1 ⟨rfl, hroom, hfr⟩; have HROOM := Lib.hid hroom; have HFR := Lib.hid hfr; clear hroom hfr)
  have hz := HFR.out.size
  go_ret
  refine turnsPost_of HF (row_new' _ _ 1 _ ([⟨2, p, n, 0, 0⟩].flatMap turnCells) (by decide) (by simp)) (HROOM.out.alloc _) (by repeat (first | exact Below.refl _ _ | refine Below.drew ?_ | refine Below.alloc ?_ (by simp) _)) (HFR.out.alloc hz _)
set_option maxHeartbeats 2000000 in
theorem turns_pause (hp : 1 ≤ p ∧ p < 9) (hn : 1 ≤ n ∧ n < 9) :
    Calls Tryd.prog 35 #[.pointer (some ⟨b, 0, none⟩), .agg #[.int .i64 10, .int .i64 p, .int .i64 n, .int .i64 q, .string (str nm), .slice sa sl sc, .slice ba bl bc]] w (TurnsPost b R ⟨10, p, n, q, nm, ss⟩ w) := by
  obtain ⟨p, rfl⟩ := Int.eq_ofNat_of_zero_le (show 0 ≤ p by omega)
  have hp9 : p < 9 := by omega
  obtain ⟨n, rfl⟩ := Int.eq_ofNat_of_zero_le (show 0 ≤ n by omega)
  have hn9 : n < 9 := by omega
  have hb := hR.lt
  obtain ⟨c0, c1, c2⟩ := hR.subc hn9 hp9
  have f1 := hR.unfrozen (54 + n * 27 + p * 3 + 1)
  have HF : Hid (turns R ⟨10, p, n, q, nm, ss⟩ (.slice none 0 0) = ([⟨4, p, n, 0, 0⟩], R.setSub n p { R.sub n p with paused := true })) := rfl
  have HR1 := Lib.hid (hR.setSubCell hn9 hp9 (i := 1) (by omega) (x := { R.sub n p with paused := true }) (v := .bool true) (subCell_paused _ _))
  have HFR : Hid (Fr w.heap.size (· = b) w (w.setCell ⟨b, 54 + n * 27 + p * 3 + 1, none⟩ (.bool true))) := (Fr.refl _ _ _).setAt _ _
  clear hR
  go_enter Tryd.func35, Tryd.ntmps35
  go_wp2
  go_region
  go_wp2
  go_ret
  exact turnsPost_mk HF (by first | exact Row.drew (row_new' _ _ 1 _ ([⟨4, p, n, 0, 0⟩].flatMap turnCells) (by decide) (by simp)) | exact row_new' _ _ 1 _ ([⟨4, p, n, 0, 0⟩].flatMap turnCells) (by decide) (by simp [size_setCell])) (by repeat (first | exact HR1.out | refine RoomAt.drew ?_ | refine RoomAt.alloc ?_ _)) (by repeat (first | exact HFR.out | refine Fr.drew ?_ | refine Fr.alloc ?_ (by simp <;> omega) _))
end
end Go.Proofs.Rm
namespace Go.Proofs.Heap
open Go Go.RowKit
section
variable {P : Program}
theorem run_app {w : World} (t ty : TypeId) (base : Nat) {e : TypeId} {size bytes : Nat} (E : Elem P t e size bytes) (v : Value) (n : Nat) (xs : List Value) (hown : w.ownsRow base e size v n xs)
    (vx : Value) (m : Nat) (news : List Value) (hrow : Row w e vx m news) (hl : news.length = m * size) (h1 : ∀ u ∈ news, u.oneCell' = true)
    (hbytes : (n + m) * bytes ≤ 140737488355328) (h63 : n + m ≤ 9223372036854775807) (hbase : base ≤ w.heap.size) :
    ∃ v' w', (Builtin.append_ #[t, t] ty #[v, vx]).run P w = .ok v' w' ∧ w'.ownsRow base e size v' (n + m) (xs ++ news) ∧ w.grownBy w' v.ownBlock := by
  obtain ⟨z, hinfo, hzs⟩ := E.info
  obtain ⟨i, hi, hz, hsize, hby⟩ := info_parts hinfo
  obtain ⟨ad, cap, hv, _, _, h0, hr⟩ := hrow
  subst hv
  have h63' : n + m ≤ maxLen := by unfold maxLen; omega
  cases ad with
  | none =>
    obtain ⟨rfl, rfl⟩ := h0 rfl
    have : news = [] := List.eq_nil_of_length_eq_zero (by rw [hl, Nat.zero_mul])
    subst this
    refine ⟨v, w, run_append_owned_none (P := P) (w := w) base t ty e i size E.ht hi v n xs hown, ?_, ⟨rfl, rfl, rfl, Nat.le_refl _, fun _ _ _ => rfl⟩⟩
    rw [List.append_nil]; exact hown
  | some ad =>
    obtain ⟨v', w', hrun, h2, h3, _⟩ := run_append_own w base t ty e i z size bytes E.ht hi hz hsize hby hzs E.pos v n xs hown ad m cap news hl (by
      intro j u hu
      rcases hr with hr | ⟨b, off, c, fr, hab, hb, hc⟩
      · subst hr; simp at hu
      · cases hab
        have hj : j < news.length := (List.getElem?_eq_some_iff.1 hu).1
        have := hc j hj
        have hadd : (⟨b, off, none⟩ : Addr).add j = ⟨b, off + j, none⟩ := by unfold Addr.add; split <;> simp_all
        rw [hadd]
        simp only [World.cell?, hb]
        simpa [hu] using this) h1 h63' hbytes hbase
    exact ⟨v', w', hrun, h2, h3⟩
theorem step_app {ops : Array Oper} {o : Oper} {a : Act} {w : World} {K : Act → World → Prop} {Q : Exit → Act → World → Prop} {E' : Prop} (hgd : o.guard = none) (s x : Operand) (t : TypeId)
    (ho : o.op = .call { callee := .builtin .append, args := #[s, x], argTypes := #[t, t] })
    (base : Nat) {e : TypeId} {size bytes : Nat} (E : Elem P t e size bytes)
    (v : Value) (n : Nat) (xs : List Value) (hs : a.eval s = v) (hown : w.ownsRow base e size v n xs)
    (vx : Value) (m : Nat) (news : List Value) (hx : a.eval x = vx) (hrow : Row w e vx m news) (hl : news.length = m * size) (h1 : ∀ u ∈ news, u.oneCell' = true)
    (hbytes : (n + m) * bytes ≤ 140737488355328) (h63 : n + m ≤ 9223372036854775807) (hbase : base ≤ w.heap.size)
    (h : ∀ v' w', Hid (w'.ownsRow base e size v' (n + m) (xs ++ news)) → Hid (w.grownBy w' v.ownBlock) → K (a.put o.dst v') w') :
    if Region.wanted o (yielded ops a.tmps) = true then Oper.wp P o a w K Q else E' := by
  have hw : Region.wanted o (yielded ops a.tmps) = true := by simp [Region.wanted, hgd]
  rw [if_pos hw]
  obtain ⟨v', w', hrun, h2, h3⟩ := run_app (P := P) t o.type base E v n xs hown vx m news hrow hl h1 hbytes h63 hbase
  unfold Oper.wp
  simp [execOp, ho, resolve, invoke, builtin, hs, hx, hrun, Result.andThen]
  exact h v' w' h2 h3
end
end Go.Proofs.Heap
namespace Go.Proofs.Rm
open Go.RowKit Go.Proofs.Heap Go.Proofs.Mem
theorem cell_below {w w' : World} {a : Addr} {v : Value} (hb : Below w.heap.size w w') (h : w.cell? a = some v) : w'.cell? a = some v := (hb.cell (World.block_lt_of_cell? w _ h)).trans h
theorem cell_alloc {w : World} {a : Addr} {v : Value} (h : w.cell? a = some v) (o : Obj) : (w.alloc o).cell? a = some v := cell_below (below_alloc _ _) h
theorem cell_drew {w : World} {a : Addr} {v : Value} (h : w.cell? a = some v) : w.drew.cell? a = some v := h
theorem cell_alloc2 {w : World} {a : Addr} {v : Value} (h : w.drew.drew.cell? a = some v) (o : Obj) : (w.alloc o).drew.drew.cell? a = some v := cell_alloc (w := w) h o
theorem cell_alloc3 {w : World} {a : Addr} {v : Value} (h : w.drew.drew.drew.cell? a = some v) (o : Obj) : (w.alloc o).drew.drew.drew.cell? a = some v := cell_alloc (w := w) h o
theorem cell_grown {w w' : World} {row : Option Nat} {a : Addr} {v : Value} (hg : w.grownBy w' row) (h : w.cell? a = some v) (hne : ∀ k, row = some k → a.block < k) : w'.cell? a = some v :=
  (World.cell?_of_block (hg.block a.block (World.block_lt_of_cell? w _ h) (fun e => by have := hne _ e.symm; omega))).trans h
theorem cell_new2 {W : World} {m : Nat} (hm : W.heap.size = m) (A : Obj) (cs : Array Value) (e : TypeId) (j : Nat) : ((W.alloc A).alloc (.cells cs e)).cell? ⟨m + 1, j, none⟩ = cs[j]? := by
  subst hm
  have := (two_new W A (.cells cs e)).2
  simp only [World.cell?, this]
  rfl
theorem cell_new1 {W : World} {m : Nat} (hm : W.heap.size = m) (B : Obj) (cs : Array Value) (e : TypeId) (j : Nat) : ((W.alloc (.cells cs e)).alloc B).cell? ⟨m, j, none⟩ = cs[j]? := by
  subst hm
  have := (two_new W (.cells cs e) B).1
  simp only [World.cell?, this]
  rfl
/-- What a drawn region of turns keeps. -/
structure TX (b : Nat) (R1 : Room) (w w' : World) : Prop where
  room : RoomAt w' b R1
  fr : Fr w.heap.size (· = b) w w'
  size : w.heap.size + 1 < w'.heap.size
theorem TX.drew {b : Nat} {R1 : Room} {w w' : World} (h : TX b R1 w w') : TX b R1 w w'.drew := ⟨h.room.drew, h.fr.drew, h.size⟩
theorem TX.alloc {b : Nat} {R1 : Room} {w w' : World} (h : TX b R1 w w') (o : Obj) : TX b R1 w (w'.alloc o) := ⟨h.room.alloc o, h.fr.alloc (by have := h.size; omega) o, by have := h.size; simp; omega⟩
theorem TX.below {b : Nat} {R1 : Room} {w w1 w' : World} (h : TX b R1 w w1) (hb : Below w1.heap.size w1 w') : TX b R1 w w' :=
  ⟨h.room.below hb, h.fr.trans ((Fr.of_below _ hb).mono (by have := h.size; omega) (fun _ _ h => h)), by have := h.size; have := hb.size; omega⟩
theorem TX.alloc2 {b : Nat} {R1 : Room} {w w' : World} (h : TX b R1 w w'.drew.drew) (o : Obj) : TX b R1 w (w'.alloc o).drew.drew :=
  h.below ⟨rfl, rfl, rfl, by show w'.heap.size ≤ (w'.alloc o).heap.size; simp, fun k hk => Below.heap_alloc _ _ _ hk⟩
theorem TX.alloc3 {b : Nat} {R1 : Room} {w w' : World} (h : TX b R1 w w'.drew.drew.drew) (o : Obj) : TX b R1 w (w'.alloc o).drew.drew.drew :=
  h.below ⟨rfl, rfl, rfl, by show w'.heap.size ≤ (w'.alloc o).heap.size; simp, fun k hk => Below.heap_alloc _ _ _ hk⟩
theorem TX.grown {b : Nat} {R1 : Room} {w w1 w' : World} (h : TX b R1 w w1) (hb : b < w.heap.size) {base : Nat} {v : Value} {m : Nat} {ys : List Value} (ho : w1.ownsRow base 59 5 v m ys) (hg : w1.grownBy w' v.ownBlock) (hB : w.heap.size ≤ base) : TX b R1 w w' :=
  ⟨RoomAt.grown h.room ho hg (by omega) (by decide), h.fr.grown hg (by have := h.size; omega) (fun k hk => Nat.le_trans hB (own_le ho k hk)), by have := h.size; have := hg.size; omega⟩
theorem owns_newB (w : World) (e : TypeId) (size n m base : Nat) (xs : List Value) (hl : xs.length = n * size) (hn : n ≤ maxLen) (hm : m = w.heap.size) (hB : base ≤ m) : (w.alloc (.cells xs.toArray e)).ownsRow base e size (.slice (some ⟨m, 0, none⟩) n n) n xs := by
  subst hm
  exact ⟨hl, .inr ⟨w.heap.size, n, xs.toArray, rfl, hB, (by show (w.heap.push _)[w.heap.size]? = _; simp), Nat.le_refl _, hn, by simp [hl], by rw [List.take_of_length_le (by simp [hl])]⟩⟩
theorem TX.grownAll {b : Nat} {R1 : Room} {w w1 w' : World} (h : TX b R1 w w1) (hb : b < w.heap.size) {v : Value} {m : Nat} {ys : List Value} (ho : w1.ownsRow (w.heap.size + 2) 59 5 v m ys) (hg : Hid (w1.grownBy w' v.ownBlock)) :
    TX b R1 w w' ∧ ∀ a u, a.block ≤ w.heap.size + 1 → w1.cell? a = some u → w'.cell? a = some u :=
  ⟨h.grown hb ho hg.out (by omega), fun a u ha hu => cell_grown hg.out hu (fun k hk => by have := own_le ho k hk; omega)⟩
end Go.Proofs.Rm
namespace Go.Proofs.Rm
open Go.RowKit Go.Proofs.Heap Go.Proofs.Mem
theorem takeD_succ {a b : List Int} {k : Nat} (ha : k < a.length) (hb : k < b.length) (h : a.take k = b.take k) (e : a.getD k 0 = b.getD k 0) : a.take (k + 1) = b.take (k + 1) := by
  rw [List.getD_eq_getElem?_getD, List.getD_eq_getElem?_getD, List.getElem?_eq_getElem ha, List.getElem?_eq_getElem hb] at e
  exact take_eq_succ ha hb h e
set_option maxHeartbeats 4000000 in
theorem SameSource_any (x y : TSrc) (sa sb : Option Addr) (ca cb : Nat) (w : World) (h1 : Row w 23 (.slice sa x.ss.length ca) x.ss.length (u32s x.ss)) (h2 : Row w 23 (.slice sb y.ss.length cb) y.ss.length (u32s y.ss)) :
    Calls Tryd.prog 22 #[.agg #[.int .i64 x.num, .int .i64 x.own, .slice sa x.ss.length ca, .bool x.muted], .agg #[.int .i64 y.num, .int .i64 y.own, .slice sb y.ss.length cb, .bool y.muted]] w fun e w' => e = .returned (.bool (decide (x = y))) ∧ Below w.heap.size w w' := by
  obtain ⟨xn, xo, xs, xm⟩ := x
  obtain ⟨yn, yo, ys, ym⟩ := y
  dsimp only at *
  have n1 := h1.len
  have n2 := h2.len
  have HR1 : Hid (∀ w', Below w.heap.size w w' → Row w' 23 (.slice sa xs.length ca) xs.length (u32s xs)) := fun w' hb => h1.below hb
  have HR2 : Hid (∀ w', Below w.heap.size w w' → Row w' 23 (.slice sb ys.length cb) ys.length (u32s ys)) := fun w' hb => h2.below hb
  clear h1 h2
  by_cases hl : xs.length = ys.length
  · have HB : Hid (∀ w', Below ((w.alloc (.cells #[.int .i64 xn, .int .i64 xo, .slice sa xs.length ca, .bool xm] 44)).alloc (.cells #[.int .i64 yn, .int .i64 yo, .slice sb ys.length cb, .bool ym] 44)).heap.size ((w.alloc (.cells #[.int .i64 xn, .int .i64 xo, .slice sa xs.length ca, .bool xm] 44)).alloc (.cells #[.int .i64 yn, .int .i64 yo, .slice sb ys.length cb, .bool ym] 44)) w' →
        (w'.cell? ⟨w.heap.size, 0, none⟩ = some (.int .i64 xn) ∧ w'.cell? ⟨w.heap.size, 1, none⟩ = some (.int .i64 xo) ∧ w'.cell? ⟨w.heap.size, 2, none⟩ = some (.slice sa xs.length ca) ∧ w'.cell? ⟨w.heap.size, 3, none⟩ = some (.bool xm)) ∧
        (w'.cell? ⟨w.heap.size + 1, 0, none⟩ = some (.int .i64 yn) ∧ w'.cell? ⟨w.heap.size + 1, 1, none⟩ = some (.int .i64 yo) ∧ w'.cell? ⟨w.heap.size + 1, 2, none⟩ = some (.slice sb ys.length cb) ∧ w'.cell? ⟨w.heap.size + 1, 3, none⟩ = some (.bool ym)) ∧ Below w.heap.size w w') := fun w' hb =>
      ⟨⟨cell_below hb ((cell_new1 rfl _ _ _ _).trans rfl), cell_below hb ((cell_new1 rfl _ _ _ _).trans rfl), cell_below hb ((cell_new1 rfl _ _ _ _).trans rfl), cell_below hb ((cell_new1 rfl _ _ _ _).trans rfl)⟩,
       ⟨cell_below hb ((cell_new2 rfl _ _ _ _).trans rfl), cell_below hb ((cell_new2 rfl _ _ _ _).trans rfl), cell_below hb ((cell_new2 rfl _ _ _ _).trans rfl), cell_below hb ((cell_new2 rfl _ _ _ _).trans rfl)⟩,
       ((((Below.refl _ _).alloc (Nat.le_refl _) _).alloc (by simp) _).trans (hb.mono (by simp; omega)))⟩
    have HL := Lib.hid hl
    rw [← hl] at HB n2
    rw [← hl]
    clear hl
    go_enter Tryd.func22, Tryd.ntmps22
    go_wp2
    go_loopw [16] (fun i w' => ∃ k : Nat, k ≤ xs.length ∧ i = .int .i64 k ∧ Below ((w.alloc (.cells #[.int .i64 xn, .int .i64 xo, .slice sa xs.length ca, .bool xm] 44)).alloc (.cells #[.int .i64 yn, .int .i64 yo, .slice sb xs.length cb, .bool ym] 44)).heap.size ((w.alloc (.cells #[.int .i64 xn, .int .i64 xo, .slice sa xs.length ca, .bool xm] 44)).alloc (.cells #[.int .i64 yn, .int .i64 yo, .slice sb xs.length cb, .bool ym] 44)) w' ∧ Hid (xs.take k = ys.take k)) (fun i _ => xs.length - (intOf i).toNat)
    case atStart => exact ⟨0, by omega, rfl, Below.refl _ _, rfl⟩
    case round =>
      obtain ⟨k, hk, rfl, hbl, HT⟩ := hrel
      have HBL := Lib.hid hbl
      obtain ⟨⟨a0, a1, a2, a3⟩, ⟨b0, b1, b2, b3⟩, hbw⟩ := HB.out wr hbl
      clear hbl
      by_cases hkl : k < xs.length
      · have hkl2 : k < ys.length := by have := HL.out; omega
        obtain ⟨g1, o1, c1, e1, _, _, _, hc1⟩ := u32_open (HR1.out wr hbw) (by omega)
        obtain ⟨g2, o2, c2, e2, _, _, _, hc2⟩ := u32_open (HR2.out wr hbw) (by omega)
        cases e1
        injection e2 with e2 e3 e4
        subst e2 e4
        have d1 := hc1 k hkl
        have d2 := hc2 k hkl2
        clear hc1 hc2 e3
        have HEQ : Hid (xs.getD k 0 = ys.getD k 0 → xs.take (k + 1) = ys.take (k + 1)) := takeD_succ hkl hkl2 HT.out
        have HNE : Hid (¬ xs.getD k 0 = ys.getD k 0 → ¬ (⟨xn, xo, xs, xm⟩ : TSrc) = ⟨yn, yo, ys, ym⟩) := fun h e => h (by injection e with _ _ e _; rw [e])
        by_cases he : xs.getD k 0 = ys.getD k 0
        · have HF := Lib.hid (HEQ.out he)
          rw [← he] at d2
          clear he HEQ HNE
          generalize xs.getD k 0 = u at *
          go_wp2
          go_quiet (fail)
          go_wp2
          go_roundw
          case rel => exact ⟨k + 1, by omega, by go_num, below_drewN HBL.out _, HF.out⟩
          case measure => simp [intOf]; omega
        · have HF := Lib.hid (HNE.out he)
          generalize xs.getD k 0 = u at *
          generalize ys.getD k 0 = v at *
          have hbq : (u != v) = true := by rw [bne_iff_ne]; exact he
          clear he HEQ HNE
          go_wp2
          go_quiet (fail)
          go_wp2
          go_ret
          exact ⟨ret_bool (by rw [decide_eq_false HF.out]), below_drewN hbw _⟩
      · have HE : Hid (xs = ys) := by
          have := HT.out
          rw [List.take_of_length_le (by omega), List.take_of_length_le (by have := HL.out; omega)] at this
          exact this
        by_cases e0 : xn = yn
        · by_cases e1 : xo = yo
          · by_cases e2 : xm = ym
            · have HF : Hid ((⟨xn, xo, xs, xm⟩ : TSrc) = ⟨yn, yo, ys, ym⟩) := by show _ = _; rw [e0, e1, e2, HE.out]
              subst e0 e1 e2
              go_wp2
              go_ret
              exact ⟨ret_bool (by rw [decide_eq_true HF.out]), hbw⟩
            · have HF : Hid (¬ (⟨xn, xo, xs, xm⟩ : TSrc) = ⟨yn, yo, ys, ym⟩) := fun e => e2 (by injection e)
              have hbq : (xm == ym) = false := by rw [beq_eq_false_iff_ne]; exact e2
              subst e0 e1
              go_wp2
              go_ret
              exact ⟨ret_bool (by rw [decide_eq_false HF.out]), hbw⟩
          · have HF : Hid (¬ (⟨xn, xo, xs, xm⟩ : TSrc) = ⟨yn, yo, ys, ym⟩) := fun e => e1 (by injection e)
            have hbq : (xo == yo) = false := by rw [beq_eq_false_iff_ne]; exact e1
            subst e0
            go_wp2
            go_ret
            exact ⟨ret_bool (by rw [decide_eq_false HF.out]), hbw⟩
        · have HF : Hid (¬ (⟨xn, xo, xs, xm⟩ : TSrc) = ⟨yn, yo, ys, ym⟩) := fun e => e0 (by injection e)
          have hbq : (xn == yn) = false := by rw [beq_eq_false_iff_ne]; exact e0
          go_wp2
          go_ret
          exact ⟨ret_bool (by rw [decide_eq_false HF.out]), hbw⟩
  · have HF : Hid (¬ (⟨xn, xo, xs, xm⟩ : TSrc) = ⟨yn, yo, ys, ym⟩) := fun e => hl (by injection e with _ _ e _; rw [e])
    have hb : ((xs.length : Int) != (ys.length : Int)) = true := by rw [bne_iff_ne]; omega
    have hb2 : (xs.length != ys.length) = true := by rw [bne_iff_ne]; omega
    go_enter Tryd.func22, Tryd.ntmps22
    go_wp2
    go_ret
    exact ⟨ret_bool (by rw [decide_eq_false HF.out]), ((Below.refl _ _).alloc (Nat.le_refl _) _).alloc (by simp) _⟩
end Go.Proofs.Rm
