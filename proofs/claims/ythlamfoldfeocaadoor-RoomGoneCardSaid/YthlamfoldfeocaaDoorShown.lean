/- The walks of the laws' own functions start and shown. -/
import Derived.Test.YthlamfoldfeocaaDoorRoomLawDef
import Derived.Deep.RegionHeld3
namespace Go.Proofs.Rm
open Go.RowKit Go.Proofs.Heap Go.Proofs.Mem
open Go.Proofs.Lab (may key Tabs)
def sOps (h : Nat) : List OpV := [⟨op1, none, 0, none, 0, 0⟩, ⟨op2, none, 0, none, 0, 0⟩, ⟨op3, some ⟨h, 0, none⟩, 2, none, 0, 0⟩, ⟨op4, none, 0, none, 0, 0⟩]
theorem start_any (w : World) : Calls Tryd.prog 33 #[] w fun e w' => e = .returned (.slice (some ⟨w.heap.size + 1, 0, none⟩) 4 4) ∧ OpsRow w' (.slice (some ⟨w.heap.size + 1, 0, none⟩) 4 4) (sOps w.heap.size) ∧ Below w.heap.size w w' := by
  go_enter Tryd.func33, Tryd.ntmps33
  go_wp2
  go_ret
  have hr : Row ((w.alloc (.cells (u32s [10, 11]).toArray 23)).alloc (.cells ((sOps w.heap.size).flatMap opvCells).toArray 40)) 23 (.slice (some ⟨w.heap.size, 0, none⟩) 2 2) 2 (u32s [10, 11]) := (row_new w _ 2 (u32s [10, 11]) (by decide)).below (below_alloc _ _)
  have ho : Row ((w.alloc (.cells (u32s [10, 11]).toArray 23)).alloc (.cells ((sOps w.heap.size).flatMap opvCells).toArray 40)) 40 (.slice (some ⟨w.heap.size + 1, 0, none⟩) 4 4) 4 ((sOps w.heap.size).flatMap opvCells) := row_new' _ _ 4 _ _ (by decide) (by simp)
  refine ⟨rfl, ⟨ho, ?_⟩, ((Below.refl _ _).alloc (Nat.le_refl _) _).alloc (by simp) _⟩
  intro x hx
  simp only [sOps, List.mem_cons, List.mem_nil_iff, or_false] at hx
  rcases hx with rfl | rfl | rfl | rfl
  · exact ⟨Row.nil _ _, by decide⟩
  · exact ⟨Row.nil _ _, by decide⟩
  · exact ⟨hr, by show op3.name.length < 9223372036854775807; decide⟩
  · exact ⟨Row.nil _ _, by decide⟩
/-- The rooms of 'start'. -/
def st : Nat → Value → Room
  | 0, _ => empty
  | 1, _ => empty.setName 1 [97, 110, 110]
  | 2, _ => (empty.setName 1 [97, 110, 110]).setName 2 [98, 111, 98]
  | 3, sv => ((empty.setName 1 [97, 110, 110]).setName 2 [98, 111, 98]).setSrc 3 ⟨true, 3, 1, sv, [10, 11], false⟩
  | _, sv => (((empty.setName 1 [97, 110, 110]).setName 2 [98, 111, 98]).setSrc 3 ⟨true, 3, 1, sv, [10, 11], false⟩).setSub 3 2 ⟨true, false, 1⟩
def stOp : Nat → Op
  | 0 => op1
  | 1 => op2
  | 2 => op3
  | _ => op4
def stTurns : Nat → List Turn
  | 4 => [⟨1, 2, 3, 1, 0⟩, ⟨9, 1, 3, 0, 11⟩]
  | _ => []
theorem doo_ok {R : Room} {o : Op} {sv : Value} (h : wrong R o = 0) : doo R o sv = (turns R o sv, 0) := by unfold doo; rw [h]; simp
theorem st_wrong0 (sv : Value) : wrong (st 0 sv) op1 = 0 := by kernel_rfl
theorem st_wrong1 (sv : Value) : wrong (st 1 sv) op2 = 0 := by kernel_rfl
theorem st_wrong2 (sv : Value) : wrong (st 2 sv) op3 = 0 := by kernel_rfl
theorem st_wrong3 (sv : Value) : wrong (st 3 sv) op4 = 0 := by kernel_rfl
theorem st_wrong4 (sv : Value) : wrong (st 4 sv) op5 = 9 := by kernel_rfl
theorem st_step (k : Nat) (hk : k < 4) (sv sv' : Value) : ∃ sv2, doo (st k sv) (stOp k) sv' = ((stTurns (k + 1), st (k + 1) sv2), 0) := by
  have : k = 0 ∨ k = 1 ∨ k = 2 ∨ k = 3 := by omega
  rcases this with rfl | rfl | rfl | rfl
  · exact ⟨sv, (doo_ok (st_wrong0 sv)).trans rfl⟩
  · exact ⟨sv, (doo_ok (st_wrong1 sv)).trans rfl⟩
  · exact ⟨sv', (doo_ok (st_wrong2 sv)).trans rfl⟩
  · exact ⟨sv, (doo_ok (st_wrong3 sv)).trans rfl⟩
theorem st_last (sv sv' : Value) : doo (st 4 sv) op5 sv' = (([], st 4 sv), 9) := by unfold doo; rw [st_wrong4]; rfl
theorem st_of (sv : Value) : of (st 4 sv) 11 = (3, 1, true) := by kernel_rfl
theorem st_subs (sv : Value) : subs (st 4 sv) 3 = [2] := by kernel_rfl
theorem st_joined (sv : Value) : joined (st 4 sv) 2 = true := by kernel_rfl
theorem st_inv : ∀ k, k ≤ 4 → ∀ sv, Inv (st k sv)
  | 0, _, sv => inv_empty
  | 1, _, sv => by have := inv_doo (st_inv 0 (by omega) sv) op1 sv; rw [doo_ok (st_wrong0 sv)] at this; exact this
  | 2, _, sv => by have := inv_doo (st_inv 1 (by omega) sv) op2 sv; rw [doo_ok (st_wrong1 sv)] at this; exact this
  | 3, _, sv => by have := inv_doo (st_inv 2 (by omega) sv) op3 sv; rw [doo_ok (st_wrong2 sv)] at this; exact this
  | 4, _, sv => by have := inv_doo (st_inv 3 (by omega) sv) op4 sv; rw [doo_ok (st_wrong3 sv)] at this; exact this
theorem sOps_at (h k : Nat) (hk : k < 4) : ∃ sa sc, (sOps h)[k]? = some ⟨stOp k, sa, sc, none, 0, 0⟩ := by
  have : k = 0 ∨ k = 1 ∨ k = 2 ∨ k = 3 := by omega
  rcases this with rfl | rfl | rfl | rfl <;> exact ⟨_, _, rfl⟩
set_option maxRecDepth 100000 in
set_option maxHeartbeats 8000000 in
theorem shown_any (w : World) (hT : Tabs w) : Calls Tryd.prog 10 #[] w fun e w' => e = .returned (.bool true) ∧ Below w.heap.size w w' := by
  have HT : Hid (∀ w', Below w.heap.size w w' → Tabs w') := fun w' h => Utf8Tabs_below hT h
  clear hT
  go_enter Tryd.func10, Tryd.ntmps10
  go_wp2_with fail
  refine (New_any _).mono ?_
  rintro e w1 ⟨rfl, hroom, hb1⟩
  have HROOM := Lib.hid hroom
  have HB1 := Lib.hid hb1
  have hbw : w.heap.size ≤ w.heap.size := Nat.le_refl _
  clear hroom hb1
  go_wp2_with fail
  refine (start_any _).mono ?_
  rintro e w2 ⟨rfl, hops, hb2⟩
  have HB2 := Lib.hid (HB1.out.trans (hb2.mono HB1.out.size))
  have HROOM2 := Lib.hid (HROOM.out.below hb2)
  have HOPS := Lib.hid hops
  clear hops hb2
  obtain ⟨H, hH⟩ : ∃ H, H = w1.heap.size := ⟨_, rfl⟩
  rw [← hH] at HOPS ⊢
  clear hH
  go_wp2_with fail
  go_loopw [2, 15] (fun t i w' => ∃ k : Nat, k ≤ 4 ∧ i = .int .i64 k ∧ Below w.heap.size w w' ∧ OpsRow w' (.slice (some ⟨H + 1, 0, none⟩) 4 4) (sOps H) ∧ TurnRow w' t (stTurns k) ∧ ∃ sv, RoomAt w' w.heap.size (st k sv)) (fun _ i _ => 4 - (intOf i).toNat)
  case atStart => exact ⟨0, by omega, rfl, HB2.out, HOPS.out, Row.nil _ _, .slice none 0 0, HROOM2.out⟩
  case round =>
    clear HROOM HROOM2 HB1 HB2 HOPS
    obtain ⟨k, hk, rfl, hbl, hops, htr, sv, hroom⟩ := hrel
    have HBL := Lib.hid hbl
    have HOPS := Lib.hid hops
    have HROOM := Lib.hid hroom
    have HTR := Lib.hid htr
    have hsz := hbl.size
    have hrl := hroom.lt
    obtain ⟨ta, tc, rfl, _⟩ := id htr
    clear hbl hroom htr
    by_cases hk4 : k < 4
    · obtain ⟨g, off, e1, hcells⟩ := ops_at (l := sOps H) (a := some ⟨H + 1, 0, none⟩) (c := 4) hops (Nat.zero_lt_succ _)
      cases e1
      obtain ⟨xa, xc, hx⟩ := sOps_at H k hk4
      obtain ⟨c0, c1, c2, c3, c4, c5, c6⟩ := hcells k _ hx
      have HXR := Lib.hid (hops.each _ (List.mem_of_getElem? hx))
      have hgl : H + 1 < wr.heap.size := World.block_lt_of_cell? wr ⟨H + 1, 0 + k * 7, none⟩ c0
      have HST := Lib.hid (st_step k hk4 sv)
      have HINV := Lib.hid (st_inv k (by omega) sv)
      clear hcells hx hops
      generalize stOp k = o at *
      dsimp only at c0 c1 c2 c3 c4 c5 c6 HXR
      simp only [Nat.zero_add] at c0 c1 c2 c3 c4 c5 c6
      have CD : Hid (∀ w4, Below wr.heap.size wr w4 → Calls Tryd.prog 12 #[.pointer (some ⟨w.heap.size, 0, none⟩), .agg #[.int .i64 o.kind, .int .i64 o.peer, .int .i64 o.source, .int .i64 o.layer, .string (str o.name), .slice xa o.ssrcs.length xc, .slice none 0 0]] w4 (DoPost w.heap.size (st k sv) o w4)) :=
        fun w4 h => Do_any w.heap.size (st k sv) o xa none xc 0 0 w4 (HROOM.out.below h) HINV.out (HT.out _ (HBL.out.trans (h.mono HBL.out.size))) HXR.out.2 (HXR.out.1.below h).r
      go_wp2_with fail
      refine (CD.out _ (below_alloc _ _)).mono ?_
      rintro e w5 ⟨tv, sv', rfl, htr5, hroom5, hfr5⟩
      obtain ⟨sv2, hd⟩ := HST.out sv'
      rw [hd] at htr5 hroom5
      rw [hd]
      clear hd
      have HTR5 := Lib.hid htr5
      have HROOM5 := Lib.hid hroom5
      have HFR5 : Hid (Fr wr.heap.size (· = w.heap.size) wr w5) := (Fr.of_below _ (below_alloc wr _)).trans (hfr5.mono (by simp) (fun _ _ h => h))
      have HBL5 : Hid (Below w.heap.size w w5) := HBL.out.trans (Fr.below (HFR5.out.mono hsz (fun k hk hs => by have hs : k = w.heap.size := hs; omega)))
      have HOPS5 : Hid (OpsRow w5 (.slice (some ⟨H + 1, 0, none⟩) 4 4) (sOps H)) := HOPS.out.fr HFR5.out HROOM.out
      obtain ⟨ua, uc, rfl, _⟩ := id htr5
      clear htr5 hroom5 hfr5
      go_wp2
      go_roundw
      case rel => exact ⟨k + 1, by omega, by go_num, HBL5.out, HOPS5.out, HTR5.out, sv2, HROOM5.out⟩
      case measure => simp [intOf]; omega
    · obtain rfl : k = 4 := by omega
      have CO := Lib.hid (Of_any w.heap.size (st 4 sv) 11 wr HROOM.out)
      rw [st_of] at CO
      clear hops
      go_wp2_with fail
      refine CO.out.mono ?_
      rintro e w2 ⟨rfl, hb2⟩
      have HR2 := Lib.hid (HROOM.out.below hb2)
      have HTR2 := Lib.hid (HTR.out.below hb2)
      have HBL2 := Lib.hid (HBL.out.trans (hb2.mono HBL.out.size))
      have CD : Hid (Calls Tryd.prog 12 #[.pointer (some ⟨w.heap.size, 0, none⟩), .agg #[.int .i64 2, .int .i64 3, .int .i64 0, .int .i64 0, .string ⟨#[65, 78, 78]⟩, .slice none 0 0, .slice none 0 0]] w2 (DoPost w.heap.size (st 4 sv) op5 w2)) :=
        Do_any w.heap.size (st 4 sv) op5 none none 0 0 0 w2 HR2.out (st_inv 4 (by omega) sv) (HT.out _ HBL2.out) (by decide) (RRow.nil _)
      clear hb2
      go_wp2_with fail
      refine CD.out.mono ?_
      rintro e w3 ⟨tv, sv', rfl, htr3, hroom3, hfr3⟩
      rw [st_last] at htr3 hroom3 ⊢
      obtain ⟨va, vc, rfl, _⟩ := htr3
      have HTR3 : Hid (TurnRow w3 (.slice ta 2 tc) [⟨1, 2, 3, 1, 0⟩, ⟨9, 1, 3, 0, 11⟩]) := HTR2.out.fr hfr3 (Nat.le_refl _) (HR2.out.typ (by decide))
      have HBL3 : Hid (Below w.heap.size w w3) := HBL2.out.trans (Fr.below (hfr3.mono HBL2.out.size (fun k hk hs => by have hs : k = w.heap.size := hs; omega)))
      have CSB := Subs_any w.heap.size (st 4 sv) 3 w3 hroom3
      rw [st_subs] at CSB
      have CJ : Hid (∀ w4, Below w3.heap.size w3 w4 → Calls Tryd.prog 20 #[.pointer (some ⟨w.heap.size, 0, none⟩), .int .i64 2] w4 fun e w' => e = .returned (.bool true) ∧ w4 = w') := fun w4 h => by
        have := Joined_any w.heap.size (st 4 sv) 2 w4 (hroom3.below h)
        rw [st_joined] at this
        exact this
      have HSB := Lib.hid CSB
      clear CSB hfr3 hroom3
      obtain ⟨g, off, cap, e1, hg, hc⟩ := turn_at HTR3.out (by decide)
      obtain ⟨e2, e3⟩ := slice_inj e1
      obtain ⟨a0, a1, a2, a3, a4⟩ := hc 0 ⟨1, 2, 3, 1, 0⟩ rfl
      obtain ⟨b0, b1, b2, b3, b4⟩ := hc 1 ⟨9, 1, 3, 0, 11⟩ rfl
      subst e2
      clear e1 e3 hc
      simp only [Nat.zero_mul, Nat.add_zero, Nat.one_mul] at a0 a1 a2 a3 a4 b0 b1 b2 b3 b4
      go_wp2_with (first | (go_at_call 23; refine HSB.out.mono ?_; rintro e w4 ⟨⟨lv, rfl, hrow⟩, hb4⟩; obtain ⟨la, lc, rfl, _⟩ := hrow) | (go_at_call 20; refine (CJ.out _ hb4).mono ?_; rintro e w5 ⟨rfl, rfl⟩))
      go_ret
      exact ⟨rfl, HBL3.out.trans (hb4.mono HBL3.out.size)⟩
end Go.Proofs.Rm
