/- The walks of package room, each function once: begin. -/
import Derived.Test.YthlamfoldfeocaaDoorRoomWalksA
namespace Go.Proofs.Rm
open Go.RowKit Go.Proofs.Heap Go.Proofs.Mem
theorem owns_new (w : World) (e : TypeId) (size n m : Nat) (xs : List Value) (hl : xs.length = n * size) (hn : n ≤ maxLen) (hm : m = w.heap.size) : (w.alloc (.cells xs.toArray e)).ownsRow m e size (.slice (some ⟨m, 0, none⟩) n n) n xs := by
  subst hm
  exact ⟨hl, .inr ⟨w.heap.size, n, xs.toArray, rfl, Nat.le_refl _, (by show (w.heap.push _)[w.heap.size]? = _; simp), Nat.le_refl _, hn, by simp [hl], by rw [List.take_of_length_le (by simp [hl])]⟩⟩
theorem RoomAt.alloc {w : World} {b : Nat} {R : Room} (h : RoomAt w b R) (o : Obj) : RoomAt (w.alloc o) b R := h.below (below_alloc _ _)
theorem RoomAt.drew {w : World} {b : Nat} {R : Room} (h : RoomAt w b R) : RoomAt w.drew b R := h.below (Below.refl _ _).drew
theorem RoomAt.drewN {w : World} {b : Nat} {R : Room} (h : RoomAt w b R) (q : Nat) : RoomAt (w.drewN q) b R := h.below (below_drewN (Below.refl _ _) q)
theorem owns_drew {base : Nat} {e : TypeId} {size : Nat} {v : Value} {n : Nat} {xs : List Value} {w : World} (h : w.ownsRow base e size v n xs) : w.drew.ownsRow base e size v n xs := owns_below h (Below.refl _ _).drew
theorem Row.drew {w : World} {e : TypeId} {v : Value} {n : Nat} {xs : List Value} (h : Row w e v n xs) : Row w.drew e v n xs := h.below (Below.refl _ _).drew
theorem Fr.drewN {B : Nat} {S : Nat → Prop} {a w : World} (h : Fr B S a w) (q : Nat) : Fr B S a (w.drewN q) := h.trans (Fr.of_below S (below_drewN (Below.refl _ _) q))
set_option maxHeartbeats 2000000 in
theorem begin_any (b : Nat) (R : Room) (o : Op) (sa ba : Option Addr) (sl sc bl bc : Nat) (w : World) (hR : RoomAt w b R) (hs : 1 ≤ o.source ∧ o.source < 9) (hp : 1 ≤ o.peer ∧ o.peer < 9) (hq : 0 ≤ o.layer ∧ o.layer < (R.src o.source.toNat).ss.length) :
    Calls Tryd.prog 56 #[.pointer (some ⟨b, 0, none⟩), .agg #[.int .i64 o.kind, .int .i64 o.peer, .int .i64 o.source, .int .i64 o.layer, .string (str o.name), .slice sa sl sc, .slice ba bl bc]] w fun e w' => (∃ v, e = .returned v ∧ TurnRow w' v (begin R o).1) ∧ RoomAt w' b (begin R o).2 ∧ Fr w.heap.size (· = b) w w' := by
  have hb := hR.lt
  obtain ⟨k, p, n, q, nm, ss⟩ := o
  obtain ⟨n, rfl⟩ := Int.eq_ofNat_of_zero_le (show 0 ≤ n by have := hs.1; dsimp only at this; omega)
  obtain ⟨p, rfl⟩ := Int.eq_ofNat_of_zero_le (show 0 ≤ p by have := hp.1; dsimp only at this; omega)
  dsimp only at hs hp hq ⊢
  rw [Int.toNat_natCast] at hq
  have hn : n < 9 := by omega
  have hp9 : p < 9 := by omega
  obtain ⟨c0, c1, c2⟩ := hR.subc hn hp9
  obtain ⟨s0, s1, s2, s3, s4⟩ := hR.srcc hn
  have f0 := hR.unfrozen (54 + n * 27 + p * 3)
  have f1 := hR.unfrozen (54 + n * 27 + p * 3 + 1)
  have f2 := hR.unfrozen (54 + n * 27 + p * 3 + 2)
  clear s0 s1 s2 s3 s4
  have HR1 := Lib.hid (hR.setSub hn hp9 ⟨true, false, q⟩)
  have hb1 := HR1.out.lt
  obtain ⟨s0, s1, s2, s3, s4⟩ := HR1.out.srcc hn
  have HB0 : Hid (begin R ⟨k, p, n, q, nm, ss⟩ = (⟨1, p, n, q, 0⟩ :: (if (R.src n).muted then [⟨6, p, n, 0, 0⟩] else [asks (R.setSub n p ⟨true, false, q⟩) p n]), R.setSub n p ⟨true, false, q⟩)) := rfl
  have CA : Hid (∀ w1, RoomAt w1 b (R.setSub n p ⟨true, false, q⟩) → Calls Tryd.prog 75 #[.pointer (some ⟨b, 0, none⟩), .int .i64 p, .int .i64 n] w1 fun e w' => e = .returned (turnAgg (asks (R.setSub n p ⟨true, false, q⟩) p n)) ∧ Below w1.heap.size w1 w') :=
    fun w1 h => asks_any b _ p n w1 h hn hp9 (by rw [sub_setSub]; exact hq)
  have HFR : Hid (Fr w.heap.size (· = b) w (((w.setCell ⟨b, 54 + n * 27 + p * 3, none⟩ (.bool true)).setCell ⟨b, 54 + n * 27 + p * 3 + 1, none⟩ (.bool false)).setCell ⟨b, 54 + n * 27 + p * 3 + 2, none⟩ (.int .i64 q))) := (((Fr.refl _ _ _).setAt _ _).setAt _ _).setAt _ _
  have HOWN : Hid (∀ W : World, W.heap.size = w.heap.size → ∀ box : Obj, ((W.alloc box).alloc (.cells ([Turn.mk 1 p n q 0].flatMap turnCells).toArray 59)).ownsRow (w.heap.size + 1) 59 5 (.slice (some ⟨w.heap.size + 1, 0, none⟩) 1 1) 1 ([Turn.mk 1 p n q 0].flatMap turnCells)) := fun W hW box => owns_new _ _ 5 1 _ _ rfl (by decide) (by simp [hW])
  have hmu : ((R.setSub n p ⟨true, false, q⟩).src n).muted = (R.src n).muted := rfl
  rw [hmu] at s4
  clear s0 s1 s2 s3 hmu hR hq
  unfold turnAgg at CA
  generalize asks (R.setSub n p ⟨true, false, q⟩) p n = A at *
  generalize R.setSub n p ⟨true, false, q⟩ = R1 at *
  obtain ⟨a1, a2, a3, a4, a5⟩ := A
  dsimp only at *
  cases hm : (R.src n).muted
  · rw [hm] at s4
    have HF : Hid (begin R ⟨k, p, n, q, nm, ss⟩ = ([⟨1, p, n, q, 0⟩, ⟨a1, a2, a3, a4, a5⟩], R1)) := by show _ = _; rw [HB0.out, hm]; rfl
    clear hm
    go_enter Tryd.func56, Tryd.ntmps56
    go_wp2
    go_region
    go_wp2
    go_region
    go_wp2_with (first | (go_at_call 75; refine (CA.out _ (by repeat (first | exact HR1.out | refine RoomAt.drew ?_ | refine RoomAt.alloc ?_ _))).mono ?_; rintro e w2 ⟨rfl, hb2⟩; have HB2 := Lib.hid hb2; clear hb2) | (at_builtin; refine wpList_app rfl (.tmp 43) (.tmp 50) 33 rfl (w.heap.size + 1) elemTurn _ 1 ([⟨1, p, n, q, 0⟩].flatMap turnCells) rfl ?a1 _ 1 ([⟨a1, a2, a3, a4, a5⟩].flatMap turnCells) rfl ?a2 rfl ?a4 ?a5 ?a6 ?a7 (fun v' w3 HO HG => ?_)))
    case a1 => exact (owns_below (owns_drew (owns_drew (owns_new _ _ 5 1 (w.heap.size + 1) ([⟨1, p, n, q, 0⟩].flatMap turnCells) rfl (by decide) (by simp [size_setCell])))) HB2.out).alloc _
    case a2 => exact row_new' _ _ 1 _ ([⟨a1, a2, a3, a4, a5⟩].flatMap turnCells) (by decide) rfl
    case a4 => exact turns_one _
    case a5 => omega
    case a6 => omega
    case a7 => have h2 := HB2.out.size; simp [size_setCell] at h2 ⊢; omega
    go_ret
    rw [HF.out]
    have h2 := HB2.out.size
    simp [size_setCell] at h2
    have hown := (owns_below (owns_drew (owns_drew (owns_new _ 59 5 1 (w.heap.size + 1) ([⟨1, p, n, q, 0⟩].flatMap turnCells) rfl (by decide) (by simp [size_setCell])))) HB2.out).alloc (.cells #[.int .i64 a1, .int .i64 a2, .int .i64 a3, .int .i64 a4, .int .u32 a5] 59)
    refine ⟨⟨_, rfl, Row.of_owns HO.out⟩, ?_, ?_⟩
    · exact RoomAt.grown (RoomAt.alloc (RoomAt.below (by repeat (first | exact HR1.out | refine RoomAt.drew ?_ | refine RoomAt.alloc ?_ _)) HB2.out) _) hown HG.out (by omega) (by decide)
    · refine Fr.grown (Fr.alloc (Fr.trans ?_ ((Fr.of_below _ HB2.out).mono (B' := w.heap.size) (by simp [size_setCell]; omega) (fun _ _ h => h))) (by omega) _) HG.out (by simp; omega) (fun k hk => by have := own_le hown k hk; omega)
      exact (((HFR.out.alloc (by simp [size_setCell]) _).alloc (by simp [size_setCell]) _).drew).drew
  · rw [hm] at s4
    have HF : Hid (begin R ⟨k, p, n, q, nm, ss⟩ = ([⟨1, p, n, q, 0⟩, ⟨6, p, n, 0, 0⟩], R1)) := by show _ = _; rw [HB0.out, hm]; rfl
    clear hm
    go_enter Tryd.func56, Tryd.ntmps56
    go_wp2
    go_region
    go_wp2
    go_region
    go_wp2_with (at_builtin; refine wpList_app rfl (.tmp 35) (.tmp 41) 33 rfl (w.heap.size + 1) elemTurn _ 1 ([⟨1, p, n, q, 0⟩].flatMap turnCells) rfl ?a1 _ 1 ([⟨6, p, n, 0, 0⟩].flatMap turnCells) rfl ?a2 rfl ?a4 ?a5 ?a6 ?a7 (fun v' w3 HO HG => ?_))
    case a1 => exact owns_drew (owns_drew ((HOWN.out _ (by simp [size_setCell]) _).alloc _))
    case a2 => exact Row.drew (Row.drew (row_new' _ _ 1 _ ([⟨6, p, n, 0, 0⟩].flatMap turnCells) (by decide) (by simp [size_setCell])))
    case a4 => exact turns_one _
    case a5 => omega
    case a6 => omega
    case a7 => simp [size_setCell]
    go_ret
    rw [HF.out]
    refine ⟨⟨_, rfl, Row.of_owns HO.out⟩, ?_, ?_⟩
    · exact RoomAt.grown (by repeat (first | exact HR1.out | refine RoomAt.drew ?_ | refine RoomAt.alloc ?_ _)) (by exact owns_drew (owns_drew ((HOWN.out _ (by simp [size_setCell]) _).alloc _))) HG.out (by omega : b < w.heap.size + 1) (by decide)
    · refine Fr.grown ?_ HG.out (by simp [size_setCell]; omega) (fun k hk => by have hk : some (w.heap.size + 1) = some k := hk; cases hk; omega)
      exact ((((HFR.out.alloc (by simp [size_setCell]) _).alloc (by simp [size_setCell]) _).alloc (by simp [size_setCell]; omega) _).drew).drew
end Go.Proofs.Rm
