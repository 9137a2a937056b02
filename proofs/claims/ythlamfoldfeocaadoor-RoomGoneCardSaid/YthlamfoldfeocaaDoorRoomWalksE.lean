/- The walks of package room, each function once: turns (most kinds). -/
import Derived.Test.YthlamfoldfeocaaDoorRoomWalks9
import Derived.Test.YthlamfoldfeocaaDoorRoomWalksB
namespace Go.Proofs.Rm
open Go.RowKit Go.Proofs.Heap Go.Proofs.Mem
/-- What 'turns' leaves. -/
def TurnsPost (b : Nat) (R : Room) (o : Op) (w : World) (e : Ending) (w' : World) : Prop :=
  ∃ v sv, e = .returned v ∧ TurnRow w' v (turns R o sv).1 ∧ RoomAt w' b (turns R o sv).2 ∧ Fr w.heap.size (· = b) w w'
theorem turnsPost_mk {b : Nat} {R R' : Room} {o : Op} {w w' : World} {v sv : Value} {l : List Turn} (h : Hid (turns R o sv = (l, R'))) (h1 : TurnRow w' v l) (h2 : RoomAt w' b R') (h3 : Fr w.heap.size (· = b) w w') : TurnsPost b R o w (.returned v) w' :=
  ⟨v, sv, rfl, by rw [h.out]; exact h1, by rw [h.out]; exact h2, h3⟩
theorem turnsPost_of {b : Nat} {R : Room} {o : Op} {w w1 w' : World} {v sv : Value} {x : List Turn × Room} (h : Hid (turns R o sv = x)) (h1 : TurnRow w' v x.1) (h2 : RoomAt w' b x.2) (hw : Below w.heap.size w w1) (h3 : Fr w1.heap.size (· = b) w1 w') : TurnsPost b R o w (.returned v) w' :=
  ⟨v, sv, rfl, by rw [h.out]; exact h1, by rw [h.out]; exact h2, (Fr.of_below _ hw).trans (h3.mono hw.size (fun _ _ h => h))⟩
theorem subCell_paused (x : Sub) (on : Bool) : ∀ j, j < 3 → subCell { x with paused := on } j = if j = 1 then .bool on else subCell x j := by
  intro j hj
  have : j = 0 ∨ j = 1 ∨ j = 2 := by omega
  rcases this with rfl | rfl | rfl <;> rfl
theorem subCell_want (x : Sub) (q : Int) : ∀ j, j < 3 → subCell { x with want := q } j = if j = 2 then .int .i64 q else subCell x j := by
  intro j hj
  have : j = 0 ∨ j = 1 ∨ j = 2 := by omega
  rcases this with rfl | rfl | rfl <;> rfl
section
variable (b : Nat) (R : Room) (p n q : Int) (nm : List UInt8) (ss : List Int) (sa ba : Option Addr) (sl sc bl bc : Nat) (w : World) (hR : RoomAt w b R)
include hR
set_option maxHeartbeats 2000000 in
theorem turns_join (hp : 1 ≤ p ∧ p < 9) :
    Calls Tryd.prog 35 #[.pointer (some ⟨b, 0, none⟩), .agg #[.int .i64 2, .int .i64 p, .int .i64 n, .int .i64 q, .string (str nm), .slice sa sl sc, .slice ba bl bc]] w (TurnsPost b R ⟨2, p, n, q, nm, ss⟩ w) := by
  obtain ⟨p, rfl⟩ := Int.eq_ofNat_of_zero_le (show 0 ≤ p by omega)
  have hp9 : p < 9 := by omega
  have hb := hR.lt
  have c0 := hR.namec hp9
  have f0 := hR.unfrozen p
  have HF : Hid (turns R ⟨2, p, n, q, nm, ss⟩ (.slice none 0 0) = ([], R.setName p nm)) := rfl
  have HR1 := Lib.hid (hR.setName hp9 nm)
  have HFR : Hid (Fr w.heap.size (· = b) w (w.setCell ⟨b, p, none⟩ (.string (str nm)))) := (Fr.refl _ _ _).setAt _ _
  clear hR
  go_enter Tryd.func35, Tryd.ntmps35
  go_wp2
  go_region
  go_wp2
  go_ret
  exact turnsPost_mk HF (Row.nil _ _) (by repeat (first | exact HR1.out | refine RoomAt.drew ?_ | refine RoomAt.alloc ?_ _)) (by repeat (first | exact HFR.out | refine Fr.drew ?_ | refine Fr.alloc ?_ (by simp [size_setCell] <;> omega) _))
set_option maxHeartbeats 2000000 in
theorem turns_leave (hp : 1 ≤ p ∧ p < 9) :
    Calls Tryd.prog 35 #[.pointer (some ⟨b, 0, none⟩), .agg #[.int .i64 3, .int .i64 p, .int .i64 n, .int .i64 q, .string (str nm), .slice sa sl sc, .slice ba bl bc]] w (TurnsPost b R ⟨3, p, n, q, nm, ss⟩ w) := by
  obtain ⟨p, rfl⟩ := Int.eq_ofNat_of_zero_le (show 0 ≤ p by omega)
  have hp9 : p < 9 := by omega
  have hb := hR.lt
  have HF : Hid (turns R ⟨3, p, n, q, nm, ss⟩ (.slice none 0 0) = leave R p) := rfl
  have C := Lib.hid (fun (w1 : World) (h : Below w.heap.size w w1) => leave_any b R p w1 (hR.below h) hp9)
  clear hR
  go_enter Tryd.func35, Tryd.ntmps35
  go_wp2_with (go_at_call 55; refine (C.out _ (by repeat (first | exact Below.refl _ _ | refine Below.drew ?_ | refine Below.alloc ?_ (by simp) _))).mono ?_; rintro e w1 ⟨⟨tv, rfl, htr⟩, hroom, hfr⟩)
  go_ret
  exact turnsPost_of HF htr hroom (by repeat (first | exact Below.refl _ _ | refine Below.drew ?_ | refine Below.alloc ?_ (by simp) _)) hfr
set_option maxHeartbeats 2000000 in
theorem turns_unpublish (hn : 1 ≤ n ∧ n < 9) :
    Calls Tryd.prog 35 #[.pointer (some ⟨b, 0, none⟩), .agg #[.int .i64 5, .int .i64 p, .int .i64 n, .int .i64 q, .string (str nm), .slice sa sl sc, .slice ba bl bc]] w (TurnsPost b R ⟨5, p, n, q, nm, ss⟩ w) := by
  obtain ⟨n, rfl⟩ := Int.eq_ofNat_of_zero_le (show 0 ≤ n by omega)
  have hn9 : n < 9 := by omega
  have hb := hR.lt
  have HF : Hid (turns R ⟨5, p, n, q, nm, ss⟩ (.slice none 0 0) = gone R n) := rfl
  have C := Lib.hid (fun (w1 : World) (h : Below w.heap.size w w1) => gone_any b R n w1 (hR.below h) hn9)
  clear hR
  go_enter Tryd.func35, Tryd.ntmps35
  go_wp2_with (go_at_call 50; refine (C.out _ (by repeat (first | exact Below.refl _ _ | refine Below.drew ?_ | refine Below.alloc ?_ (by simp) _))).mono ?_; rintro e w1 ⟨⟨tv, rfl, htr⟩, hroom, hfr⟩)
  go_ret
  exact turnsPost_of HF htr hroom (by repeat (first | exact Below.refl _ _ | refine Below.drew ?_ | refine Below.alloc ?_ (by simp) _)) hfr
set_option maxHeartbeats 2000000 in
theorem turns_subscribe (hp : 1 ≤ p ∧ p < 9) (hn : 1 ≤ n ∧ n < 9) (hq : 0 ≤ q ∧ q < (R.src n.toNat).ss.length) :
    Calls Tryd.prog 35 #[.pointer (some ⟨b, 0, none⟩), .agg #[.int .i64 6, .int .i64 p, .int .i64 n, .int .i64 q, .string (str nm), .slice sa sl sc, .slice ba bl bc]] w (TurnsPost b R ⟨6, p, n, q, nm, ss⟩ w) := by
  have hb := hR.lt
  have HF : Hid (turns R ⟨6, p, n, q, nm, ss⟩ (.slice none 0 0) = begin R ⟨6, p, n, q, nm, ss⟩) := rfl
  have C := Lib.hid (fun (w1 : World) (h : Below w.heap.size w w1) => begin_any b R ⟨6, p, n, q, nm, ss⟩ sa ba sl sc bl bc w1 (hR.below h) hn hp hq)
  clear hR
  go_enter Tryd.func35, Tryd.ntmps35
  go_wp2_with (go_at_call 56; refine (C.out _ (by repeat (first | exact Below.refl _ _ | refine Below.drew ?_ | refine Below.alloc ?_ (by simp) _))).mono ?_; rintro e w1 ⟨⟨tv, rfl, htr⟩, hroom, hfr⟩)
  go_ret
  exact turnsPost_of HF htr hroom (by repeat (first | exact Below.refl _ _ | refine Below.drew ?_ | refine Below.alloc ?_ (by simp) _)) hfr
set_option maxHeartbeats 2000000 in
theorem turns_mute (hn : 1 ≤ n ∧ n < 9) :
    Calls Tryd.prog 35 #[.pointer (some ⟨b, 0, none⟩), .agg #[.int .i64 8, .int .i64 p, .int .i64 n, .int .i64 q, .string (str nm), .slice sa sl sc, .slice ba bl bc]] w (TurnsPost b R ⟨8, p, n, q, nm, ss⟩ w) := by
  obtain ⟨n, rfl⟩ := Int.eq_ofNat_of_zero_le (show 0 ≤ n by omega)
  have hn9 : n < 9 := by omega
  have hb := hR.lt
  have HF : Hid (turns R ⟨8, p, n, q, nm, ss⟩ (.slice none 0 0) = mute R n true) := rfl
  have C := Lib.hid (fun (w1 : World) (h : Below w.heap.size w w1) => mute_on b R n w1 (hR.below h) hn9)
  clear hR
  go_enter Tryd.func35, Tryd.ntmps35
  go_wp2_with (go_at_call 58; refine (C.out _ (by repeat (first | exact Below.refl _ _ | refine Below.drew ?_ | refine Below.alloc ?_ (by simp) _))).mono ?_; rintro e w1 ⟨⟨tv, rfl, htr⟩, hroom, hfr⟩)
  go_ret
  exact turnsPost_of HF htr hroom (by repeat (first | exact Below.refl _ _ | refine Below.drew ?_ | refine Below.alloc ?_ (by simp) _)) hfr
set_option maxHeartbeats 2000000 in
theorem turns_unmute (hn : 1 ≤ n ∧ n < 9) (hw : ∀ p, p < 9 → (R.sub n.toNat p).there = true → 0 ≤ (R.sub n.toNat p).want ∧ (R.sub n.toNat p).want < (R.src n.toNat).ss.length) :
    Calls Tryd.prog 35 #[.pointer (some ⟨b, 0, none⟩), .agg #[.int .i64 9, .int .i64 p, .int .i64 n, .int .i64 q, .string (str nm), .slice sa sl sc, .slice ba bl bc]] w (TurnsPost b R ⟨9, p, n, q, nm, ss⟩ w) := by
  obtain ⟨n, rfl⟩ := Int.eq_ofNat_of_zero_le (show 0 ≤ n by omega)
  have hn9 : n < 9 := by omega
  have hb := hR.lt
  have HF : Hid (turns R ⟨9, p, n, q, nm, ss⟩ (.slice none 0 0) = mute R n false) := rfl
  have C := Lib.hid (fun (w1 : World) (h : Below w.heap.size w w1) => mute_off b R n w1 (hR.below h) hn9 hw)
  clear hR
  go_enter Tryd.func35, Tryd.ntmps35
  go_wp2_with (go_at_call 58; refine (C.out _ (by repeat (first | exact Below.refl _ _ | refine Below.drew ?_ | refine Below.alloc ?_ (by simp) _))).mono ?_; rintro e w1 ⟨⟨tv, rfl, htr⟩, hroom, hfr⟩)
  go_ret
  exact turnsPost_of HF htr hroom (by repeat (first | exact Below.refl _ _ | refine Below.drew ?_ | refine Below.alloc ?_ (by simp) _)) hfr
set_option maxHeartbeats 2000000 in
theorem turns_unsubscribe (hp : 1 ≤ p ∧ p < 9) (hn : 1 ≤ n ∧ n < 9) :
    Calls Tryd.prog 35 #[.pointer (some ⟨b, 0, none⟩), .agg #[.int .i64 7, .int .i64 p, .int .i64 n, .int .i64 q, .string (str nm), .slice sa sl sc, .slice ba bl bc]] w (TurnsPost b R ⟨7, p, n, q, nm, ss⟩ w) := by
  obtain ⟨p, rfl⟩ := Int.eq_ofNat_of_zero_le (show 0 ≤ p by omega)
  have hp9 : p < 9 := by omega
  obtain ⟨n, rfl⟩ := Int.eq_ofNat_of_zero_le (show 0 ≤ n by omega)
  have hn9 : n < 9 := by omega
  have hb := hR.lt
  have HF : Hid (turns R ⟨7, p, n, q, nm, ss⟩ (.slice none 0 0) = ([⟨2, p, n, 0, 0⟩], R.setSub n p noSub)) := rfl
  have C := Lib.hid (fun (w1 : World) (h : Below w.heap.size w w1) => end_any b R p n w1 (hR.below h) hn9 hp9)
  clear hR
  go_enter Tryd.func35, Tryd.ntmps35
  go_wp2_with (go_at_call 57; refine (C.out _ (by repeat (first | exact Below.refl _ _ | refine Below.drew ?_ | refine Below.alloc ?_ (by simp) _))).mono ?_; rintro e w1 ⟨rfl, hroom, hfr⟩; have HROOM := Lib.hid hroom; have HFR := Lib.hid hfr; clear hroom hfr)
  have hz := HFR.out.size
  go_ret
  refine turnsPost_of HF (row_new' _ _ 1 _ ([⟨2, p, n, 0, 0⟩].flatMap turnCells) (by decide) (by simp)) (HROOM.out.alloc _) (by repeat (first | exact Below.refl _ _ | refine Below.drew ?_ | refine Below.alloc ?_ (by simp) _)) (HFR.out.alloc hz _)
set_option maxHeartbeats 2000000 in
theorem turns_pause (hp : 1 ≤ p ∧ p < 9) (hn : 1 ≤ n ∧ n < 9) :
    Calls Tryd.prog 35 #[.pointer (some ⟨b, 0, none⟩), .agg #[.int .i64 10, .int .i64 p, .int .i64 n, .int .i64 q, .string (str nm), .slice sa sl sc, .slice ba bl bc]] w (TurnsPost b R ⟨10, p, n, q, nm, ss⟩ w) := by
  obtain ⟨p, rfl⟩ := Int.eq_ofNat_of_zero_le (show 0 ≤ p by omega)
  have hp9 : p < 9 := by omega
  obtain ⟨n, rfl⟩ := Int.eq_ofNat_of_zero_le (show 0 ≤ n by omega)
  have hn9 : n < 9 := by omega
  have hb := hR.lt
  obtain ⟨c0, c1, c2⟩ := hR.subc hn9 hp9
  have f1 := hR.unfrozen (54 + n * 27 + p * 3 + 1)
  have HF : Hid (turns R ⟨10, p, n, q, nm, ss⟩ (.slice none 0 0) = ([⟨4, p, n, 0, 0⟩], R.setSub n p { R.sub n p with paused := true })) := rfl
  have HR1 := Lib.hid (hR.setSubCell hn9 hp9 (i := 1) (by omega) (x := { R.sub n p with paused := true }) (v := .bool true) (subCell_paused _ _))
  have HFR : Hid (Fr w.heap.size (· = b) w (w.setCell ⟨b, 54 + n * 27 + p * 3 + 1, none⟩ (.bool true))) := (Fr.refl _ _ _).setAt _ _
  clear hR
  go_enter Tryd.func35, Tryd.ntmps35
  go_wp2
  go_region
  go_wp2
  go_ret
  exact turnsPost_mk HF (by first | exact Row.drew (row_new' _ _ 1 _ ([⟨4, p, n, 0, 0⟩].flatMap turnCells) (by decide) (by simp [size_setCell])) | exact row_new' _ _ 1 _ ([⟨4, p, n, 0, 0⟩].flatMap turnCells) (by decide) (by simp [size_setCell])) (by repeat (first | exact HR1.out | refine RoomAt.drew ?_ | refine RoomAt.alloc ?_ _)) (by repeat (first | exact HFR.out | refine Fr.drew ?_ | refine Fr.alloc ?_ (by simp [size_setCell] <;> omega) _))
end
end Go.Proofs.Rm
