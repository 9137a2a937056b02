/- The walks of package room, each function once: turns (resume). -/
import Derived.Test.YthlamfoldfeocaaDoorRoomWalksF
namespace Go.Proofs.Rm
open Go.RowKit Go.Proofs.Heap Go.Proofs.Mem
section
variable (b : Nat) (R : Room) (p n q : Int) (nm : List UInt8) (ss : List Int) (sa ba : Option Addr) (sl sc bl bc : Nat) (w : World) (hR : RoomAt w b R)
include hR
set_option maxRecDepth 100000 in
set_option maxHeartbeats 4000000 in
theorem turns_resume (hp : 1 ≤ p ∧ p < 9) (hn : 1 ≤ n ∧ n < 9) (hw : 0 ≤ (R.sub n.toNat p.toNat).want ∧ (R.sub n.toNat p.toNat).want < (R.src n.toNat).ss.length) :
    Calls Tryd.prog 35 #[.pointer (some ⟨b, 0, none⟩), .agg #[.int .i64 11, .int .i64 p, .int .i64 n, .int .i64 q, .string (str nm), .slice sa sl sc, .slice ba bl bc]] w (TurnsPost b R ⟨11, p, n, q, nm, ss⟩ w) := by
  obtain ⟨p, rfl⟩ := Int.eq_ofNat_of_zero_le (show 0 ≤ p by omega)
  have hp9 : p < 9 := by omega
  obtain ⟨n, rfl⟩ := Int.eq_ofNat_of_zero_le (show 0 ≤ n by omega)
  have hn9 : n < 9 := by omega
  have hb := hR.lt
  obtain ⟨c0, c1, c2⟩ := hR.subc hn9 hp9
  have fz := hR.unfrozen (54 + n * 27 + p * 3 + 1)
  have HF : Hid (turns R ⟨11, p, n, q, nm, ss⟩ (.slice none 0 0) = (⟨5, p, n, 0, 0⟩ :: waits (R.setSub n p { R.sub n p with paused := false }) p n, R.setSub n p { R.sub n p with paused := false })) := rfl
  have HR1 := Lib.hid (hR.setSubCell hn9 hp9 (i := 1) (by omega) (x := { R.sub n p with paused := false }) (v := .bool false) (subCell_paused _ _))
  have HFR : Hid (Fr w.heap.size (· = b) w (w.setCell ⟨b, 54 + n * 27 + p * 3 + 1, none⟩ (.bool false))) := (Fr.refl _ _ _).setAt _ _
  have CW : Hid (∀ w1, RoomAt w1 b (R.setSub n p { R.sub n p with paused := false }) → Calls Tryd.prog 59 #[.pointer (some ⟨b, 0, none⟩), .int .i64 p, .int .i64 n] w1 fun e w' => (∃ v, e = .returned v ∧ TurnRow w' v (waits (R.setSub n p { R.sub n p with paused := false }) p n)) ∧ Below w1.heap.size w1 w') :=
    fun w1 h => waits_any b _ p n w1 h hn9 hp9 (by rw [sub_setSub]; exact hw)
  have HWL : (waits (R.setSub n p { R.sub n p with paused := false }) p n).length ≤ 1 := by unfold waits; split <;> simp
  clear hR hw
  have HTX : Hid (∀ B1 B2 : Obj, TX b (R.setSub n p { R.sub n p with paused := false }) w (((w.setCell ⟨b, 54 + n * 27 + p * 3 + 1, none⟩ (.bool false)).alloc B1).alloc B2).drew) := fun B1 B2 => ⟨((HR1.out.alloc _).alloc _).drew, ((HFR.out.alloc (by simp [size_setCell]) _).alloc (by simp [size_setCell]) _).drew, by simp [size_setCell]⟩
  generalize waits (R.setSub n p { R.sub n p with paused := false }) p n = W at *
  generalize R.setSub n p { R.sub n p with paused := false } = R1 at *
  go_enter Tryd.func35, Tryd.ntmps35
  go_wp2
  go_region
  go_wp2
  have htx := HTX.out
  go_region_held3 (fun w' => w'.cell? ⟨w.heap.size + 1, 0, none⟩ = some (.int .i64 5) ∧ w'.cell? ⟨w.heap.size + 1, 1, none⟩ = some (.int .i64 p) ∧ w'.cell? ⟨w.heap.size + 1, 2, none⟩ = some (.int .i64 n) ∧ w'.cell? ⟨w.heap.size + 1, 3, none⟩ = some (.int .i64 0) ∧ w'.cell? ⟨w.heap.size + 1, 4, none⟩ = some (.int .u32 0) ∧ w'.cell? ⟨w.heap.size, 1, none⟩ = some (.int .i64 p) ∧ w'.cell? ⟨w.heap.size, 2, none⟩ = some (.int .i64 n) ∧ TX b R1 w w') ((go_split_ands; ((repeat' apply And.intro) <;> first | with_reducible assumption | ((with_reducible apply cell_drew); with_reducible assumption) | (with_reducible apply TX.drew; with_reducible assumption) | (with_reducible apply TX.drew; with_reducible apply htx) | (with_reducible apply cell_alloc; with_reducible assumption) | (with_reducible apply cell_alloc2; with_reducible assumption) | (with_reducible apply cell_alloc3; with_reducible assumption) | (with_reducible apply TX.alloc; with_reducible assumption) | (with_reducible apply TX.alloc2; with_reducible assumption) | (with_reducible apply TX.alloc3; with_reducible assumption) | ((with_reducible apply cell_drew); (with_reducible apply cell_drew); (with_reducible refine (cell_new2 (size_setCell _ _ _) _ _ _ _).trans ?_); rfl) | ((with_reducible apply cell_drew); (with_reducible apply cell_drew); (with_reducible refine (cell_new1 (size_setCell _ _ _) _ _ _ _).trans ?_); rfl) | go_keep))) (first | (go_at_call 59; go_split_ands; refine Calls.mono (CW.out _ (TX.room (by with_reducible assumption))) ?_; rintro e w2 ⟨⟨tv, rfl, htr⟩, hb2⟩; have HTR := Lib.hid htr; clear htr; have k0 := cell_below (a := ⟨w.heap.size + 1, 0, none⟩) hb2 (by with_reducible assumption); have k1 := cell_below (a := ⟨w.heap.size + 1, 1, none⟩) hb2 (by with_reducible assumption); have k2 := cell_below (a := ⟨w.heap.size + 1, 2, none⟩) hb2 (by with_reducible assumption); have k3 := cell_below (a := ⟨w.heap.size + 1, 3, none⟩) hb2 (by with_reducible assumption); have k4 := cell_below (a := ⟨w.heap.size + 1, 4, none⟩) hb2 (by with_reducible assumption); have k5 := cell_below (a := ⟨w.heap.size, 1, none⟩) hb2 (by with_reducible assumption); have k6 := cell_below (a := ⟨w.heap.size, 2, none⟩) hb2 (by with_reducible assumption); have tx2 := TX.below (by with_reducible assumption) hb2) | (go_split_ands; refine step_app (by rfl) (.tmp 105) (.tmp 111) 33 (by rfl) (w.heap.size + 2) elemTurn _ 1 ([Turn.mk 5 p n 0 0].flatMap turnCells) (by rfl) ?_ _ W.length (W.flatMap turnCells) (by rfl) ?_ (turns_len _) (turns_one _) (by omega) (by omega) ?_ ?_; (first | exact owns_newB _ _ 5 1 _ _ ([Turn.mk 5 p n 0 0].flatMap turnCells) rfl (by decide) rfl (by have := tx2.size; omega) | (exact owns_below (by repeat (first | exact owns_new _ _ 5 1 _ ([Turn.mk 5 p n 0 0].flatMap turnCells) rfl (by decide) (by simp [size_setCell]) | refine owns_drew ?_)) hb2)); (first | exact HTR.out | exact HTR.out.below (below_alloc _ _)); (have hs := TX.size (by with_reducible assumption); omega); intro v' w3 HO HG; obtain ⟨tx3, hcg⟩ := TX.grownAll (by with_reducible assumption) hb (by first | exact owns_newB _ _ 5 1 _ _ ([Turn.mk 5 p n 0 0].flatMap turnCells) rfl (by decide) rfl (by have := tx2.size; omega) | (exact owns_below (by repeat (first | exact owns_new _ _ 5 1 _ ([Turn.mk 5 p n 0 0].flatMap turnCells) rfl (by decide) (by simp [size_setCell]) | refine owns_drew ?_)) hb2)) HG; have g0 := hcg ⟨w.heap.size + 1, 0, none⟩ _ (by simp) (by with_reducible assumption); have g1 := hcg ⟨w.heap.size + 1, 1, none⟩ _ (by simp) (by with_reducible assumption); have g2 := hcg ⟨w.heap.size + 1, 2, none⟩ _ (by simp) (by with_reducible assumption); have g3 := hcg ⟨w.heap.size + 1, 3, none⟩ _ (by simp) (by with_reducible assumption); have g4 := hcg ⟨w.heap.size + 1, 4, none⟩ _ (by simp) (by with_reducible assumption); have g5 := hcg ⟨w.heap.size, 1, none⟩ _ (by simp) (by with_reducible assumption); have g6 := hcg ⟨w.heap.size, 2, none⟩ _ (by simp) (by with_reducible assumption); clear hcg))
  all_goals
    go_wp2
    go_ret
    have hrow := Row.of_owns HO.out
    rw [Nat.add_comm] at hrow
    exact turnsPost_mk HF hrow tx3.room tx3.fr
end
end Go.Proofs.Rm
