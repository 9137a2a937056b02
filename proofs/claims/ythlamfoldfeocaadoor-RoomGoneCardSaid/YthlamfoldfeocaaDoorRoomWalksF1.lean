/- The walks of package room, each function once: turns (publish). -/
import Derived.Test.YthlamfoldfeocaaDoorRoomWalksF
namespace Go.Proofs.Rm
open Go.RowKit Go.Proofs.Heap Go.Proofs.Mem
theorem cell_set1 {w : World} {b m i j : Nat} {u v : Value} (hb : b < m) (h : w.cell? ⟨m, j, none⟩ = some v) : (w.setCell ⟨b, i, none⟩ u).cell? ⟨m, j, none⟩ = some v := by
  rw [World.cell?_setCell_other _ _ _ _ (by intro e; injection e; omega)]; exact h
theorem cell_set5 {w : World} {b m j i0 i1 i2 i3 i4 : Nat} {u0 u1 u2 u3 u4 v : Value} (hb : b < m) (h : w.cell? ⟨m, j, none⟩ = some v) : (((((w.setCell ⟨b, i0, none⟩ u0).setCell ⟨b, i1, none⟩ u1).setCell ⟨b, i2, none⟩ u2).setCell ⟨b, i3, none⟩ u3).setCell ⟨b, i4, none⟩ u4).cell? ⟨m, j, none⟩ = some v :=
  cell_set1 hb (cell_set1 hb (cell_set1 hb (cell_set1 hb (cell_set1 hb h))))
theorem size_set5 {w : World} {b m i0 i1 i2 i3 i4 : Nat} {u0 u1 u2 u3 u4 : Value} (h : m < w.heap.size) : m < (((((w.setCell ⟨b, i0, none⟩ u0).setCell ⟨b, i1, none⟩ u1).setCell ⟨b, i2, none⟩ u2).setCell ⟨b, i3, none⟩ u3).setCell ⟨b, i4, none⟩ u4).heap.size := by
  simpa [size_setCell] using h
section
variable (b : Nat) (R : Room) (p n q : Int) (nm : List UInt8) (ss : List Int) (sa ba : Option Addr) (sl sc bl bc : Nat) (w : World) (hR : RoomAt w b R)
include hR
set_option maxRecDepth 100000 in
set_option maxHeartbeats 4000000 in
theorem turns_publish (hp : 1 ≤ p ∧ p < 9) (hn : 1 ≤ n ∧ n < 9) (hrow : RRow w (.slice sa sl sc) ss.length (u32s ss)) (hl : ss.length ≤ 1000000) :
    Calls Tryd.prog 35 #[.pointer (some ⟨b, 0, none⟩), .agg #[.int .i64 4, .int .i64 p, .int .i64 n, .int .i64 q, .string (str nm), .slice sa sl sc, .slice ba bl bc]] w (TurnsPost b R ⟨4, p, n, q, nm, ss⟩ w) := by
  obtain ⟨p, rfl⟩ := Int.eq_ofNat_of_zero_le (show 0 ≤ p by omega)
  have hp9 : p < 9 := by omega
  obtain ⟨n, rfl⟩ := Int.eq_ofNat_of_zero_le (show 0 ≤ n by omega)
  have hn9 : n < 9 := by omega
  have hb := hR.lt
  have HRW : Hid (∀ w1, Below w.heap.size w w1 → RoomAt w1 b R) := fun w1 h => hR.below h
  have HSL : Hid (sl = ss.length) := by
    obtain ⟨a', c', e, _⟩ := hrow
    injection e
  have HUF : Hid (∀ w1, RoomAt w1 b R → ∀ j, w1.frozen? ⟨b, j, none⟩ = false) := fun w1 h j => h.unfrozen j
  have C := Lib.hid (fun (w1 : World) (h : Below w.heap.size w w1) => Clone_any (.slice sa sl sc) ss w1 (hrow.below h) hl)
  have hbw : ∀ A B : Obj, Below w.heap.size w ((w.alloc A).alloc B).drew := fun A B => (((Below.refl _ _).alloc (Nat.le_refl _) A).alloc (by simp) B).drew
  clear hR hrow hl
  go_enter Tryd.func35, Tryd.ntmps35
  go_wp2
  go_region_held3 (fun w' => w'.cell? ⟨w.heap.size, 1, none⟩ = some (.int .i64 p) ∧ w'.cell? ⟨w.heap.size, 2, none⟩ = some (.int .i64 n) ∧ w'.cell? ⟨w.heap.size, 5, none⟩ = some (.slice sa sl sc) ∧ Fr w.heap.size (· = b) w w' ∧ w.heap.size + 1 < w'.heap.size) (first | (refine ⟨?_, ?_, ?_, ?_, ?_⟩ <;> first | with_reducible assumption | (with_reducible refine Fr.drew ?_; with_reducible assumption) | (with_reducible refine Fr.of_below _ ?_; with_reducible apply hbw) | ((with_reducible refine Fr.setAt ?_ _ _); (repeat (with_reducible refine Fr.setAt ?_ _ _)); with_reducible assumption) | (with_reducible refine cell_set5 hb ?_; with_reducible assumption) | (with_reducible refine size_set5 ?_; with_reducible assumption) | go_keep) | go_keep) (first | (go_at_call 45; go_split_ands; refine Calls.mono (C.out _ (hbw _ _)) ?_; rintro e w2 ⟨⟨cv, rfl, hcr⟩, hb2⟩; have hbl2 := Below.trans (hbw _ _) (hb2.mono (Nat.le_of_lt (Nat.lt_of_succ_lt (by with_reducible assumption)))); have hfr2 := Fr.of_below (· = b) hbl2; have hsz2 := Nat.lt_of_lt_of_le (by with_reducible assumption) hb2.size; obtain ⟨ca, cc, hce, hcx⟩ := id hcr; clear hcx; subst hce; have HCR := Lib.hid hcr; clear hcr; obtain ⟨s0, s1, s2, s3, s4⟩ := (HRW.out w2 hbl2).srcc hn9; have f0 := HUF.out w2 (HRW.out w2 hbl2) (9 + n * 5); have f1 := HUF.out w2 (HRW.out w2 hbl2) (9 + n * 5 + 1); have f2 := HUF.out w2 (HRW.out w2 hbl2) (9 + n * 5 + 2); have f3 := HUF.out w2 (HRW.out w2 hbl2) (9 + n * 5 + 3); have f4 := HUF.out w2 (HRW.out w2 hbl2) (9 + n * 5 + 4); have k1 := cell_below (a := ⟨w.heap.size, 1, none⟩) hb2 (by with_reducible assumption); have k2 := cell_below (a := ⟨w.heap.size, 2, none⟩) hb2 (by with_reducible assumption); have k5 := cell_below (a := ⟨w.heap.size, 5, none⟩) hb2 (by with_reducible assumption)))
  go_wp2
  go_ret
  have HF : Hid (turns R ⟨4, p, n, q, nm, ss⟩ (.slice ca ss.length cc) = ([], R.setSrc n ⟨true, n, p, .slice ca ss.length cc, ss, false⟩)) := rfl
  exact turnsPost_mk HF (Row.nil _ _) ((HRW.out w2 hbl2).setSrc hn9 ⟨true, n, p, .slice ca ss.length cc, ss, false⟩ HCR.out) (((((hfr2.setAt _ _).setAt _ _).setAt _ _).setAt _ _).setAt _ _)
end
end Go.Proofs.Rm
