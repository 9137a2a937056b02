/- The walks of package room, each function once: why an operation may not be done. -/
import Derived.Test.YthlamfoldfeocaaDoorRoomWalks4
namespace Go.Proofs.Rm
open Go.RowKit Go.Proofs.Heap Go.Proofs.Mem
theorem below_drewN {B : Nat} {a w : World} (h : Below B a w) : ∀ q, Below B a (w.drewN q)
  | 0 => h
  | q + 1 => (below_drewN h q).drew
/-- An operation as a value: its texts' bytes and its two slices beside it. -/
def opAgg (o : Op) (sv bv : Value) : Value := .agg #[.int .i64 o.kind, .int .i64 o.peer, .int .i64 o.source, .int .i64 o.layer, .string (str o.name), sv, bv]
set_option maxHeartbeats 1000000 in
theorem layer_any (b : Nat) (R : Room) (o : Op) (sa ba : Option Addr) (sl sc bl bc : Nat) (w : World) (hR : RoomAt w b R) (hs : 1 ≤ o.source ∧ o.source < 9) :
    Calls Tryd.prog 73 #[.pointer (some ⟨b, 0, none⟩), .agg #[.int .i64 o.kind, .int .i64 o.peer, .int .i64 o.source, .int .i64 o.layer, .string (str o.name), .slice sa sl sc, .slice ba bl bc]] w fun e w' => e = .returned (.int .i64 (layer R o)) ∧ Below w.heap.size w w' := by
  obtain ⟨k, p, n, q, nm, ss⟩ := o
  obtain ⟨n, rfl⟩ := Int.eq_ofNat_of_zero_le (show 0 ≤ n by have := hs.1; dsimp only at this; omega)
  have hn : n < 9 := by have := hs.2; dsimp only at this; omega
  obtain ⟨s0, s1, s2, s3, s4⟩ := hR.srcc hn
  have hb := hR.lt
  have HL : Hid (layer R ⟨k, p, n, q, nm, ss⟩ = if q < 0 ∨ ((R.src n).ss.length : Int) ≤ q then 5 else 0) := rfl
  have hlen := (hR.rows n hn).len
  obtain ⟨va, vc, hsv, hx⟩ := hR.rows n hn
  rw [hsv] at s3
  clear hR hs hx hsv
  generalize (R.src n).ss.length = L at *
  dsimp only
  by_cases h1 : q < 0
  · have HF : Hid (layer R ⟨k, p, n, q, nm, ss⟩ = 5) := by show _ = _; rw [HL.out, if_pos (Or.inl h1)]
    go_enter Tryd.func73, Tryd.ntmps73
    go_wp2
    go_quiet (fail)
    go_wp2
    go_ret
    exact ⟨ret_int HF.out.symm, by repeat (first | exact Below.refl _ _ | refine below_drewN ?_ _ | refine Below.drew ?_ | refine Below.alloc ?_ (by simp) _)⟩
  · by_cases h2 : (L : Int) ≤ q
    · have HF : Hid (layer R ⟨k, p, n, q, nm, ss⟩ = 5) := by show _ = _; rw [HL.out, if_pos (Or.inr h2)]
      have hd1 : decide (q < 0) = false := decide_eq_false h1
      have hd2 : decide ((L : Int) ≤ q) = true := decide_eq_true h2
      go_enter Tryd.func73, Tryd.ntmps73
      go_wp2
      go_quiet (fail)
      go_wp2
      go_ret
      exact ⟨ret_int HF.out.symm, by repeat (first | exact Below.refl _ _ | refine below_drewN ?_ _ | refine Below.drew ?_ | refine Below.alloc ?_ (by simp) _)⟩
    · have HF : Hid (layer R ⟨k, p, n, q, nm, ss⟩ = 0) := by show _ = _; rw [HL.out, if_neg (by omega)]
      have hd1 : decide (q < 0) = false := decide_eq_false h1
      have hd2 : decide ((L : Int) ≤ q) = false := decide_eq_false h2
      go_enter Tryd.func73, Tryd.ntmps73
      go_wp2
      go_quiet (fail)
      go_wp2
      go_ret
      exact ⟨ret_int HF.out.symm, by repeat (first | exact Below.refl _ _ | refine below_drewN ?_ _ | refine Below.drew ?_ | refine Below.alloc ?_ (by simp) _)⟩
end Go.Proofs.Rm
