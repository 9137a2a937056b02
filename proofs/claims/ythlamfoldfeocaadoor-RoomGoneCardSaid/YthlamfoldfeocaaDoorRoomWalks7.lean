/- The walks of package room, each function once: about. -/
import Derived.Test.YthlamfoldfeocaaDoorRoomWalks6
namespace Go.Proofs.Rm
open Go.RowKit Go.Proofs.Heap Go.Proofs.Mem
set_option maxHeartbeats 4000000 in
theorem about_any (b : Nat) (R : Room) (o : Op) (sa ba : Option Addr) (sl sc bl bc : Nat) (w : World) (hR : RoomAt w b R) (hs : 1 ≤ o.source ∧ o.source < 9) (hp : 1 ≤ o.peer ∧ o.peer < 9) :
    Calls Tryd.prog 54 #[.pointer (some ⟨b, 0, none⟩), .agg #[.int .i64 o.kind, .int .i64 o.peer, .int .i64 o.source, .int .i64 o.layer, .string (str o.name), .slice sa sl sc, .slice ba bl bc]] w fun e w' => e = .returned (.int .i64 (about R o)) ∧ Below w.heap.size w w' := by
  have CL := Lib.hid (fun (w1 : World) (h : Below w.heap.size w w1) => layer_any b R o sa ba sl sc bl bc w1 (hR.below h) hs)
  have CH := Lib.hid (fun (w1 : World) (h : Below w.heap.size w w1) => heard_any b R o sa ba sl sc bl bc w1 (hR.below h) hs hp)
  obtain ⟨k, p, n, q, nm, ss⟩ := o
  obtain ⟨n, rfl⟩ := Int.eq_ofNat_of_zero_le (show 0 ≤ n by have := hs.1; dsimp only at this; omega)
  obtain ⟨p, rfl⟩ := Int.eq_ofNat_of_zero_le (show 0 ≤ p by have := hp.1; dsimp only at this; omega)
  have hn : n < 9 := by have := hs.2; dsimp only at this; omega
  have hp9 : p < 9 := by have := hp.2; dsimp only at this; omega
  obtain ⟨c0, c1, c2⟩ := hR.subc hn hp9
  obtain ⟨s0, s1, s2, s3, s4⟩ := hR.srcc hn
  have hb := hR.lt
  have HL : Hid (about R ⟨k, p, n, q, nm, ss⟩ = (if k = 5 ∨ k = 8 ∨ k = 9 then
      (if (R.src n).own ≠ p then 10 else if k = 8 ∧ (R.src n).muted = true then 9 else if k = 9 ∧ (R.src n).muted = false then 11 else 0)
    else if k = 6 then (if (R.src n).own = p then 10 else if (R.sub n p).there then 9 else layer R ⟨k, p, n, q, nm, ss⟩)
    else heard R ⟨k, p, n, q, nm, ss⟩)) := rfl
  obtain ⟨va, vc, hsv, hx⟩ := hR.rows n hn
  rw [hsv] at s3
  clear hR hs hp hsv hx
  dsimp only at CL CH HL ⊢
  generalize layer R ⟨k, p, n, q, nm, ss⟩ = ly at *
  generalize heard R ⟨k, p, n, q, nm, ss⟩ = hd at *
  generalize about R ⟨k, p, n, q, nm, ss⟩ = ab at *
  generalize (R.sub n p).there = t0 at *
  generalize (R.src n).there = u0 at *
  generalize (R.src n).num = u1 at *
  generalize (R.src n).own = u2 at *
  generalize (R.src n).muted = u4 at *
  generalize (R.src n).ss.length = vl at *
  go_enter Tryd.func54, Tryd.ntmps54
  go_wp2
  go_region
  go_wp2_with (first | (go_at_call 73; refine (CL.out _ (by repeat (first | exact Below.refl _ _ | refine Below.drew ?_ | refine Below.alloc ?_ (by simp) _))).mono ?_; rintro e w1 ⟨rfl, hb1⟩) | (go_at_call 74; refine (CH.out _ (by repeat (first | exact Below.refl _ _ | refine Below.drew ?_ | refine Below.alloc ?_ (by simp) _))).mono ?_; rintro e w1 ⟨rfl, hb1⟩))
  all_goals try (go_region; go_wp2_with (first | (go_at_call 73; refine (CL.out _ (by repeat (first | exact Below.refl _ _ | refine Below.drew ?_ | refine Below.alloc ?_ (by simp) _))).mono ?_; rintro e w1 ⟨rfl, hb1⟩) | (go_at_call 74; refine (CH.out _ (by repeat (first | exact Below.refl _ _ | refine Below.drew ?_ | refine Below.alloc ?_ (by simp) _))).mono ?_; rintro e w1 ⟨rfl, hb1⟩)))
  all_goals (go_ret; refine ⟨ret_int ?_, ?_⟩)
  all_goals try (refine Below.trans ?_ (hb1.mono (by simp; omega)))
  all_goals try (refine Below.drew ?_)
  all_goals try (refine Below.drew ?_)
  all_goals try (refine Below.alloc (Below.alloc (Below.refl _ _) (Nat.le_refl _) _) (by simp) _)
  all_goals try (rw [HL.out]; first | (simp [*]; done) | (simp_all; done) | skip)
  go_goals
end Go.Proofs.Rm
