/- The walks of package room, each function once: hears, about. -/
import Derived.Test.YthlamfoldfeocaaDoorRoomWalks5
namespace Go.Proofs.Rm
open Go.RowKit Go.Proofs.Heap Go.Proofs.Mem
set_option maxHeartbeats 2000000 in
theorem heard_any (b : Nat) (R : Room) (o : Op) (sa ba : Option Addr) (sl sc bl bc : Nat) (w : World) (hR : RoomAt w b R) (hs : 1 ≤ o.source ∧ o.source < 9) (hp : 1 ≤ o.peer ∧ o.peer < 9) :
    Calls Tryd.prog 74 #[.pointer (some ⟨b, 0, none⟩), .agg #[.int .i64 o.kind, .int .i64 o.peer, .int .i64 o.source, .int .i64 o.layer, .string (str o.name), .slice sa sl sc, .slice ba bl bc]] w fun e w' => e = .returned (.int .i64 (heard R o)) ∧ Below w.heap.size w w' := by
  have CL := Lib.hid (fun (w1 : World) (h : Below w.heap.size w w1) => layer_any b R o sa ba sl sc bl bc w1 (hR.below h) hs)
  obtain ⟨k, p, n, q, nm, ss⟩ := o
  obtain ⟨n, rfl⟩ := Int.eq_ofNat_of_zero_le (show 0 ≤ n by have := hs.1; dsimp only at this; omega)
  obtain ⟨p, rfl⟩ := Int.eq_ofNat_of_zero_le (show 0 ≤ p by have := hp.1; dsimp only at this; omega)
  have hn : n < 9 := by have := hs.2; dsimp only at this; omega
  have hp9 : p < 9 := by have := hp.2; dsimp only at this; omega
  obtain ⟨c0, c1, c2⟩ := hR.subc hn hp9
  have hb := hR.lt
  have HL : Hid (heard R ⟨k, p, n, q, nm, ss⟩ = (let x := R.sub n p
      if !x.there then 8 else if k = 10 ∧ x.paused = true then 9 else if k = 11 ∧ x.paused = false then 11 else if k ≠ 12 then 0
      else if layer R ⟨k, p, n, q, nm, ss⟩ ≠ 0 then layer R ⟨k, p, n, q, nm, ss⟩ else if x.want = q then 9 else 0)) := rfl
  clear hR hs hp
  dsimp only at CL HL ⊢
  generalize layer R ⟨k, p, n, q, nm, ss⟩ = ly at *
  generalize heard R ⟨k, p, n, q, nm, ss⟩ = hd at *
  generalize (R.sub n p).there = t0 at *
  generalize (R.sub n p).paused = t1 at *
  generalize (R.sub n p).want = t2 at *
  go_enter Tryd.func74, Tryd.ntmps74
  go_wp2
  go_region
  go_wp2_with (go_at_call 73; refine (CL.out _ (by repeat (first | exact Below.refl _ _ | refine Below.drew ?_ | refine Below.alloc ?_ (by simp) _))).mono ?_; rintro e w1 ⟨rfl, hb1⟩; obtain ⟨hcl, hfz⟩ := bcell hb1)
  all_goals (go_ret; refine ⟨ret_int ?_, ?_⟩)
  all_goals try (refine Below.trans ?_ (hb1.mono (by simp; omega)))
  all_goals try (refine Below.drew ?_)
  all_goals try (refine Below.alloc (Below.alloc (Below.refl _ _) (Nat.le_refl _) _) (by simp) _)
  all_goals (rw [HL.out]; first | (simp [*]; done) | (simp_all; done) | skip)
end Go.Proofs.Rm
