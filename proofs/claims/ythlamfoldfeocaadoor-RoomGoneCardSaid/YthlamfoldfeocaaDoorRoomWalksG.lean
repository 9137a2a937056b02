/- The walks of package room, each function once: New, Gone. -/
import Derived.Test.YthlamfoldfeocaaDoorRoomWalks9
import Derived.Test.YthlamfoldfeocaaDoorRoomWalksB
namespace Go.Proofs.Rm
open Go.RowKit Go.Proofs.Heap Go.Proofs.Mem
theorem zeros_at : ∀ j, j < 297 → (((List.range 297).map (roomCell empty)).toArray)[j]? = some (roomCell empty j) := by
  intro j hj
  simp [hj]
set_option maxRecDepth 100000 in
set_option maxHeartbeats 2000000 in
theorem New_any (w : World) : Calls Tryd.prog 11 #[] w fun e w' => e = .returned (.pointer (some ⟨w.heap.size, 0, none⟩)) ∧ RoomAt w' w.heap.size empty ∧ Below w.heap.size w w' := by
  go_enter Tryd.func11, Tryd.ntmps11
  go_wp2
  go_ret
  have HZ : Tryd.zeroCells88 = ((List.range 297).map (roomCell empty)).toArray := by kernel_rfl
  refine ⟨rfl, ⟨⟨_, heap_new _ _, by rw [HZ]; simp, fun j hj => by rw [HZ]; exact zeros_at j hj⟩, fun n _ => Row.nil _ _⟩, below_alloc _ _⟩
theorem ofGo_lt (R : Room) (x : Int) : ∀ k n : Nat, n + k ≤ 9 → 0 ≤ (ofGo R x k n).1 ∧ (ofGo R x k n).1 < 9
  | 0, _, _ => by simp [ofGo]
  | k + 1, n, h => by
    unfold ofGo
    split
    · dsimp only; omega
    · exact ofGo_lt R x k (n + 1) (by omega)
theorem of_lt (R : Room) (x : Int) : 0 ≤ (of R x).1 ∧ (of R x).1 < 9 := ofGo_lt R x 9 0 (by omega)
set_option maxHeartbeats 2000000 in
theorem Gone_any (b : Nat) (R : Room) (p x : Int) (w : World) (hR : RoomAt w b R) :
    Calls Tryd.prog 29 #[.pointer (some ⟨b, 0, none⟩), .int .i64 p, .int .u32 x] w fun e w' =>
      (∃ v, e = .returned (.tuple #[v, .int .i64 (goneOp R p x).2]) ∧ TurnRow w' v (goneOp R p x).1.1) ∧ RoomAt w' b (goneOp R p x).1.2 ∧ Fr w.heap.size (· = b) w w' := by
  have hb := hR.lt
  have CO := Lib.hid (Of_any b R x w hR)
  have hlt := of_lt R x
  have HG : Hid (goneOp R p x = if !(of R x).2.2 || !joined R p || decide ((R.src (of R x).1.toNat).own ≠ p) then (([], R), 8) else (gone R (of R x).1.toNat, 0)) := rfl
  have HR : Hid (∀ w1, Below w.heap.size w w1 → RoomAt w1 b R) := fun w1 h => hR.below h
  clear hR
  generalize of R x = o at *
  obtain ⟨o1, o2, o3⟩ := o
  dsimp only at *
  obtain ⟨n, rfl⟩ := Int.eq_ofNat_of_zero_le hlt.1
  rw [Int.toNat_natCast] at HG
  have hn : n < 9 := by omega
  cases o3
  · have HF : Hid (goneOp R p x = (([], R), 8)) := by show _ = _; rw [HG.out]; rfl
    go_enter Tryd.func29, Tryd.ntmps29
    go_wp2_with (go_at_call 14; refine CO.out.mono ?_; rintro e w1 ⟨rfl, hb1⟩)
    go_ret2
    rw [HF.out]
    exact ⟨⟨_, rfl, Row.nil _ _⟩, HR.out _ hb1, Fr.of_below _ hb1⟩
  have CJ : Hid (∀ w1, Below w.heap.size w w1 → _) := fun w1 h => Joined_any b R p w1 (HR.out w1 h)
  have CG : Hid (∀ w1, Below w.heap.size w w1 → _) := fun w1 h => gone_any b R n w1 (HR.out w1 h) hn
  have HSC : Hid (∀ w1, Below w.heap.size w w1 → w1.cell? ⟨b, 9 + n * 5 + 1 + 1, none⟩ = some (.int .i64 (R.src n).own)) := fun w1 h => ((HR.out w1 h).srcc hn).2.2.1
  cases hj : joined R p
  · have HF : Hid (goneOp R p x = (([], R), 8)) := by show _ = _; rw [HG.out, hj]; rfl
    rw [hj] at CJ
    clear hj
    go_enter Tryd.func29, Tryd.ntmps29
    go_wp2_with (first | (go_at_call 14; refine CO.out.mono ?_; rintro e w1 ⟨rfl, hb1⟩) | (go_at_call 20; refine (CJ.out _ hb1).mono ?_; rintro e w2 ⟨rfl, rfl⟩))
    go_ret2
    rw [HF.out]
    exact ⟨⟨_, rfl, Row.nil _ _⟩, HR.out _ hb1, Fr.of_below _ hb1⟩
  rw [hj] at CJ HG
  clear hj
  by_cases ho : (R.src n).own = p
  · have HF : Hid (goneOp R p x = (gone R n, 0)) := by show _ = _; rw [HG.out]; simp [ho]
    rw [ho] at HSC
    clear ho HG
    generalize gone R n = G at *
    go_enter Tryd.func29, Tryd.ntmps29
    go_wp2_with (first | (go_at_call 14; refine CO.out.mono ?_; rintro e w1 ⟨rfl, hb1⟩; have hsc := HSC.out _ hb1) | (go_at_call 20; refine (CJ.out _ hb1).mono ?_; rintro e w2 ⟨rfl, rfl⟩) | (go_at_call 50; refine (CG.out _ hb1).mono ?_; rintro e w2 ⟨⟨tv, rfl, htr⟩, hroom, hfr⟩))
    go_ret2
    rw [HF.out]
    exact ⟨⟨_, rfl, htr⟩, hroom, (Fr.of_below _ hb1).trans (hfr.mono hb1.size (fun _ _ h => h))⟩
  · have HF : Hid (goneOp R p x = (([], R), 8)) := by show _ = _; rw [HG.out]; simp [ho]
    have hbq : ((R.src n).own != p) = true := by rw [bne_iff_ne]; exact ho
    clear ho HG
    go_enter Tryd.func29, Tryd.ntmps29
    go_wp2_with (first | (go_at_call 14; refine CO.out.mono ?_; rintro e w1 ⟨rfl, hb1⟩; have hsc := HSC.out _ hb1) | (go_at_call 20; refine (CJ.out _ hb1).mono ?_; rintro e w2 ⟨rfl, rfl⟩))
    go_ret2
    rw [HF.out]
    exact ⟨⟨_, rfl, Row.nil _ _⟩, HR.out _ hb1, Fr.of_below _ hb1⟩
end Go.Proofs.Rm
