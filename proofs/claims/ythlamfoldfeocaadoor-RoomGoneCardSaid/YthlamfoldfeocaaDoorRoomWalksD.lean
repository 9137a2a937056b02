/- The walks of package room, each function once: wrong, Gone, New. -/
import Derived.Test.YthlamfoldfeocaaDoorRoomWalksC
import Derived.Test.YthlamfoldfeocaaDoorRoomWalks9
import Derived.Test.YthlamfoldfeocaaDoorRoomWalksB
namespace Go.Proofs.Rm
open Go.RowKit Go.Proofs.Heap Go.Proofs.Mem
open Go.Proofs.Lab (may key Tabs)
set_option maxRecDepth 100000 in
set_option maxHeartbeats 4000000 in
theorem wrong_any (b : Nat) (R : Room) (o : Op) (sa ba : Option Addr) (sc bl bc : Nat) (w : World) (hR : RoomAt w b R) (hT : Tabs w) (hnm : o.name.length < 9223372036854775807) (hRn : ∀ p, (R.names p).length < 9223372036854775807)
    (hrow : RRow w (.slice sa o.ssrcs.length sc) o.ssrcs.length (u32s o.ssrcs)) :
    Calls Tryd.prog 34 #[.pointer (some ⟨b, 0, none⟩), .agg #[.int .i64 o.kind, .int .i64 o.peer, .int .i64 o.source, .int .i64 o.layer, .string (str o.name), .slice sa o.ssrcs.length sc, .slice ba bl bc]] w fun e w' => e = .returned (.int .i64 (wrong R o)) ∧ Below w.heap.size w w' := by
  have CJ := Lib.hid (fun (w1 : World) (h : Below w.heap.size w w1) (hp : 1 ≤ o.peer ∧ o.peer < 9) => joins_any b R o sa ba o.ssrcs.length sc bl bc w1 (hR.below h) hp (Utf8Tabs_below hT h) hnm hRn)
  have CP := Lib.hid (fun (w1 : World) (h : Below w.heap.size w w1) (hs : 1 ≤ o.source ∧ o.source < 9) => publishes_any b R o sa ba sc bl bc w1 (hR.below h) hs (hrow.below h))
  have CA := Lib.hid (fun (w1 : World) (h : Below w.heap.size w w1) (hs : 1 ≤ o.source ∧ o.source < 9) (hp : 1 ≤ o.peer ∧ o.peer < 9) => about_any b R o sa ba o.ssrcs.length sc bl bc w1 (hR.below h) hs hp)
  have CT := Lib.hid (fun (w1 : World) (h : Below w.heap.size w w1) => Joined_any b R o.peer w1 (hR.below h))
  have C1 := Lib.hid (fun (w1 : World) => in_any o.peer 9 w1)
  have C2 := Lib.hid (fun (w1 : World) => in_any o.source 9 w1)
  obtain ⟨kd, p, n, q, nm, ss⟩ := o
  have hb := hR.lt
  have HW : Hid (wrong R ⟨kd, p, n, q, nm, ss⟩ = if kd < 2 ∨ 12 < kd then 4
    else if !inn p 9 then 5
    else if kd = 2 then joins R ⟨kd, p, n, q, nm, ss⟩
    else if !joined R p then 8
    else if kd = 3 then 0
    else if !inn n 9 then 5
    else if kd = 4 then publishes R ⟨kd, p, n, q, nm, ss⟩
    else if !(R.src n.toNat).there then 8
    else about R ⟨kd, p, n, q, nm, ss⟩) := rfl
  have HI1 := Lib.hid (inn_iff p 9)
  have HI2 := Lib.hid (inn_iff n 9)
  have HR := Lib.hid hR
  dsimp only at *
  clear hR hT hnm hRn hrow
  generalize wrong R ⟨kd, p, n, q, nm, ss⟩ = wr0 at *
  generalize joins R ⟨kd, p, n, q, nm, ss⟩ = jn at *
  generalize publishes R ⟨kd, p, n, q, nm, ss⟩ = pb at *
  generalize about R ⟨kd, p, n, q, nm, ss⟩ = ab at *
  generalize joined R p = jd at *
  by_cases h1 : kd < 2
  · have HF : Hid (wr0 = 4) := by show _ = _; rw [HW.out, if_pos (Or.inl h1)]
    go_enter Tryd.func34, Tryd.ntmps34
    go_wp2
    go_ret
    exact ⟨ret_int HF.out.symm, below_alloc _ _⟩
  by_cases h2 : 12 < kd
  · have HF : Hid (wr0 = 4) := by show _ = _; rw [HW.out, if_pos (Or.inr h2)]
    go_enter Tryd.func34, Tryd.ntmps34
    go_wp2
    go_ret
    exact ⟨ret_int HF.out.symm, below_alloc _ _⟩
  have HW2 : Hid (wr0 = if !inn p 9 then 5
    else if kd = 2 then jn
    else if !jd then 8
    else if kd = 3 then 0
    else if !inn n 9 then 5
    else if kd = 4 then pb
    else if !(R.src n.toNat).there then 8
    else ab) := by show _ = _; rw [HW.out, if_neg (by omega)]
  clear HW
  cases hip : inn p 9
  · have HF : Hid (wr0 = 5) := by show _ = _; rw [HW2.out, hip]; rfl
    rw [hip] at C1
    clear hip HW2
    go_enter Tryd.func34, Tryd.ntmps34
    go_wp2_with (go_at_call 44; refine (C1.out _).mono ?_; rintro e w1 ⟨rfl, rfl⟩)
    go_ret
    exact ⟨ret_int HF.out.symm, below_alloc _ _⟩
  have hp9 := HI1.out.1 hip
  rw [hip] at C1 HW2
  clear hip HI1
  by_cases h3 : kd = 2
  · subst h3
    have HF : Hid (wr0 = jn) := by show _ = _; rw [HW2.out]; rfl
    clear HW2
    go_enter Tryd.func34, Tryd.ntmps34
    go_wp2_with (first | (go_at_call 44; refine (C1.out _).mono ?_; rintro e w1 ⟨rfl, rfl⟩) | (go_at_call 52; refine (CJ.out _ (below_alloc _ _) hp9).mono ?_; rintro e w1 ⟨rfl, hb1⟩))
    go_ret
    exact ⟨ret_int HF.out.symm, (below_alloc _ _).trans (hb1.mono (by simp))⟩
  have HW3 : Hid (wr0 = if !jd then 8
    else if kd = 3 then 0
    else if !inn n 9 then 5
    else if kd = 4 then pb
    else if !(R.src n.toNat).there then 8
    else ab) := by show _ = _; rw [HW2.out]; simp [h3]
  have b3 : (kd == 2) = false := by rw [beq_eq_false_iff_ne]; exact h3
  clear HW2 h3
  cases jd
  · have HF : Hid (wr0 = 8) := by show _ = _; rw [HW3.out]; rfl
    clear HW3
    go_enter Tryd.func34, Tryd.ntmps34
    go_wp2_with (first | (go_at_call 44; refine (C1.out _).mono ?_; rintro e w1 ⟨rfl, rfl⟩) | (go_at_call 20; refine (CT.out _ (below_alloc _ _)).mono ?_; rintro e w1 ⟨rfl, rfl⟩))
    go_ret
    exact ⟨ret_int HF.out.symm, below_alloc _ _⟩
  by_cases h4 : kd = 3
  · subst h4
    have HF : Hid (wr0 = 0) := by show _ = _; rw [HW3.out]; rfl
    clear HW3
    go_enter Tryd.func34, Tryd.ntmps34
    go_wp2_with (first | (go_at_call 44; refine (C1.out _).mono ?_; rintro e w1 ⟨rfl, rfl⟩) | (go_at_call 20; refine (CT.out _ (below_alloc _ _)).mono ?_; rintro e w1 ⟨rfl, rfl⟩))
    go_ret
    exact ⟨ret_int HF.out.symm, below_alloc _ _⟩
  have b4 : (kd == 3) = false := by rw [beq_eq_false_iff_ne]; exact h4
  have HW4 : Hid (wr0 = if !inn n 9 then 5
    else if kd = 4 then pb
    else if !(R.src n.toNat).there then 8
    else ab) := by show _ = _; rw [HW3.out]; simp [h4]
  clear HW3 h4
  cases hin : inn n 9
  · have HF : Hid (wr0 = 5) := by show _ = _; rw [HW4.out, hin]; rfl
    rw [hin] at C2
    clear hin HW4
    go_enter Tryd.func34, Tryd.ntmps34
    go_wp2_with fail
    refine (C1.out _).mono ?_
    rintro e w1 ⟨rfl, rfl⟩
    go_wp2_with (first | (go_at_call 20; refine (CT.out _ (below_alloc _ _)).mono ?_; rintro e w1 ⟨rfl, rfl⟩) | (go_at_call 44; refine (C2.out _).mono ?_; rintro e w1 ⟨rfl, rfl⟩))
    go_ret
    exact ⟨ret_int HF.out.symm, below_alloc _ _⟩
  have hn9 := HI2.out.1 hin
  rw [hin] at C2 HW4
  clear hin HI2
  by_cases h5 : kd = 4
  · subst h5
    have HF : Hid (wr0 = pb) := by show _ = _; rw [HW4.out]; rfl
    clear HW4
    go_enter Tryd.func34, Tryd.ntmps34
    go_wp2_with fail
    refine (C1.out _).mono ?_
    rintro e w1 ⟨rfl, rfl⟩
    go_wp2_with (first | (go_at_call 20; refine (CT.out _ (below_alloc _ _)).mono ?_; rintro e w1 ⟨rfl, rfl⟩) | (go_at_call 44; refine (C2.out _).mono ?_; rintro e w1 ⟨rfl, rfl⟩) | (go_at_call 53; refine (CP.out _ (below_alloc _ _) hn9).mono ?_; rintro e w1 ⟨rfl, hb1⟩))
    go_ret
    exact ⟨ret_int HF.out.symm, (below_alloc _ _).trans (hb1.mono (by simp))⟩
  have HW5 : Hid (wr0 = if !(R.src n.toNat).there then 8 else ab) := by show _ = _; rw [HW4.out]; simp [h5]
  have b5 : (kd == 4) = false := by rw [beq_eq_false_iff_ne]; exact h5
  clear HW4 h5
  obtain ⟨n, rfl⟩ := Int.eq_ofNat_of_zero_le (show 0 ≤ n by omega)
  rw [Int.toNat_natCast] at HW5
  obtain ⟨s0, s1, s2, s3, s4⟩ := HR.out.srcc (n := n) (by omega)
  clear s1 s2 s3 s4
  cases ht : (R.src n).there
  · have HF : Hid (wr0 = 8) := by show _ = _; rw [HW5.out, ht]; rfl
    rw [ht] at s0
    clear ht HW5
    go_enter Tryd.func34, Tryd.ntmps34
    go_wp2_with fail
    refine (C1.out _).mono ?_
    rintro e w1 ⟨rfl, rfl⟩
    go_wp2_with (first | (go_at_call 20; refine (CT.out _ (below_alloc _ _)).mono ?_; rintro e w1 ⟨rfl, rfl⟩) | (go_at_call 44; refine (C2.out _).mono ?_; rintro e w1 ⟨rfl, rfl⟩))
    go_quiet (fail)
    go_wp2
    go_ret
    exact ⟨ret_int HF.out.symm, below_drewN (below_alloc _ _) _⟩
  · have HF : Hid (wr0 = ab) := by show _ = _; rw [HW5.out, ht]; rfl
    rw [ht] at s0
    clear ht HW5
    go_enter Tryd.func34, Tryd.ntmps34
    go_wp2_with fail
    refine (C1.out _).mono ?_
    rintro e w1 ⟨rfl, rfl⟩
    go_wp2_with (first | (go_at_call 20; refine (CT.out _ (below_alloc _ _)).mono ?_; rintro e w1 ⟨rfl, rfl⟩) | (go_at_call 44; refine (C2.out _).mono ?_; rintro e w1 ⟨rfl, rfl⟩))
    go_quiet (fail)
    go_wp2_with (go_at_call 54; refine (CA.out _ (below_drewN (below_alloc _ _) _) hn9 hp9).mono ?_; rintro e w1 ⟨rfl, hb1⟩)
    go_ret
    exact ⟨ret_int HF.out.symm, (below_drewN (below_alloc _ _) _).trans (hb1.mono (by simp))⟩
end Go.Proofs.Rm
