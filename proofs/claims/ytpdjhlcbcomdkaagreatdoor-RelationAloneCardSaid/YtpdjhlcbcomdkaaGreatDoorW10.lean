/- Several texts in one: The walks of package room, each function once: wrong, Gone, New. The walks of package room, each function once: turns (most kinds). The walks of package room, each function once: turns (publish, resume, switch). The walks of package room, each function once: turns (publish). The walks of package room, each function once: turns (resume). The walks of package room, each function once: turns (switch). The walks of package room, each function once: turns (all kinds), Do. -/
import Derived.Deep.RegionHeld3
import Derived.Test.YtpdjhlcbcomdkaaGreatDoorW01
import Derived.Test.YtpdjhlcbcomdkaaGreatDoorW05
import Derived.Test.YtpdjhlcbcomdkaaGreatDoorW09
set_option linter.unusedVariables false
set_option linter.unusedSimpArgs false
namespace Go.Proofs.Rm
open Go.RowKit Go.Proofs.Heap Go.Proofs.Mem
open Go.Proofs.Lab (may key Tabs)
set_option maxRecDepth 100000 in
set_option maxHeartbeats 4000000 in
theorem wrong_any (b : Nat) (R : Room) (o : Op) (sa ba : Option Addr) (sc bl bc : Nat) (w : World) (hR : RoomAt w b R) (hT : Tabs w) (hnm : o.name.length < 9223372036854775807) (hRn : ∀ p, (R.names p).length < 9223372036854775807)
    (hrow : RRow w (.slice sa o.ssrcs.length sc) o.ssrcs.length (u32s o.ssrcs)) :
    Calls Tryz.prog 109 #[.pointer (some ⟨b, 0, none⟩), .agg #[.int .i64 o.kind, .int .i64 o.peer, .int .i64 o.source, .int .i64 o.layer, .string (str o.name), .slice sa o.ssrcs.length sc, .slice ba bl bc]] w fun e w' => e = .returned (.int .i64 (wrong R o)) ∧ Below w.heap.size w w' := by
  have CJ := Lib.hid (fun (w1 : World) (h : Below w.heap.size w w1) (hp : 1 ≤ o.peer ∧ o.peer < 9) => joins_any b R o sa ba o.ssrcs.length sc bl bc w1 (hR.below h) hp (Utf8Tabs_below hT h) hnm hRn)
  have CP := Lib.hid (fun (w1 : World) (h : Below w.heap.size w w1) (hs : 1 ≤ o.source ∧ o.source < 9) => publishes_any b R o sa ba sc bl bc w1 (hR.below h) hs (hrow.below h))
  have CA := Lib.hid (fun (w1 : World) (h : Below w.heap.size w w1) (hs : 1 ≤ o.source ∧ o.source < 9) (hp : 1 ≤ o.peer ∧ o.peer < 9) => about_any b R o sa ba o.ssrcs.length sc bl bc w1 (hR.below h) hs hp)
  have CT := Lib.hid (fun (w1 : World) (h : Below w.heap.size w w1) => Joined_any b R o.peer w1 (hR.below h))
  have C1 := Lib.hid (fun (w1 : World) => in_any o.peer 9 w1)
  have C2 := Lib.hid (fun (w1 : World) => in_any o.source 9 w1)
  obtain ⟨kd, p, n, q, nm, ss⟩ := o
  have hb := hR.lt
  have HW : Hid (wrong R ⟨kd, p, n, q, nm, ss⟩ = if kd < 2 ∨ 12 < kd then 4
    else if !inn p 9 then 5
    else if kd = 2 then joins R ⟨kd, p, n, q, nm, ss⟩
    else if !joined R p then 8
    else if kd = 3 then 0
    else if !inn n 9 then 5
    else if kd = 4 then publishes R ⟨kd, p, n, q, nm, ss⟩
    else if !(R.src n.toNat).there then 8
    else about R ⟨kd, p, n, q, nm, ss⟩) := rfl
  have HI1 := Lib.hid (inn_iff p 9)
  have HI2 := Lib.hid (inn_iff n 9)
  have HR := Lib.hid hR
  dsimp only at *
  clear hR hT hnm hRn hrow
  generalize wrong R ⟨kd, p, n, q, nm, ss⟩ = wr0 at *
  generalize joins R ⟨kd, p, n, q, nm, ss⟩ = jn at *
  generalize publishes R ⟨kd, p, n, q, nm, ss⟩ = pb at *
  generalize about R ⟨kd, p, n, q, nm, ss⟩ = ab at *
  generalize joined R p = jd at *
  by_cases h1 : kd < 2
  · have HF : Hid (wr0 = 4) := by show _ = _; rw [HW.out, if_pos (Or.inl h1)]
    go_enter Tryz.func109, Tryz.ntmps109
    go_wp2
    go_ret
    exact ⟨ret_int HF.out.symm, below_alloc _ _⟩
  by_cases h2 : 12 < kd
  · have HF : Hid (wr0 = 4) := by show _ = _; rw [HW.out, if_pos (Or.inr h2)]
    go_enter Tryz.func109, Tryz.ntmps109
    go_wp2
    go_ret
    exact ⟨ret_int HF.out.symm, below_alloc _ _⟩
  have HW2 : Hid (wr0 = if !inn p 9 then 5
    else if kd = 2 then jn
    else if !jd then 8
    else if kd = 3 then 0
    else if !inn n 9 then 5
    else if kd = 4 then pb
    else if !(R.src n.toNat).there then 8
    else ab) := by show _ = _; rw [HW.out, if_neg (by omega)]
  clear HW
  cases hip : inn p 9
  · have HF : Hid (wr0 = 5) := by show _ = _; rw [HW2.out, hip]; rfl
    rw [hip] at C1
    clear hip HW2
    go_enter Tryz.func109, Tryz.ntmps109
    go_wp2_with (go_at_call 111; refine (C1.out _).mono ?_; rintro e w1 ⟨rfl, rfl⟩)
    go_ret
    exact ⟨ret_int HF.out.symm, below_alloc _ _⟩
  have hp9 := HI1.out.1 hip
  rw [hip] at C1 HW2
  clear hip HI1
  by_cases h3 : kd = 2
  · subst h3
    have HF : Hid (wr0 = jn) := by show _ = _; rw [HW2.out]; rfl
    clear HW2
    go_enter Tryz.func109, Tryz.ntmps109
    go_wp2_with (first | (go_at_call 111; refine (C1.out _).mono ?_; rintro e w1 ⟨rfl, rfl⟩) | (go_at_call 133; refine (CJ.out _ (below_alloc _ _) hp9).mono ?_; rintro e w1 ⟨rfl, hb1⟩))
    go_ret
    exact ⟨ret_int HF.out.symm, (below_alloc _ _).trans (hb1.mono (by simp))⟩
  have HW3 : Hid (wr0 = if !jd then 8
    else if kd = 3 then 0
    else if !inn n 9 then 5
    else if kd = 4 then pb
    else if !(R.src n.toNat).there then 8
    else ab) := by show _ = _; rw [HW2.out]; simp [h3]
  have b3 : (kd == 2) = false := by rw [beq_eq_false_iff_ne]; exact h3
  clear HW2 h3
  cases jd
  · have HF : Hid (wr0 = 8) := by show _ = _; rw [HW3.out]; rfl
    clear HW3
    go_enter Tryz.func109, Tryz.ntmps109
    go_wp2_with (first | (go_at_call 111; refine (C1.out _).mono ?_; rintro e w1 ⟨rfl, rfl⟩) | (go_at_call 80; refine (CT.out _ (below_alloc _ _)).mono ?_; rintro e w1 ⟨rfl, rfl⟩))
    go_ret
    exact ⟨ret_int HF.out.symm, below_alloc _ _⟩
  by_cases h4 : kd = 3
  · subst h4
    have HF : Hid (wr0 = 0) := by show _ = _; rw [HW3.out]; rfl
    clear HW3
    go_enter Tryz.func109, Tryz.ntmps109
    go_wp2_with (first | (go_at_call 111; refine (C1.out _).mono ?_; rintro e w1 ⟨rfl, rfl⟩) | (go_at_call 80; refine (CT.out _ (below_alloc _ _)).mono ?_; rintro e w1 ⟨rfl, rfl⟩))
    go_ret
    exact ⟨ret_int HF.out.symm, below_alloc _ _⟩
  have b4 : (kd == 3) = false := by rw [beq_eq_false_iff_ne]; exact h4
  have HW4 : Hid (wr0 = if !inn n 9 then 5
    else if kd = 4 then pb
    else if !(R.src n.toNat).there then 8
    else ab) := by show _ = _; rw [HW3.out]; simp [h4]
  clear HW3 h4
  cases hin : inn n 9
  · have HF : Hid (wr0 = 5) := by show _ = _; rw [HW4.out, hin]; rfl
    rw [hin] at C2
    clear hin HW4
    go_enter Tryz.func109, Tryz.ntmps109
    go_wp2_with fail
    refine (C1.out _).mono ?_
    rintro e w1 ⟨rfl, rfl⟩
    go_wp2_with (first | (go_at_call 80; refine (CT.out _ (below_alloc _ _)).mono ?_; rintro e w1 ⟨rfl, rfl⟩) | (go_at_call 111; refine (C2.out _).mono ?_; rintro e w1 ⟨rfl, rfl⟩))
    go_ret
    exact ⟨ret_int HF.out.symm, below_alloc _ _⟩
  have hn9 := HI2.out.1 hin
  rw [hin] at C2 HW4
  clear hin HI2
  by_cases h5 : kd = 4
  · subst h5
    have HF : Hid (wr0 = pb) := by show _ = _; rw [HW4.out]; rfl
    clear HW4
    go_enter Tryz.func109, Tryz.ntmps109
    go_wp2_with fail
    refine (C1.out _).mono ?_
    rintro e w1 ⟨rfl, rfl⟩
    go_wp2_with (first | (go_at_call 80; refine (CT.out _ (below_alloc _ _)).mono ?_; rintro e w1 ⟨rfl, rfl⟩) | (go_at_call 111; refine (C2.out _).mono ?_; rintro e w1 ⟨rfl, rfl⟩) | (go_at_call 134; refine (CP.out _ (below_alloc _ _) hn9).mono ?_; rintro e w1 ⟨rfl, hb1⟩))
    go_ret
    exact ⟨ret_int HF.out.symm, (below_alloc _ _).trans (hb1.mono (by simp))⟩
  have HW5 : Hid (wr0 = if !(R.src n.toNat).there then 8 else ab) := by show _ = _; rw [HW4.out]; simp [h5]
  have b5 : (kd == 4) = false := by rw [beq_eq_false_iff_ne]; exact h5
  clear HW4 h5
  obtain ⟨n, rfl⟩ := Int.eq_ofNat_of_zero_le (show 0 ≤ n by omega)
  rw [Int.toNat_natCast] at HW5
  obtain ⟨s0, s1, s2, s3, s4⟩ := HR.out.srcc (n := n) (by omega)
  clear s1 s2 s3 s4
  cases ht : (R.src n).there
  · have HF : Hid (wr0 = 8) := by show _ = _; rw [HW5.out, ht]; rfl
    rw [ht] at s0
    clear ht HW5
    go_enter Tryz.func109, Tryz.ntmps109
    go_wp2_with fail
    refine (C1.out _).mono ?_
    rintro e w1 ⟨rfl, rfl⟩
    go_wp2_with (first | (go_at_call 80; refine (CT.out _ (below_alloc _ _)).mono ?_; rintro e w1 ⟨rfl, rfl⟩) | (go_at_call 111; refine (C2.out _).mono ?_; rintro e w1 ⟨rfl, rfl⟩))
    go_quiet (fail)
    go_wp2
    go_ret
    exact ⟨ret_int HF.out.symm, below_drewN (below_alloc _ _) _⟩
  · have HF : Hid (wr0 = ab) := by show _ = _; rw [HW5.out, ht]; rfl
    rw [ht] at s0
    clear ht HW5
    go_enter Tryz.func109, Tryz.ntmps109
    go_wp2_with fail
    refine (C1.out _).mono ?_
    rintro e w1 ⟨rfl, rfl⟩
    go_wp2_with (first | (go_at_call 80; refine (CT.out _ (below_alloc _ _)).mono ?_; rintro e w1 ⟨rfl, rfl⟩) | (go_at_call 111; refine (C2.out _).mono ?_; rintro e w1 ⟨rfl, rfl⟩))
    go_quiet (fail)
    go_wp2_with (go_at_call 135; refine (CA.out _ (below_drewN (below_alloc _ _) _) hn9 hp9).mono ?_; rintro e w1 ⟨rfl, hb1⟩)
    go_ret
    exact ⟨ret_int HF.out.symm, (below_drewN (below_alloc _ _) _).trans (hb1.mono (by simp))⟩
end Go.Proofs.Rm
namespace Go.Proofs.Rm
open Go.RowKit Go.Proofs.Heap Go.Proofs.Mem
/-- What 'turns' leaves. -/
def TurnsPost (b : Nat) (R : Room) (o : Op) (w : World) (e : Ending) (w' : World) : Prop :=
  ∃ v sv, e = .returned v ∧ TurnRow w' v (turns R o sv).1 ∧ RoomAt w' b (turns R o sv).2 ∧ Fr w.heap.size (· = b) w w'
theorem turnsPost_mk {b : Nat} {R R' : Room} {o : Op} {w w' : World} {v sv : Value} {l : List Turn} (h : Hid (turns R o sv = (l, R'))) (h1 : TurnRow w' v l) (h2 : RoomAt w' b R') (h3 : Fr w.heap.size (· = b) w w') : TurnsPost b R o w (.returned v) w' :=
  ⟨v, sv, rfl, by rw [h.out]; exact h1, by rw [h.out]; exact h2, h3⟩
theorem turnsPost_of {b : Nat} {R : Room} {o : Op} {w w1 w' : World} {v sv : Value} {x : List Turn × Room} (h : Hid (turns R o sv = x)) (h1 : TurnRow w' v x.1) (h2 : RoomAt w' b x.2) (hw : Below w.heap.size w w1) (h3 : Fr w1.heap.size (· = b) w1 w') : TurnsPost b R o w (.returned v) w' :=
  ⟨v, sv, rfl, by rw [h.out]; exact h1, by rw [h.out]; exact h2, (Fr.of_below _ hw).trans (h3.mono hw.size (fun _ _ h => h))⟩
theorem subCell_paused (x : Sub) (on : Bool) : ∀ j, j < 3 → subCell { x with paused := on } j = if j = 1 then .bool on else subCell x j := by
  intro j hj
  have : j = 0 ∨ j = 1 ∨ j = 2 := by omega
  rcases this with rfl | rfl | rfl <;> rfl
theorem subCell_want (x : Sub) (q : Int) : ∀ j, j < 3 → subCell { x with want := q } j = if j = 2 then .int .i64 q else subCell x j := by
  intro j hj
  have : j = 0 ∨ j = 1 ∨ j = 2 := by omega
  rcases this with rfl | rfl | rfl <;> rfl
section
variable (b : Nat) (R : Room) (p n q : Int) (nm : List UInt8) (ss : List Int) (sa ba : Option Addr) (sl sc bl bc : Nat) (w : World) (hR : RoomAt w b R)
include hR
set_option maxHeartbeats 2000000 in
theorem turns_join (hp : 1 ≤ p ∧ p < 9) :
    Calls Tryz.prog 110 #[.pointer (some ⟨b, 0, none⟩), .agg #[.int .i64 2, .int .i64 p, .int .i64 n, .int .i64 q, .string (str nm), .slice sa sl sc, .slice ba bl bc]] w (TurnsPost b R ⟨2, p, n, q, nm, ss⟩ w) := by
  obtain ⟨p, rfl⟩ := Int.eq_ofNat_of_zero_le (show 0 ≤ p by omega)
  have hp9 : p < 9 := by omega
  have hb := hR.lt
  have c0 := hR.namec hp9
  have f0 := hR.unfrozen p
  have HF : Hid (turns R ⟨2, p, n, q, nm, ss⟩ (.slice none 0 0) = ([], R.setName p nm)) := rfl
  have HR1 := Lib.hid (hR.setName hp9 nm)
  have HFR : Hid (Fr w.heap.size (· = b) w (w.setCell ⟨b, p, none⟩ (.string (str nm)))) := (Fr.refl _ _ _).setAt _ _
  clear hR
  go_enter Tryz.func110, Tryz.ntmps110
  go_wp2
  go_region
  go_wp2
  go_ret
  exact turnsPost_mk HF (Row.nil _ _) (by repeat (first | exact HR1.out | refine RoomAt.drew ?_ | refine RoomAt.alloc ?_ _)) (by repeat (first | exact HFR.out | refine Fr.drew ?_ | refine Fr.alloc ?_ (by simp <;> omega) _))
set_option maxHeartbeats 2000000 in
theorem turns_leave (hp : 1 ≤ p ∧ p < 9) :
    Calls Tryz.prog 110 #[.pointer (some ⟨b, 0, none⟩), .agg #[.int .i64 3, .int .i64 p, .int .i64 n, .int .i64 q, .string (str nm), .slice sa sl sc, .slice ba bl bc]] w (TurnsPost b R ⟨3, p, n, q, nm, ss⟩ w) := by
  obtain ⟨p, rfl⟩ := Int.eq_ofNat_of_zero_le (show 0 ≤ p by omega)
  have hp9 : p < 9 := by omega
  have hb := hR.lt
  have HF : Hid (turns R ⟨3, p, n, q, nm, ss⟩ (.slice none 0 0) = leave R p) := rfl
  have C := Lib.hid (fun (w1 : World) (h : Below w.heap.size w w1) => leave_any b R p w1 (hR.below h) hp9)
  clear hR
  go_enter Tryz.func110, Tryz.ntmps110
  go_wp2_with (go_at_call 136; refine (C.out _ (by repeat (first | exact Below.refl _ _ | refine Below.drew ?_ | refine Below.alloc ?_ (by simp) _))).mono ?_; rintro e w1 ⟨⟨tv, rfl, htr⟩, hroom, hfr⟩)
  go_ret
  exact turnsPost_of HF htr hroom (by repeat (first | exact Below.refl _ _ | refine Below.drew ?_ | refine Below.alloc ?_ (by simp) _)) hfr
set_option maxHeartbeats 2000000 in
theorem turns_unpublish (hn : 1 ≤ n ∧ n < 9) :
    Calls Tryz.prog 110 #[.pointer (some ⟨b, 0, none⟩), .agg #[.int .i64 5, .int .i64 p, .int .i64 n, .int .i64 q, .string (str nm), .slice sa sl sc, .slice ba bl bc]] w (TurnsPost b R ⟨5, p, n, q, nm, ss⟩ w) := by
  obtain ⟨n, rfl⟩ := Int.eq_ofNat_of_zero_le (show 0 ≤ n by omega)
  have hn9 : n < 9 := by omega
  have hb := hR.lt
  have HF : Hid (turns R ⟨5, p, n, q, nm, ss⟩ (.slice none 0 0) = gone R n) := rfl
  have C := Lib.hid (fun (w1 : World) (h : Below w.heap.size w w1) => gone_any b R n w1 (hR.below h) hn9)
  clear hR
  go_enter Tryz.func110, Tryz.ntmps110
  go_wp2_with (go_at_call 137; refine (C.out _ (by repeat (first | exact Below.refl _ _ | refine Below.drew ?_ | refine Below.alloc ?_ (by simp) _))).mono ?_; rintro e w1 ⟨⟨tv, rfl, htr⟩, hroom, hfr⟩)
  go_ret
  exact turnsPost_of HF htr hroom (by repeat (first | exact Below.refl _ _ | refine Below.drew ?_ | refine Below.alloc ?_ (by simp) _)) hfr
set_option maxHeartbeats 2000000 in
theorem turns_subscribe (hp : 1 ≤ p ∧ p < 9) (hn : 1 ≤ n ∧ n < 9) (hq : 0 ≤ q ∧ q < (R.src n.toNat).ss.length) :
    Calls Tryz.prog 110 #[.pointer (some ⟨b, 0, none⟩), .agg #[.int .i64 6, .int .i64 p, .int .i64 n, .int .i64 q, .string (str nm), .slice sa sl sc, .slice ba bl bc]] w (TurnsPost b R ⟨6, p, n, q, nm, ss⟩ w) := by
  have hb := hR.lt
  have HF : Hid (turns R ⟨6, p, n, q, nm, ss⟩ (.slice none 0 0) = begin R ⟨6, p, n, q, nm, ss⟩) := rfl
  have C := Lib.hid (fun (w1 : World) (h : Below w.heap.size w w1) => begin_any b R ⟨6, p, n, q, nm, ss⟩ sa ba sl sc bl bc w1 (hR.below h) hn hp hq)
  clear hR
  go_enter Tryz.func110, Tryz.ntmps110
  go_wp2_with (go_at_call 138; refine (C.out _ (by repeat (first | exact Below.refl _ _ | refine Below.drew ?_ | refine Below.alloc ?_ (by simp) _))).mono ?_; rintro e w1 ⟨⟨tv, rfl, htr⟩, hroom, hfr⟩)
  go_ret
  exact turnsPost_of HF htr hroom (by repeat (first | exact Below.refl _ _ | refine Below.drew ?_ | refine Below.alloc ?_ (by simp) _)) hfr
set_option maxHeartbeats 2000000 in
theorem turns_mute (hn : 1 ≤ n ∧ n < 9) :
    Calls Tryz.prog 110 #[.pointer (some ⟨b, 0, none⟩), .agg #[.int .i64 8, .int .i64 p, .int .i64 n, .int .i64 q, .string (str nm), .slice sa sl sc, .slice ba bl bc]] w (TurnsPost b R ⟨8, p, n, q, nm, ss⟩ w) := by
  obtain ⟨n, rfl⟩ := Int.eq_ofNat_of_zero_le (show 0 ≤ n by omega)
  have hn9 : n < 9 := by omega
  have hb := hR.lt
  have HF : Hid (turns R ⟨8, p, n, q, nm, ss⟩ (.slice none 0 0) = mute R n true) := rfl
  have C := Lib.hid (fun (w1 : World) (h : Below w.heap.size w w1) => mute_on b R n w1 (hR.below h) hn9)
  clear hR
  go_enter Tryz.func110, Tryz.ntmps110
  go_wp2_with (go_at_call 140; refine (C.out _ (by repeat (first | exact Below.refl _ _ | refine Below.drew ?_ | refine Below.alloc ?_ (by simp) _))).mono ?_; rintro e w1 ⟨⟨tv, rfl, htr⟩, hroom, hfr⟩)
  go_ret
  exact turnsPost_of HF htr hroom (by repeat (first | exact Below.refl _ _ | refine Below.drew ?_ | refine Below.alloc ?_ (by simp) _)) hfr
set_option maxHeartbeats 2000000 in
theorem turns_unmute (hn : 1 ≤ n ∧ n < 9) (hw : ∀ p, p < 9 → (R.sub n.toNat p).there = true → 0 ≤ (R.sub n.toNat p).want ∧ (R.sub n.toNat p).want < (R.src n.toNat).ss.length) :
    Calls Tryz.prog 110 #[.pointer (some ⟨b, 0, none⟩), .agg #[.int .i64 9, .int .i64 p, .int .i64 n, .int .i64 q, .string (str nm), .slice sa sl sc, .slice ba bl bc]] w (TurnsPost b R ⟨9, p, n, q, nm, ss⟩ w) := by
  obtain ⟨n, rfl⟩ := Int.eq_ofNat_of_zero_le (show 0 ≤ n by omega)
  have hn9 : n < 9 := by omega
  have hb := hR.lt
  have HF : Hid (turns R ⟨9, p, n, q, nm, ss⟩ (.slice none 0 0) = mute R n false) := rfl
  have C := Lib.hid (fun (w1 : World) (h : Below w.heap.size w w1) => mute_off b R n w1 (hR.below h) hn9 hw)
  clear hR
  go_enter Tryz.func110, Tryz.ntmps110
  go_wp2_with (go_at_call 140; refine (C.out _ (by repeat (first | exact Below.refl _ _ | refine Below.drew ?_ | refine Below.alloc ?_ (by simp) _))).mono ?_; rintro e w1 ⟨⟨tv, rfl, htr⟩, hroom, hfr⟩)
  go_ret
  exact turnsPost_of HF htr hroom (by repeat (first | exact Below.refl _ _ | refine Below.drew ?_ | refine Below.alloc ?_ (by simp) _)) hfr
set_option maxHeartbeats 2000000 in
theorem turns_unsubscribe (hp : 1 ≤ p ∧ p < 9) (hn : 1 ≤ n ∧ n < 9) :
    Calls Tryz.prog 110 #[.pointer (some ⟨b, 0, none⟩), .agg #[.int .i64 7, .int .i64 p, .int .i64 n, .int .i64 q, .string (str nm), .slice sa sl sc, .slice ba bl bc]] w (TurnsPost b R ⟨7, p, n, q, nm, ss⟩ w) := by
  obtain ⟨p, rfl⟩ := Int.eq_ofNat_of_zero_le (show 0 ≤ p by omega)
  have hp9 : p < 9 := by omega
  obtain ⟨n, rfl⟩ := Int.eq_ofNat_of_zero_le (show 0 ≤ n by omega)
  have hn9 : n < 9 := by omega
  have hb := hR.lt
  have HF : Hid (turns R ⟨7, p, n, q, nm, ss⟩ (.slice none 0 0) = ([⟨2, p, n, 0, 0⟩], R.setSub n p noSub)) := rfl
  have C := Lib.hid (fun (w1 : World) (h : Below w.heap.size w w1) => end_any b R p n w1 (hR.below h) hn9 hp9)
  clear hR
  go_enter Tryz.func110, Tryz.ntmps110
  go_wp2_with (go_at_call 139; refine (C.out _ (by repeat (first | exact Below.refl _ _ | refine Below.drew ?_ | refine Below.alloc ?_ (by simp) _))).mono ?_; rintro e w1 ⟨rfl, hroom, hfr⟩; have HROOM := Lib.hid hroom; have HFR := Lib.hid hfr; clear hroom hfr)
  have hz := HFR.out.size
  go_ret
  refine turnsPost_of HF (row_new' _ _ 1 _ ([⟨2, p, n, 0, 0⟩].flatMap turnCells) (by decide) (by simp)) (HROOM.out.alloc _) (by repeat (first | exact Below.refl _ _ | refine Below.drew ?_ | refine Below.alloc ?_ (by simp) _)) (HFR.out.alloc hz _)
set_option maxHeartbeats 2000000 in
theorem turns_pause (hp : 1 ≤ p ∧ p < 9) (hn : 1 ≤ n ∧ n < 9) :
    Calls Tryz.prog 110 #[.pointer (some ⟨b, 0, none⟩), .agg #[.int .i64 10, .int .i64 p, .int .i64 n, .int .i64 q, .string (str nm), .slice sa sl sc, .slice ba bl bc]] w (TurnsPost b R ⟨10, p, n, q, nm, ss⟩ w) := by
  obtain ⟨p, rfl⟩ := Int.eq_ofNat_of_zero_le (show 0 ≤ p by omega)
  have hp9 : p < 9 := by omega
  obtain ⟨n, rfl⟩ := Int.eq_ofNat_of_zero_le (show 0 ≤ n by omega)
  have hn9 : n < 9 := by omega
  have hb := hR.lt
  obtain ⟨c0, c1, c2⟩ := hR.subc hn9 hp9
  have f1 := hR.unfrozen (54 + n * 27 + p * 3 + 1)
  have HF : Hid (turns R ⟨10, p, n, q, nm, ss⟩ (.slice none 0 0) = ([⟨4, p, n, 0, 0⟩], R.setSub n p { R.sub n p with paused := true })) := rfl
  have HR1 := Lib.hid (hR.setSubCell hn9 hp9 (i := 1) (by omega) (x := { R.sub n p with paused := true }) (v := .bool true) (subCell_paused _ _))
  have HFR : Hid (Fr w.heap.size (· = b) w (w.setCell ⟨b, 54 + n * 27 + p * 3 + 1, none⟩ (.bool true))) := (Fr.refl _ _ _).setAt _ _
  clear hR
  go_enter Tryz.func110, Tryz.ntmps110
  go_wp2
  go_region
  go_wp2
  go_ret
  exact turnsPost_mk HF (by first | exact Row.drew (row_new' _ _ 1 _ ([⟨4, p, n, 0, 0⟩].flatMap turnCells) (by decide) (by simp)) | exact row_new' _ _ 1 _ ([⟨4, p, n, 0, 0⟩].flatMap turnCells) (by decide) (by simp [size_setCell])) (by repeat (first | exact HR1.out | refine RoomAt.drew ?_ | refine RoomAt.alloc ?_ _)) (by repeat (first | exact HFR.out | refine Fr.drew ?_ | refine Fr.alloc ?_ (by simp <;> omega) _))
end
end Go.Proofs.Rm
namespace Go.Proofs.Rm
open Go.RowKit Go.Proofs.Heap Go.Proofs.Mem
theorem cell_below {w w' : World} {a : Addr} {v : Value} (hb : Below w.heap.size w w') (h : w.cell? a = some v) : w'.cell? a = some v := (hb.cell (World.block_lt_of_cell? w _ h)).trans h
theorem cell_alloc {w : World} {a : Addr} {v : Value} (h : w.cell? a = some v) (o : Obj) : (w.alloc o).cell? a = some v := cell_below (below_alloc _ _) h
theorem cell_drew {w : World} {a : Addr} {v : Value} (h : w.cell? a = some v) : w.drew.cell? a = some v := h
theorem cell_alloc2 {w : World} {a : Addr} {v : Value} (h : w.drew.drew.cell? a = some v) (o : Obj) : (w.alloc o).drew.drew.cell? a = some v := cell_alloc (w := w) h o
theorem cell_alloc3 {w : World} {a : Addr} {v : Value} (h : w.drew.drew.drew.cell? a = some v) (o : Obj) : (w.alloc o).drew.drew.drew.cell? a = some v := cell_alloc (w := w) h o
theorem cell_grown {w w' : World} {row : Option Nat} {a : Addr} {v : Value} (hg : w.grownBy w' row) (h : w.cell? a = some v) (hne : ∀ k, row = some k → a.block < k) : w'.cell? a = some v :=
  (World.cell?_of_block (hg.block a.block (World.block_lt_of_cell? w _ h) (fun e => by have := hne _ e.symm; omega))).trans h
theorem cell_new2 {W : World} {m : Nat} (hm : W.heap.size = m) (A : Obj) (cs : Array Value) (e : TypeId) (j : Nat) : ((W.alloc A).alloc (.cells cs e)).cell? ⟨m + 1, j, none⟩ = cs[j]? := by
  subst hm
  have := (two_new W A (.cells cs e)).2
  simp only [World.cell?, this]
  rfl
theorem cell_new1 {W : World} {m : Nat} (hm : W.heap.size = m) (B : Obj) (cs : Array Value) (e : TypeId) (j : Nat) : ((W.alloc (.cells cs e)).alloc B).cell? ⟨m, j, none⟩ = cs[j]? := by
  subst hm
  have := (two_new W (.cells cs e) B).1
  simp only [World.cell?, this]
  rfl
/-- What a drawn region of turns keeps. -/
structure TX (b : Nat) (R1 : Room) (w w' : World) : Prop where
  room : RoomAt w' b R1
  fr : Fr w.heap.size (· = b) w w'
  size : w.heap.size + 1 < w'.heap.size
theorem TX.drew {b : Nat} {R1 : Room} {w w' : World} (h : TX b R1 w w') : TX b R1 w w'.drew := ⟨h.room.drew, h.fr.drew, h.size⟩
theorem TX.alloc {b : Nat} {R1 : Room} {w w' : World} (h : TX b R1 w w') (o : Obj) : TX b R1 w (w'.alloc o) := ⟨h.room.alloc o, h.fr.alloc (by have := h.size; omega) o, by have := h.size; simp; omega⟩
theorem TX.below {b : Nat} {R1 : Room} {w w1 w' : World} (h : TX b R1 w w1) (hb : Below w1.heap.size w1 w') : TX b R1 w w' :=
  ⟨h.room.below hb, h.fr.trans ((Fr.of_below _ hb).mono (by have := h.size; omega) (fun _ _ h => h)), by have := h.size; have := hb.size; omega⟩
theorem TX.alloc2 {b : Nat} {R1 : Room} {w w' : World} (h : TX b R1 w w'.drew.drew) (o : Obj) : TX b R1 w (w'.alloc o).drew.drew :=
  h.below ⟨rfl, rfl, rfl, by show w'.heap.size ≤ (w'.alloc o).heap.size; simp, fun k hk => Below.heap_alloc _ _ _ hk⟩
theorem TX.alloc3 {b : Nat} {R1 : Room} {w w' : World} (h : TX b R1 w w'.drew.drew.drew) (o : Obj) : TX b R1 w (w'.alloc o).drew.drew.drew :=
  h.below ⟨rfl, rfl, rfl, by show w'.heap.size ≤ (w'.alloc o).heap.size; simp, fun k hk => Below.heap_alloc _ _ _ hk⟩
theorem TX.grown {b : Nat} {R1 : Room} {w w1 w' : World} (h : TX b R1 w w1) (hb : b < w.heap.size) {base : Nat} {v : Value} {m : Nat} {ys : List Value} (ho : w1.ownsRow base 158 5 v m ys) (hg : w1.grownBy w' v.ownBlock) (hB : w.heap.size ≤ base) : TX b R1 w w' :=
  ⟨RoomAt.grown h.room ho hg (by omega) (by decide), h.fr.grown hg (by have := h.size; omega) (fun k hk => Nat.le_trans hB (own_le ho k hk)), by have := h.size; have := hg.size; omega⟩
theorem owns_newB (w : World) (e : TypeId) (size n m base : Nat) (xs : List Value) (hl : xs.length = n * size) (hn : n ≤ maxLen) (hm : m = w.heap.size) (hB : base ≤ m) : (w.alloc (.cells xs.toArray e)).ownsRow base e size (.slice (some ⟨m, 0, none⟩) n n) n xs := by
  subst hm
  exact ⟨hl, .inr ⟨w.heap.size, n, xs.toArray, rfl, hB, (by show (w.heap.push _)[w.heap.size]? = _; simp), Nat.le_refl _, hn, by simp [hl], by rw [List.take_of_length_le (by simp [hl])]⟩⟩
theorem TX.grownAll {b : Nat} {R1 : Room} {w w1 w' : World} (h : TX b R1 w w1) (hb : b < w.heap.size) {v : Value} {m : Nat} {ys : List Value} (ho : w1.ownsRow (w.heap.size + 2) 158 5 v m ys) (hg : Hid (w1.grownBy w' v.ownBlock)) :
    TX b R1 w w' ∧ ∀ a u, a.block ≤ w.heap.size + 1 → w1.cell? a = some u → w'.cell? a = some u :=
  ⟨h.grown hb ho hg.out (by omega), fun a u ha hu => cell_grown hg.out hu (fun k hk => by have := own_le ho k hk; omega)⟩
end Go.Proofs.Rm
namespace Go.Proofs.Rm
open Go.RowKit Go.Proofs.Heap Go.Proofs.Mem
theorem cell_set1 {w : World} {b m i j : Nat} {u v : Value} (hb : b < m) (h : w.cell? ⟨m, j, none⟩ = some v) : (w.setCell ⟨b, i, none⟩ u).cell? ⟨m, j, none⟩ = some v := by
  rw [World.cell?_setCell_other _ _ _ _ (by intro e; injection e; omega)]; exact h
theorem cell_set5 {w : World} {b m j i0 i1 i2 i3 i4 : Nat} {u0 u1 u2 u3 u4 v : Value} (hb : b < m) (h : w.cell? ⟨m, j, none⟩ = some v) : (((((w.setCell ⟨b, i0, none⟩ u0).setCell ⟨b, i1, none⟩ u1).setCell ⟨b, i2, none⟩ u2).setCell ⟨b, i3, none⟩ u3).setCell ⟨b, i4, none⟩ u4).cell? ⟨m, j, none⟩ = some v :=
  cell_set1 hb (cell_set1 hb (cell_set1 hb (cell_set1 hb (cell_set1 hb h))))
theorem size_set5 {w : World} {b m i0 i1 i2 i3 i4 : Nat} {u0 u1 u2 u3 u4 : Value} (h : m < w.heap.size) : m < (((((w.setCell ⟨b, i0, none⟩ u0).setCell ⟨b, i1, none⟩ u1).setCell ⟨b, i2, none⟩ u2).setCell ⟨b, i3, none⟩ u3).setCell ⟨b, i4, none⟩ u4).heap.size := by
  simpa [size_setCell] using h
section
variable (b : Nat) (R : Room) (p n q : Int) (nm : List UInt8) (ss : List Int) (sa ba : Option Addr) (sl sc bl bc : Nat) (w : World) (hR : RoomAt w b R)
include hR
set_option maxRecDepth 100000 in
set_option maxHeartbeats 4000000 in
theorem turns_publish (hp : 1 ≤ p ∧ p < 9) (hn : 1 ≤ n ∧ n < 9) (hrow : RRow w (.slice sa sl sc) ss.length (u32s ss)) (hl : ss.length ≤ 1000000) :
    Calls Tryz.prog 110 #[.pointer (some ⟨b, 0, none⟩), .agg #[.int .i64 4, .int .i64 p, .int .i64 n, .int .i64 q, .string (str nm), .slice sa sl sc, .slice ba bl bc]] w (TurnsPost b R ⟨4, p, n, q, nm, ss⟩ w) := by
  obtain ⟨p, rfl⟩ := Int.eq_ofNat_of_zero_le (show 0 ≤ p by omega)
  have hp9 : p < 9 := by omega
  obtain ⟨n, rfl⟩ := Int.eq_ofNat_of_zero_le (show 0 ≤ n by omega)
  have hn9 : n < 9 := by omega
  have hb := hR.lt
  have HRW : Hid (∀ w1, Below w.heap.size w w1 → RoomAt w1 b R) := fun w1 h => hR.below h
  have HSL : Hid (sl = ss.length) := by
    obtain ⟨a', c', e, _⟩ := hrow
    injection e
  have HUF : Hid (∀ w1, RoomAt w1 b R → ∀ j, w1.frozen? ⟨b, j, none⟩ = false) := fun w1 h j => h.unfrozen j
  have C := Lib.hid (fun (w1 : World) (h : Below w.heap.size w w1) => Clone_any (.slice sa sl sc) ss w1 (hrow.below h) hl)
  have hbw : ∀ A B : Obj, Below w.heap.size w ((w.alloc A).alloc B).drew := fun A B => (((Below.refl _ _).alloc (Nat.le_refl _) A).alloc (by simp) B).drew
  clear hR hrow hl
  go_enter Tryz.func110, Tryz.ntmps110
  go_wp2
  go_region_held3 (fun w' => w'.cell? ⟨w.heap.size, 1, none⟩ = some (.int .i64 p) ∧ w'.cell? ⟨w.heap.size, 2, none⟩ = some (.int .i64 n) ∧ w'.cell? ⟨w.heap.size, 5, none⟩ = some (.slice sa sl sc) ∧ Fr w.heap.size (· = b) w w' ∧ w.heap.size + 1 < w'.heap.size) (first | (refine ⟨?_, ?_, ?_, ?_, ?_⟩ <;> first | with_reducible assumption | (with_reducible refine Fr.drew ?_; with_reducible assumption) | (with_reducible refine Fr.of_below _ ?_; with_reducible apply hbw) | ((with_reducible refine Fr.setAt ?_ _ _); (repeat (with_reducible refine Fr.setAt ?_ _ _)); with_reducible assumption) | (with_reducible refine cell_set5 hb ?_; with_reducible assumption) | (with_reducible refine size_set5 ?_; with_reducible assumption) | go_keep) | go_keep) (first | (go_at_call 112; go_split_ands; refine Calls.mono (C.out _ (hbw _ _)) ?_; rintro e w2 ⟨⟨cv, rfl, hcr⟩, hb2⟩; have hbl2 := Below.trans (hbw _ _) (hb2.mono (Nat.le_of_lt (Nat.lt_of_succ_lt (by with_reducible assumption)))); have hfr2 := Fr.of_below (· = b) hbl2; have hsz2 := Nat.lt_of_lt_of_le (by with_reducible assumption) hb2.size; obtain ⟨ca, cc, hce, hcx⟩ := id hcr; clear hcx; subst hce; have HCR := Lib.hid hcr; clear hcr; obtain ⟨s0, s1, s2, s3, s4⟩ := (HRW.out w2 hbl2).srcc hn9; have f0 := HUF.out w2 (HRW.out w2 hbl2) (9 + n * 5); have f1 := HUF.out w2 (HRW.out w2 hbl2) (9 + n * 5 + 1); have f2 := HUF.out w2 (HRW.out w2 hbl2) (9 + n * 5 + 2); have f3 := HUF.out w2 (HRW.out w2 hbl2) (9 + n * 5 + 3); have f4 := HUF.out w2 (HRW.out w2 hbl2) (9 + n * 5 + 4); have k1 := cell_below (a := ⟨w.heap.size, 1, none⟩) hb2 (by with_reducible assumption); have k2 := cell_below (a := ⟨w.heap.size, 2, none⟩) hb2 (by with_reducible assumption); have k5 := cell_below (a := ⟨w.heap.size, 5, none⟩) hb2 (by with_reducible assumption)))
  go_wp2
  go_ret
  have HF : Hid (turns R ⟨4, p, n, q, nm, ss⟩ (.slice ca ss.length cc) = ([], R.setSrc n ⟨true, n, p, .slice ca ss.length cc, ss, false⟩)) := rfl
  exact turnsPost_mk HF (Row.nil _ _) ((HRW.out w2 hbl2).setSrc hn9 ⟨true, n, p, .slice ca ss.length cc, ss, false⟩ HCR.out) (((((hfr2.setAt _ _).setAt _ _).setAt _ _).setAt _ _).setAt _ _)
end
end Go.Proofs.Rm
namespace Go.Proofs.Rm
open Go.RowKit Go.Proofs.Heap Go.Proofs.Mem
section
variable (b : Nat) (R : Room) (p n q : Int) (nm : List UInt8) (ss : List Int) (sa ba : Option Addr) (sl sc bl bc : Nat) (w : World) (hR : RoomAt w b R)
include hR
set_option maxRecDepth 100000 in
set_option maxHeartbeats 4000000 in
theorem turns_resume (hp : 1 ≤ p ∧ p < 9) (hn : 1 ≤ n ∧ n < 9) (hw : 0 ≤ (R.sub n.toNat p.toNat).want ∧ (R.sub n.toNat p.toNat).want < (R.src n.toNat).ss.length) :
    Calls Tryz.prog 110 #[.pointer (some ⟨b, 0, none⟩), .agg #[.int .i64 11, .int .i64 p, .int .i64 n, .int .i64 q, .string (str nm), .slice sa sl sc, .slice ba bl bc]] w (TurnsPost b R ⟨11, p, n, q, nm, ss⟩ w) := by
  obtain ⟨p, rfl⟩ := Int.eq_ofNat_of_zero_le (show 0 ≤ p by omega)
  have hp9 : p < 9 := by omega
  obtain ⟨n, rfl⟩ := Int.eq_ofNat_of_zero_le (show 0 ≤ n by omega)
  have hn9 : n < 9 := by omega
  have hb := hR.lt
  obtain ⟨c0, c1, c2⟩ := hR.subc hn9 hp9
  have fz := hR.unfrozen (54 + n * 27 + p * 3 + 1)
  have HF : Hid (turns R ⟨11, p, n, q, nm, ss⟩ (.slice none 0 0) = (⟨5, p, n, 0, 0⟩ :: waits (R.setSub n p { R.sub n p with paused := false }) p n, R.setSub n p { R.sub n p with paused := false })) := rfl
  have HR1 := Lib.hid (hR.setSubCell hn9 hp9 (i := 1) (by omega) (x := { R.sub n p with paused := false }) (v := .bool false) (subCell_paused _ _))
  have HFR : Hid (Fr w.heap.size (· = b) w (w.setCell ⟨b, 54 + n * 27 + p * 3 + 1, none⟩ (.bool false))) := (Fr.refl _ _ _).setAt _ _
  have CW : Hid (∀ w1, RoomAt w1 b (R.setSub n p { R.sub n p with paused := false }) → Calls Tryz.prog 141 #[.pointer (some ⟨b, 0, none⟩), .int .i64 p, .int .i64 n] w1 fun e w' => (∃ v, e = .returned v ∧ TurnRow w' v (waits (R.setSub n p { R.sub n p with paused := false }) p n)) ∧ Below w1.heap.size w1 w') :=
    fun w1 h => waits_any b _ p n w1 h hn9 hp9 (by rw [sub_setSub]; exact hw)
  have HWL : (waits (R.setSub n p { R.sub n p with paused := false }) p n).length ≤ 1 := by unfold waits; split <;> simp
  clear hR hw
  have HTX : Hid (∀ B1 B2 : Obj, TX b (R.setSub n p { R.sub n p with paused := false }) w (((w.setCell ⟨b, 54 + n * 27 + p * 3 + 1, none⟩ (.bool false)).alloc B1).alloc B2).drew) := fun B1 B2 => ⟨((HR1.out.alloc _).alloc _).drew, ((HFR.out.alloc (by simp) _).alloc (by simp) _).drew, by simp⟩
  generalize waits (R.setSub n p { R.sub n p with paused := false }) p n = W at *
  generalize R.setSub n p { R.sub n p with paused := false } = R1 at *
  go_enter Tryz.func110, Tryz.ntmps110
  go_wp2
  go_region
  go_wp2
  have htx := HTX.out
  go_region_held3 (fun w' => w'.cell? ⟨w.heap.size + 1, 0, none⟩ = some (.int .i64 5) ∧ w'.cell? ⟨w.heap.size + 1, 1, none⟩ = some (.int .i64 p) ∧ w'.cell? ⟨w.heap.size + 1, 2, none⟩ = some (.int .i64 n) ∧ w'.cell? ⟨w.heap.size + 1, 3, none⟩ = some (.int .i64 0) ∧ w'.cell? ⟨w.heap.size + 1, 4, none⟩ = some (.int .u32 0) ∧ w'.cell? ⟨w.heap.size, 1, none⟩ = some (.int .i64 p) ∧ w'.cell? ⟨w.heap.size, 2, none⟩ = some (.int .i64 n) ∧ TX b R1 w w') ((go_split_ands; ((repeat' apply And.intro) <;> first | with_reducible assumption | ((with_reducible apply cell_drew); with_reducible assumption) | (with_reducible apply TX.drew; with_reducible assumption) | (with_reducible apply TX.drew; with_reducible apply htx) | (with_reducible apply cell_alloc; with_reducible assumption) | (with_reducible apply cell_alloc2; with_reducible assumption) | (with_reducible apply cell_alloc3; with_reducible assumption) | (with_reducible apply TX.alloc; with_reducible assumption) | (with_reducible apply TX.alloc2; with_reducible assumption) | (with_reducible apply TX.alloc3; with_reducible assumption) | ((with_reducible apply cell_drew); (with_reducible apply cell_drew); (with_reducible refine (cell_new2 (size_setCell _ _ _) _ _ _ _).trans ?_); rfl) | ((with_reducible apply cell_drew); (with_reducible apply cell_drew); (with_reducible refine (cell_new1 (size_setCell _ _ _) _ _ _ _).trans ?_); rfl) | go_keep))) (first | (go_at_call 141; go_split_ands; refine Calls.mono (CW.out _ (TX.room (by with_reducible assumption))) ?_; rintro e w2 ⟨⟨tv, rfl, htr⟩, hb2⟩; have HTR := Lib.hid htr; clear htr; have k0 := cell_below (a := ⟨w.heap.size + 1, 0, none⟩) hb2 (by with_reducible assumption); have k1 := cell_below (a := ⟨w.heap.size + 1, 1, none⟩) hb2 (by with_reducible assumption); have k2 := cell_below (a := ⟨w.heap.size + 1, 2, none⟩) hb2 (by with_reducible assumption); have k3 := cell_below (a := ⟨w.heap.size + 1, 3, none⟩) hb2 (by with_reducible assumption); have k4 := cell_below (a := ⟨w.heap.size + 1, 4, none⟩) hb2 (by with_reducible assumption); have k5 := cell_below (a := ⟨w.heap.size, 1, none⟩) hb2 (by with_reducible assumption); have k6 := cell_below (a := ⟨w.heap.size, 2, none⟩) hb2 (by with_reducible assumption); have tx2 := TX.below (by with_reducible assumption) hb2) | (go_split_ands; refine step_app (by rfl) (.tmp 105) (.tmp 111) 98 (by rfl) (w.heap.size + 2) elemTurn _ 1 ([Turn.mk 5 p n 0 0].flatMap turnCells) (by rfl) ?_ _ W.length (W.flatMap turnCells) (by rfl) ?_ (turns_len _) (turns_one _) (by omega) (by omega) ?_ ?_; (first | exact owns_newB _ _ 5 1 _ _ ([Turn.mk 5 p n 0 0].flatMap turnCells) rfl (by decide) rfl (by have := tx2.size; omega) | (exact owns_below (by repeat (first | exact owns_new _ _ 5 1 _ ([Turn.mk 5 p n 0 0].flatMap turnCells) rfl (by decide) (by simp) | refine owns_drew ?_)) hb2)); (first | exact HTR.out | exact HTR.out.below (below_alloc _ _)); (have hs := TX.size (by with_reducible assumption); omega); intro v' w3 HO HG; obtain ⟨tx3, hcg⟩ := TX.grownAll (by with_reducible assumption) hb (by first | exact owns_newB _ _ 5 1 _ _ ([Turn.mk 5 p n 0 0].flatMap turnCells) rfl (by decide) rfl (by have := tx2.size; omega) | (exact owns_below (by repeat (first | exact owns_new _ _ 5 1 _ ([Turn.mk 5 p n 0 0].flatMap turnCells) rfl (by decide) (by simp) | refine owns_drew ?_)) hb2)) HG; have g0 := hcg ⟨w.heap.size + 1, 0, none⟩ _ (by simp) (by with_reducible assumption); have g1 := hcg ⟨w.heap.size + 1, 1, none⟩ _ (by simp) (by with_reducible assumption); have g2 := hcg ⟨w.heap.size + 1, 2, none⟩ _ (by simp) (by with_reducible assumption); have g3 := hcg ⟨w.heap.size + 1, 3, none⟩ _ (by simp) (by with_reducible assumption); have g4 := hcg ⟨w.heap.size + 1, 4, none⟩ _ (by simp) (by with_reducible assumption); have g5 := hcg ⟨w.heap.size, 1, none⟩ _ (by simp) (by with_reducible assumption); have g6 := hcg ⟨w.heap.size, 2, none⟩ _ (by simp) (by with_reducible assumption); clear hcg))
  all_goals
    go_wp2
    go_ret
    have hrow := Row.of_owns HO.out
    rw [Nat.add_comm] at hrow
    exact turnsPost_mk HF hrow tx3.room tx3.fr
end
end Go.Proofs.Rm
namespace Go.Proofs.Rm
open Go.RowKit Go.Proofs.Heap Go.Proofs.Mem
section
variable (b : Nat) (R : Room) (p n q : Int) (nm : List UInt8) (ss : List Int) (sa ba : Option Addr) (sl sc bl bc : Nat) (w : World) (hR : RoomAt w b R)
include hR
set_option maxRecDepth 100000 in
set_option maxHeartbeats 4000000 in
theorem turns_switch (hp : 1 ≤ p ∧ p < 9) (hn : 1 ≤ n ∧ n < 9) (hw : 0 ≤ q ∧ q < (R.src n.toNat).ss.length) :
    Calls Tryz.prog 110 #[.pointer (some ⟨b, 0, none⟩), .agg #[.int .i64 12, .int .i64 p, .int .i64 n, .int .i64 q, .string (str nm), .slice sa sl sc, .slice ba bl bc]] w (TurnsPost b R ⟨12, p, n, q, nm, ss⟩ w) := by
  obtain ⟨p, rfl⟩ := Int.eq_ofNat_of_zero_le (show 0 ≤ p by omega)
  have hp9 : p < 9 := by omega
  obtain ⟨n, rfl⟩ := Int.eq_ofNat_of_zero_le (show 0 ≤ n by omega)
  have hn9 : n < 9 := by omega
  have hb := hR.lt
  obtain ⟨c0, c1, c2⟩ := hR.subc hn9 hp9
  have fz := hR.unfrozen (54 + n * 27 + p * 3 + 2)
  have HF : Hid (turns R ⟨12, p, n, q, nm, ss⟩ (.slice none 0 0) = (⟨8, p, n, q, 0⟩ :: waits (R.setSub n p { R.sub n p with want := q }) p n, R.setSub n p { R.sub n p with want := q })) := rfl
  have HR1 := Lib.hid (hR.setSubCell hn9 hp9 (i := 2) (by omega) (x := { R.sub n p with want := q }) (v := .int .i64 q) (subCell_want _ _))
  have HFR : Hid (Fr w.heap.size (· = b) w (w.setCell ⟨b, 54 + n * 27 + p * 3 + 2, none⟩ (.int .i64 q))) := (Fr.refl _ _ _).setAt _ _
  have CW : Hid (∀ w1, RoomAt w1 b (R.setSub n p { R.sub n p with want := q }) → Calls Tryz.prog 141 #[.pointer (some ⟨b, 0, none⟩), .int .i64 p, .int .i64 n] w1 fun e w' => (∃ v, e = .returned v ∧ TurnRow w' v (waits (R.setSub n p { R.sub n p with want := q }) p n)) ∧ Below w1.heap.size w1 w') :=
    fun w1 h => waits_any b _ p n w1 h hn9 hp9 (by rw [sub_setSub]; exact hw)
  have HWL : (waits (R.setSub n p { R.sub n p with want := q }) p n).length ≤ 1 := by unfold waits; split <;> simp
  clear hR hw
  have HTX : Hid (∀ B1 B2 : Obj, TX b (R.setSub n p { R.sub n p with want := q }) w (((w.setCell ⟨b, 54 + n * 27 + p * 3 + 2, none⟩ (.int .i64 q)).alloc B1).alloc B2).drew.drew) := fun B1 B2 => ⟨((HR1.out.alloc _).alloc _).drew.drew, ((HFR.out.alloc (by simp) _).alloc (by simp) _).drew.drew, by simp⟩
  generalize waits (R.setSub n p { R.sub n p with want := q }) p n = W at *
  generalize R.setSub n p { R.sub n p with want := q } = R1 at *
  go_enter Tryz.func110, Tryz.ntmps110
  go_wp2
  go_region
  go_wp2
  go_region
  go_wp2
  have htx := HTX.out
  go_region_held3 (fun w' => w'.cell? ⟨w.heap.size + 1, 0, none⟩ = some (.int .i64 8) ∧ w'.cell? ⟨w.heap.size + 1, 1, none⟩ = some (.int .i64 p) ∧ w'.cell? ⟨w.heap.size + 1, 2, none⟩ = some (.int .i64 n) ∧ w'.cell? ⟨w.heap.size + 1, 3, none⟩ = some (.int .i64 q) ∧ w'.cell? ⟨w.heap.size + 1, 4, none⟩ = some (.int .u32 0) ∧ w'.cell? ⟨w.heap.size, 1, none⟩ = some (.int .i64 p) ∧ w'.cell? ⟨w.heap.size, 2, none⟩ = some (.int .i64 n) ∧ TX b R1 w w') ((go_split_ands; ((repeat' apply And.intro) <;> first | with_reducible assumption | ((with_reducible apply cell_drew); with_reducible assumption) | (with_reducible apply TX.drew; with_reducible assumption) | (with_reducible apply TX.drew; with_reducible apply htx) | (with_reducible apply cell_alloc; with_reducible assumption) | (with_reducible apply cell_alloc2; with_reducible assumption) | (with_reducible apply cell_alloc3; with_reducible assumption) | (with_reducible apply TX.alloc; with_reducible assumption) | (with_reducible apply TX.alloc2; with_reducible assumption) | (with_reducible apply TX.alloc3; with_reducible assumption) | ((with_reducible apply cell_drew); (with_reducible apply cell_drew); (with_reducible apply cell_drew); (with_reducible refine (cell_new2 (size_setCell _ _ _) _ _ _ _).trans ?_); rfl) | ((with_reducible apply cell_drew); (with_reducible apply cell_drew); (with_reducible apply cell_drew); (with_reducible refine (cell_new1 (size_setCell _ _ _) _ _ _ _).trans ?_); rfl) | go_keep))) (first | (go_at_call 141; go_split_ands; refine Calls.mono (CW.out _ (TX.room (by with_reducible assumption))) ?_; rintro e w2 ⟨⟨tv, rfl, htr⟩, hb2⟩; have HTR := Lib.hid htr; clear htr; have k0 := cell_below (a := ⟨w.heap.size + 1, 0, none⟩) hb2 (by with_reducible assumption); have k1 := cell_below (a := ⟨w.heap.size + 1, 1, none⟩) hb2 (by with_reducible assumption); have k2 := cell_below (a := ⟨w.heap.size + 1, 2, none⟩) hb2 (by with_reducible assumption); have k3 := cell_below (a := ⟨w.heap.size + 1, 3, none⟩) hb2 (by with_reducible assumption); have k4 := cell_below (a := ⟨w.heap.size + 1, 4, none⟩) hb2 (by with_reducible assumption); have k5 := cell_below (a := ⟨w.heap.size, 1, none⟩) hb2 (by with_reducible assumption); have k6 := cell_below (a := ⟨w.heap.size, 2, none⟩) hb2 (by with_reducible assumption); have tx2 := TX.below (by with_reducible assumption) hb2) | (go_split_ands; refine step_app (by rfl) (.tmp 132) (.tmp 138) 98 (by rfl) (w.heap.size + 2) elemTurn _ 1 ([Turn.mk 8 p n q 0].flatMap turnCells) (by rfl) ?_ _ W.length (W.flatMap turnCells) (by rfl) ?_ (turns_len _) (turns_one _) (by omega) (by omega) ?_ ?_; (first | exact owns_newB _ _ 5 1 _ _ ([Turn.mk 8 p n q 0].flatMap turnCells) rfl (by decide) rfl (by have := tx2.size; omega) | (exact owns_below (by repeat (first | exact owns_new _ _ 5 1 _ ([Turn.mk 8 p n q 0].flatMap turnCells) rfl (by decide) (by simp) | refine owns_drew ?_)) hb2)); (first | exact HTR.out | exact HTR.out.below (below_alloc _ _)); (have hs := TX.size (by with_reducible assumption); omega); intro v' w3 HO HG; obtain ⟨tx3, hcg⟩ := TX.grownAll (by with_reducible assumption) hb (by first | exact owns_newB _ _ 5 1 _ _ ([Turn.mk 8 p n q 0].flatMap turnCells) rfl (by decide) rfl (by have := tx2.size; omega) | (exact owns_below (by repeat (first | exact owns_new _ _ 5 1 _ ([Turn.mk 8 p n q 0].flatMap turnCells) rfl (by decide) (by simp) | refine owns_drew ?_)) hb2)) HG; have g0 := hcg ⟨w.heap.size + 1, 0, none⟩ _ (by simp) (by with_reducible assumption); have g1 := hcg ⟨w.heap.size + 1, 1, none⟩ _ (by simp) (by with_reducible assumption); have g2 := hcg ⟨w.heap.size + 1, 2, none⟩ _ (by simp) (by with_reducible assumption); have g3 := hcg ⟨w.heap.size + 1, 3, none⟩ _ (by simp) (by with_reducible assumption); have g4 := hcg ⟨w.heap.size + 1, 4, none⟩ _ (by simp) (by with_reducible assumption); have g5 := hcg ⟨w.heap.size, 1, none⟩ _ (by simp) (by with_reducible assumption); have g6 := hcg ⟨w.heap.size, 2, none⟩ _ (by simp) (by with_reducible assumption); clear hcg))
  all_goals
    go_wp2
    go_ret
    have hrow := Row.of_owns HO.out
    rw [Nat.add_comm] at hrow
    exact turnsPost_mk HF hrow tx3.room tx3.fr
end
end Go.Proofs.Rm
namespace Go.Proofs.Rm
open Go.RowKit Go.Proofs.Heap Go.Proofs.Mem
open Go.Proofs.Lab (may key Tabs)
theorem turns_any (b : Nat) (R : Room) (o : Op) (sa ba : Option Addr) (sc bl bc : Nat) (w : World) (hR : RoomAt w b R) (hI : Inv R) (ok : Ok R o)
    (hrow : RRow w (.slice sa o.ssrcs.length sc) o.ssrcs.length (u32s o.ssrcs)) :
    Calls Tryz.prog 110 #[.pointer (some ⟨b, 0, none⟩), .agg #[.int .i64 o.kind, .int .i64 o.peer, .int .i64 o.source, .int .i64 o.layer, .string (str o.name), .slice sa o.ssrcs.length sc, .slice ba bl bc]] w (TurnsPost b R o w) := by
  have hok := ok
  obtain ⟨kd, p, n, q, nm, ss⟩ := o
  obtain ⟨hk, hp, hj, ht, hs, hpub, his, habt⟩ := ok
  dsimp only at *
  by_cases k2 : kd = 2
  · subst k2; exact turns_join b R p n q nm ss sa ba _ sc bl bc w hR hp
  by_cases k3 : kd = 3
  · subst k3; exact turns_leave b R p n q nm ss sa ba _ sc bl bc w hR hp
  have hn := hs (by omega)
  by_cases k4 : kd = 4
  · subst k4
    have h2 := (pub_ok (hpub rfl)).2.1
    dsimp only at h2
    exact turns_publish b R p n q nm ss sa ba _ sc bl bc w hR hp hn hrow (by omega)
  have habt := habt (by omega)
  have hb := fun q => hI.subAt n.toNat q
  by_cases k5 : kd = 5
  · subst k5; exact turns_unpublish b R p n q nm ss sa ba _ sc bl bc w hR hn
  by_cases k6 : kd = 6
  · subst k6; exact turns_subscribe b R p n q nm ss sa ba _ sc bl bc w hR hp hn (layer_ok (about_sub habt rfl).2.2)
  by_cases k7 : kd = 7
  · subst k7; exact turns_unsubscribe b R p n q nm ss sa ba _ sc bl bc w hR hp hn
  by_cases k8 : kd = 8
  · subst k8; exact turns_mute b R p n q nm ss sa ba _ sc bl bc w hR hn
  by_cases k9 : kd = 9
  · subst k9; exact turns_unmute b R p n q nm ss sa ba _ sc bl bc w hR hn fun p' _ ht => ⟨(hb p' ht).2.2.2.2.2.2.2.1, (hb p' ht).2.2.2.2.2.2.2.2⟩
  obtain ⟨h1, _, _, h4⟩ := about_hear habt (by right; show 10 ≤ kd; omega)
  dsimp only at h1 h4
  by_cases k10 : kd = 10
  · subst k10; exact turns_pause b R p n q nm ss sa ba _ sc bl bc w hR hp hn
  by_cases k11 : kd = 11
  · subst k11; exact turns_resume b R p n q nm ss sa ba _ sc bl bc w hR hp hn ⟨(hb _ h1).2.2.2.2.2.2.2.1, (hb _ h1).2.2.2.2.2.2.2.2⟩
  obtain rfl : kd = 12 := by omega
  exact turns_switch b R p n q nm ss sa ba _ sc bl bc w hR hp hn (layer_ok (h4 rfl).1)
/-- What 'Do' leaves. -/
def DoPost (b : Nat) (R : Room) (o : Op) (w : World) (e : Ending) (w' : World) : Prop :=
  ∃ v sv, e = .returned (.tuple #[v, .int .i64 (doo R o sv).2]) ∧ TurnRow w' v (doo R o sv).1.1 ∧ RoomAt w' b (doo R o sv).1.2 ∧ Fr w.heap.size (· = b) w w'
theorem doPost_wrong {b : Nat} {R : Room} {o : Op} {w w' : World} {x : Int} (hx : Hid (wrong R o = x)) (hne : x ≠ 0) (h2 : RoomAt w' b R) (h3 : Fr w.heap.size (· = b) w w') : DoPost b R o w (.returned (.tuple #[.slice none 0 0, .int .i64 x])) w' := by
  have h : ∀ sv, doo R o sv = (([], R), x) := fun sv => by unfold doo; rw [hx.out, if_pos hne]
  exact ⟨.slice none 0 0, .slice none 0 0, by rw [h], by rw [h]; exact Row.nil _ _, by rw [h]; exact h2, h3⟩
theorem doPost_right {b : Nat} {R : Room} {o : Op} {w w1 w' : World} {v : Value} (hx : Hid (wrong R o = 0)) (hb : Below w.heap.size w w1) (h : TurnsPost b R o w1 (.returned v) w') : DoPost b R o w (.returned (.tuple #[v, .int .i64 0])) w' := by
  obtain ⟨v', sv, he, h1, h2, h3⟩ := h
  injection he with he
  subst he
  have hd : doo R o sv = (turns R o sv, 0) := by unfold doo; rw [hx.out]; simp
  exact ⟨v, sv, by rw [hd], by rw [hd]; exact h1, by rw [hd]; exact h2, (Fr.of_below _ hb).trans (h3.mono hb.size (fun _ _ h => h))⟩
theorem turnsPost_val {b : Nat} {R : Room} {o : Op} {w w' : World} {e : Ending} (h : TurnsPost b R o w e w') : ∃ v, e = .returned v ∧ TurnsPost b R o w (.returned v) w' := by
  obtain ⟨v, sv, he, h1⟩ := h
  exact ⟨v, he, v, sv, rfl, h1⟩
theorem names_short {R : Room} (hI : Inv R) : ∀ p, (R.names p).length < 9223372036854775807 := by
  intro p
  by_cases h : R.names p = []
  · rw [h]; decide
  · have := Lab.may_len (hI.nameAt p h).2
    omega
set_option maxHeartbeats 2000000 in
theorem Do_any (b : Nat) (R : Room) (o : Op) (sa ba : Option Addr) (sc bl bc : Nat) (w : World) (hR : RoomAt w b R) (hI : Inv R) (hT : Tabs w) (hnm : o.name.length < 9223372036854775807)
    (hrow : RRow w (.slice sa o.ssrcs.length sc) o.ssrcs.length (u32s o.ssrcs)) :
    Calls Tryz.prog 77 #[.pointer (some ⟨b, 0, none⟩), .agg #[.int .i64 o.kind, .int .i64 o.peer, .int .i64 o.source, .int .i64 o.layer, .string (str o.name), .slice sa o.ssrcs.length sc, .slice ba bl bc]] w (DoPost b R o w) := by
  have CW := Lib.hid (fun (w1 : World) (h : Below w.heap.size w w1) => wrong_any b R o sa ba sc bl bc w1 (hR.below h) (Utf8Tabs_below hT h) hnm (names_short hI) (hrow.below h))
  have CT := Lib.hid (fun (w1 : World) (h : Below w.heap.size w w1) (ok : wrong R o = 0) => turns_any b R o sa ba sc bl bc w1 (hR.below h) hI (wrong_ok ok) (hrow.below h))
  have hb := hR.lt
  have HRB : Hid (∀ w1, Below w.heap.size w w1 → RoomAt w1 b R) := fun w1 h => hR.below h
  have HDW := Lib.hid (fun (w' : World) x => @doPost_wrong b R o w w' x)
  have HDR := Lib.hid (fun (w1 w' : World) v => @doPost_right b R o w w1 w' v)
  have HTV := Lib.hid (fun (w1 w' : World) e => @turnsPost_val b R o w1 w' e)
  clear hR hI hT hnm hrow
  obtain ⟨kd, p, n, q, nm, ss⟩ := o
  dsimp only at *
  generalize DoPost b R ⟨kd, p, n, q, nm, ss⟩ w = DP at *
  generalize hwx : wrong R ⟨kd, p, n, q, nm, ss⟩ = x at *
  have HX := Lib.hid hwx
  clear hwx
  by_cases hx : x = 0
  · subst hx
    go_enter Tryz.func77, Tryz.ntmps77
    go_wp2_with fail
    refine (CW.out _ (below_alloc _ _)).mono ?_
    rintro e w1 ⟨rfl, hb1⟩
    have c0 := cell_below (a := ⟨w.heap.size, 0, none⟩) hb1 (v := .int .i64 kd) (by simp)
    have c1 := cell_below (a := ⟨w.heap.size, 1, none⟩) hb1 (v := .int .i64 p) (by simp)
    have c2 := cell_below (a := ⟨w.heap.size, 2, none⟩) hb1 (v := .int .i64 n) (by simp)
    have c3 := cell_below (a := ⟨w.heap.size, 3, none⟩) hb1 (v := .int .i64 q) (by simp)
    have c4 := cell_below (a := ⟨w.heap.size, 4, none⟩) hb1 (v := .string (str nm)) (by simp)
    have c5 := cell_below (a := ⟨w.heap.size, 5, none⟩) hb1 (v := .slice sa ss.length sc) (by simp)
    have c6 := cell_below (a := ⟨w.heap.size, 6, none⟩) hb1 (v := .slice ba bl bc) (by simp)
    have hbl : Below w.heap.size w w1 := (below_alloc _ _).trans (hb1.mono (by simp))
    clear hb1
    go_wp2_with fail
    refine (CT.out _ hbl trivial).mono ?_
    intro e w2 hp
    obtain ⟨tv, rfl, hp⟩ := HTV.out _ _ _ hp
    have HP := Lib.hid hp
    clear hp
    go_wp2_with fail

    exact HDR.out _ _ _ (by first | exact rfl | exact trivial) hbl HP.out
  · have hbq : (x != 0) = true := by rw [bne_iff_ne]; exact hx
    have HXN := Lib.hid hx
    clear hx
    go_enter Tryz.func77, Tryz.ntmps77
    go_wp2_with fail
    refine (CW.out _ (below_alloc _ _)).mono ?_
    rintro e w1 ⟨rfl, hb1⟩
    have hbl : Below w.heap.size w w1 := (below_alloc _ _).trans (hb1.mono (by simp))
    clear hb1
    go_wp2_with fail

    exact HDW.out _ _ (by first | exact rfl | exact trivial) HXN.out (HRB.out _ hbl) (Fr.of_below _ hbl)
end Go.Proofs.Rm
