/- The walks of package room, each function once: what is only asked. -/
import Derived.Test.YthlamfoldfeocaaDoorRoomMem
import Derived.BigQuiet
import Derived.Deep.QuietTactic
import Derived.Laws.ResultCell
namespace Go.Proofs.Rm
open Go.RowKit Go.Proofs.Heap Go.Proofs.Mem
theorem ret_str {a b : ByteArray} (h : a = b) : Ending.returned (.string a) = .returned (.string b) := by rw [h]
theorem ret_bool {a b : Bool} (h : a = b) : Ending.returned (.bool a) = .returned (.bool b) := by rw [h]
theorem ret_int {k : IntKind} {a b : Int} (h : a = b) : Ending.returned (.int k a) = .returned (.int k b) := by rw [h]
theorem inn_iff (n k : Int) : inn n k = true ↔ 1 ≤ n ∧ n < k := by unfold inn; simp
theorem in_any (n k : Int) (w : World) : Calls Tryd.prog 44 #[.int .i64 n, .int .i64 k] w fun e w' => e = .returned (.bool (inn n k)) ∧ w = w' := by
  have hi := inn_iff n k
  by_cases h : 1 ≤ n
  · have HF : Hid (inn n k = decide (n < k)) := by show _ = _; unfold inn; simp [h]
    clear hi
    go_enter Tryd.func44, Tryd.ntmps44
    go_wp2
    go_ret
    exact ⟨ret_bool HF.out.symm, rfl⟩
  · have HF : Hid (inn n k = false) := by show _ = _; rw [Bool.eq_false_iff, ne_eq, hi]; omega
    clear hi
    go_enter Tryd.func44, Tryd.ntmps44
    go_wp2
    go_ret
    exact ⟨ret_bool HF.out.symm, rfl⟩
theorem str_ne (l : List UInt8) : (str l).toList = [] ↔ l = [] := by
  rw [toList_nil_iff_emptyBytes]
  constructor
  · intro h
    have := congrArg (fun b : ByteArray => b.data.toList) h
    simpa [str] using this
  · intro h; subst h; rfl
theorem str_emp (l : List UInt8) : (str l).toList.isEmpty = l.isEmpty := by
  rw [Bool.eq_iff_iff, List.isEmpty_iff, List.isEmpty_iff, str_ne]
set_option maxHeartbeats 400000 in
theorem Joined_any (b : Nat) (R : Room) (p : Int) (w : World) (hR : RoomAt w b R) : Calls Tryd.prog 20 #[.pointer (some ⟨b, 0, none⟩), .int .i64 p] w fun e w' => e = .returned (.bool (joined R p)) ∧ w = w' := by
  have C := Lib.hid (fun w => in_any p 9 w)
  by_cases hi : inn p 9 = true
  · rw [hi] at C
    obtain ⟨h1, h2⟩ := (inn_iff p 9).1 hi
    obtain ⟨n, rfl⟩ := Int.eq_ofNat_of_zero_le (show 0 ≤ p by omega)
    have hn : n < 9 := by omega
    have hc := hR.namec hn
    have HF : Hid (joined R n = !(str (R.names n)).toList.isEmpty) := by show _ = _; unfold joined; rw [hi, Int.toNat_natCast, str_emp, Bool.true_and]
    clear hi hR
    go_enter Tryd.func20, Tryd.ntmps20
    go_wp2_with (go_at_call 44; refine (C.out _).mono ?_; rintro e w' ⟨rfl, rfl⟩)
    all_goals go_ret
    all_goals exact ⟨ret_bool (by rw [HF.out]), rfl⟩
  · have hi : inn p 9 = false := by simpa using hi
    have HF : Hid (joined R p = false) := by show _ = _; unfold joined; rw [hi]; rfl
    rw [hi] at C
    clear hi
    go_enter Tryd.func20, Tryd.ntmps20
    go_wp2_with (go_at_call 44; refine (C.out _).mono ?_; rintro e w' ⟨rfl, rfl⟩)
    go_ret
    exact ⟨ret_bool HF.out.symm, rfl⟩
set_option maxHeartbeats 400000 in
theorem end_any (b : Nat) (R : Room) (p n : Nat) (w : World) (hR : RoomAt w b R) (hn : n < 9) (hp : p < 9) :
    Calls Tryd.prog 57 #[.pointer (some ⟨b, 0, none⟩), .int .i64 p, .int .i64 n] w fun e w' => e = .returned (.agg #[.int .i64 2, .int .i64 p, .int .i64 n, .int .i64 0, .int .u32 0]) ∧ RoomAt w' b (R.setSub n p noSub) ∧ Fr w.heap.size (· = b) w w' := by
  obtain ⟨c0, c1, c2⟩ := hR.subc hn hp
  have f0 := hR.unfrozen (54 + n * 27 + p * 3)
  have f1 := hR.unfrozen (54 + n * 27 + p * 3 + 1)
  have f2 := hR.unfrozen (54 + n * 27 + p * 3 + 2)
  have hb := hR.lt
  go_enter Tryd.func57, Tryd.ntmps57
  go_wp2
  refine bodyPost_ret (v := .agg #[.int .i64 2, .int .i64 p, .int .i64 n, .int .i64 0, .int .u32 0]) (by simp [results, Tryd.results57, go_sem]) rfl ⟨rfl, ?_, ?_⟩
  · exact (hR.setSub hn hp noSub).below (below_alloc _ _)
  · exact ((((Fr.refl _ _ _).setAt _ _).setAt _ _).setAt _ _).alloc (by simp only [size_setCell]; exact Nat.le_refl _) _
set_option maxHeartbeats 400000 in
theorem asks_any (b : Nat) (R : Room) (p n : Nat) (w : World) (hR : RoomAt w b R) (hn : n < 9) (hp : p < 9) (hw : 0 ≤ (R.sub n p).want ∧ (R.sub n p).want < (R.src n).ss.length) :
    Calls Tryd.prog 75 #[.pointer (some ⟨b, 0, none⟩), .int .i64 p, .int .i64 n] w fun e w' => e = .returned (turnAgg (asks R p n)) ∧ Below w.heap.size w w' := by
  obtain ⟨c0, c1, c2⟩ := hR.subc hn hp
  obtain ⟨s0, s1, s2, s3, s4⟩ := hR.srcc hn
  obtain ⟨k, hk⟩ := Int.eq_ofNat_of_zero_le hw.1
  rw [hk] at hw c2
  have hkl : k < (R.src n).ss.length := by omega
  obtain ⟨g, off, cap, hsv, hlc, hcm, hg, hcells⟩ := u32_open (hR.rows n hn) (by omega)
  have hx := hcells k hkl
  have HA : Hid (asks R p n = ⟨9, (R.src n).own, n, 0, (R.src n).ss.getD k 0⟩) := by show _ = _; unfold asks; rw [hk]; rfl
  rw [hsv] at s3
  have hb := hR.lt
  have hlen := (hR.rows n hn).len
  clear hk hcells hsv hR
  generalize (R.src n).ss.getD k 0 = X at *
  generalize (R.src n).ss.length = L at *
  generalize (R.src n).own = O at *
  go_enter Tryd.func75, Tryd.ntmps75
  go_wp2
  go_region
  go_wp2
  refine bodyPost_ret (v := turnAgg ⟨9, O, n, 0, X⟩) (by simp [results, Tryd.results75, go_sem, turnAgg]) rfl ⟨by rw [HA.out], ?_⟩
  exact (((Below.refl _ _).alloc (Nat.le_refl _) _).alloc (by simp) _).drew
set_option maxHeartbeats 400000 in
theorem waits_any (b : Nat) (R : Room) (p n : Nat) (w : World) (hR : RoomAt w b R) (hn : n < 9) (hp : p < 9) (hw : 0 ≤ (R.sub n p).want ∧ (R.sub n p).want < (R.src n).ss.length) :
    Calls Tryd.prog 59 #[.pointer (some ⟨b, 0, none⟩), .int .i64 p, .int .i64 n] w fun e w' => (∃ v, e = .returned v ∧ TurnRow w' v (waits R p n)) ∧ Below w.heap.size w w' := by
  obtain ⟨c0, c1, c2⟩ := hR.subc hn hp
  obtain ⟨s0, s1, s2, s3, s4⟩ := hR.srcc hn
  have hb := hR.lt
  have ca := fun w hR => asks_any b R p n w hR hn hp hw
  unfold turnAgg at ca
  have CA := Lib.hid ca
  clear ca
  have HR := Lib.hid hR
  have HW : Hid (waits R p n = if (R.sub n p).paused || (R.src n).muted then [] else [asks R p n]) := rfl
  clear hR hw
  generalize asks R p n = A at *
  obtain ⟨a1, a2, a3, a4, a5⟩ := A
  dsimp only at CA
  cases hpa : (R.sub n p).paused
  · rw [hpa] at c1
    cases hmu : (R.src n).muted
    · rw [hmu] at s4
      have HF : Hid (waits R p n = [⟨a1, a2, a3, a4, a5⟩]) := by show _ = _; rw [HW.out, hpa, hmu]; rfl
      clear hpa hmu HW
      go_enter Tryd.func59, Tryd.ntmps59
      go_wp2_with (go_at_call 75; refine (CA.out _ HR.out).mono ?_; rintro e w1 ⟨rfl, hb1⟩)
      go_ret
      refine ⟨⟨_, rfl, ?_⟩, hb1.alloc (by simp [hb1.size]) _⟩
      rw [HF.out]
      exact row_new w1 _ 1 _ (by decide)
    · rw [hmu] at s4
      have HF : Hid (waits R p n = []) := by show _ = _; rw [HW.out, hpa, hmu]; rfl
      clear hpa hmu HW
      go_enter Tryd.func59, Tryd.ntmps59
      go_wp2
      go_ret
      exact ⟨⟨_, rfl, by rw [HF.out]; exact Row.nil _ _⟩, Below.refl _ _⟩
  · rw [hpa] at c1
    have HF : Hid (waits R p n = []) := by show _ = _; rw [HW.out, hpa]; rfl
    clear hpa HW
    go_enter Tryd.func59, Tryd.ntmps59
    go_wp2
    go_ret
    exact ⟨⟨_, rfl, by rw [HF.out]; exact Row.nil _ _⟩, Below.refl _ _⟩
theorem index_hit {l : List Int} {x : Int} {k : Nat} (hk : k < l.length) (h : l.getD k 0 = x) (hn : ∀ j, j < k → l.getD j 0 ≠ x) : index l x = k := by
  unfold index
  have : l.findIdx? (fun y => y == x) = some k := by
    rw [List.findIdx?_eq_some_iff_getElem]
    refine ⟨hk, ?_, fun j hj => ?_⟩
    · rw [List.getD_eq_getElem?_getD, List.getElem?_eq_getElem hk] at h
      simpa using h
    · have := hn j hj
      rw [List.getD_eq_getElem?_getD, List.getElem?_eq_getElem (by omega)] at this
      simpa using this
  rw [this]
theorem index_miss {l : List Int} {x : Int} (hn : ∀ j, j < l.length → l.getD j 0 ≠ x) : index l x = -1 := by
  unfold index
  have : l.findIdx? (fun y => y == x) = none := by
    rw [List.findIdx?_eq_none_iff]
    intro y hy
    obtain ⟨j, hj, rfl⟩ := List.getElem_of_mem hy
    have := hn j hj
    rw [List.getD_eq_getElem?_getD, List.getElem?_eq_getElem hj] at this
    simpa using this
  rw [this]
set_option maxHeartbeats 400000 in
theorem Index_any (v : Value) (l : List Int) (x : Int) (w : World) (hv : RRow w v l.length (u32s l)) :
    Calls Tryd.prog 43 #[v, .int .u32 x] w fun e w' => e = .returned (.int .i64 (index l x)) ∧ w = w' := by
  have hlen := hv.len
  by_cases h0 : 0 < l.length
  · obtain ⟨g, off, cap, rfl, hlc, hcm, hg, hcells⟩ := u32_openR hv h0
    have HC := Lib.hid hcells
    have HH := Lib.hid (fun k hk h hn => @index_hit l x k hk h hn)
    have HM := Lib.hid (@index_miss l x)
    clear hcells hv
    go_enter Tryd.func43, Tryd.ntmps43
    go_wp2
    go_loop [8] (fun i => ∃ k : Nat, k ≤ l.length ∧ i = .int .i64 k ∧ Hid (∀ j, j < k → l.getD j 0 ≠ x)) (fun i => l.length - (intOf i).toNat)
    case atStart => exact ⟨0, Nat.zero_le _, rfl, fun j hj => by omega⟩
    case round =>
      obtain ⟨k, hk, rfl, hno⟩ := hrel
      by_cases hkl : k < l.length
      · have hc := HC.out k hkl
        by_cases hx : l.getD k 0 = x
        · have HF := Lib.hid (HH.out k hkl hx hno.out)
          rw [hx] at hc
          clear hx
          go_wp2
          go_ret
          exact ⟨ret_int HF.out.symm, rfl⟩
        · have hbeq : (x == l.getD k 0) = false := by rw [beq_eq_false_iff_ne]; exact fun e => hx e.symm
          have HX := Lib.hid hx
          clear hx
          generalize hy : l.getD k 0 = y at *
          have HY := Lib.hid hy
          clear hy
          go_wp2
          go_round
          case rel => exact ⟨k + 1, by omega, by go_num, fun j hj => by by_cases hjk : j < k; exact hno.out j hjk; rw [show j = k by omega, HY.out]; exact HX.out⟩
          case measure => simp [intOf]; omega
      · have HF := Lib.hid (HM.out (fun j hj => hno.out j (by omega)))
        go_wp2
        go_ret
        exact ⟨ret_int HF.out.symm, rfl⟩
  · have : l = [] := List.eq_nil_of_length_eq_zero (by omega)
    subst this
    obtain ⟨a, cap, rfl, _⟩ := hv
    go_enter Tryd.func43, Tryd.ntmps43
    go_wp2
    go_loop [8] (fun i => i = .int .i64 0) (fun _ => 0)
    case atStart => rfl
    case round =>
      subst hrel
      go_wp2
      go_ret
      exact ⟨rfl, rfl⟩
end Go.Proofs.Rm
