/- The walks of package label and of the reference's names: each function once. -/
import Derived.Test.YthlamfoldfeocaaDoorChecked
import Derived.Test.YthlamfoldfeocaaDoorLabPlain
import Derived.Test.YthlamfoldfeocaaDoorMem
import Derived.WalkKit
import Derived.Lib.Walk
import Derived.Lib.Hide
import Derived.Lib.RuneCount
import Derived.Laws.RangeAny
import Derived.LoopTactic
namespace Go.Proofs.Lab
open Go.RowKit Go.Lib Go.Proofs.Mem
theorem below_iter (w : World) (s : ByteArray) (p : Nat) : Below w.heap.size w (w.iter s p) := (Below.refl _ _).alloc (Nat.le_refl _) _
theorem ret_str {a b : ByteArray} (h : a = b) : Ending.returned (.string a) = .returned (.string b) := by rw [h]
theorem ret_bool {a b : Bool} (h : a = b) : Ending.returned (.bool a) = .returned (.bool b) := by rw [h]
theorem ret_int {k : IntKind} {a b : Int} (h : a = b) : Ending.returned (.int k a) = .returned (.int k b) := by rw [h]
theorem pos_facts (s : ByteArray) (k : Nat) (h : cutAt s.data.toList k < s.size) : k < (rn s.data.toList).length ∧ cutAt s.data.toList (k + 1) = cutAt s.data.toList k + (Utf8.decode s (cutAt s.data.toList k)).2 ∧ k ≤ cutAt s.data.toList k ∧ (rn s.data.toList)[k]? = some (Utf8.decode s (cutAt s.data.toList k)) := by
  have hl : s.data.toList.length = s.size := (Lib.size_eq s).symm
  have h1 := (cutAt_lt s.data.toList k).1 (by omega)
  refine ⟨h1, ?_, cutAt_ge _ _ (by omega), ?_⟩
  · rw [cutAt_succ _ _ (by omega), decodeL_drop]
  · rw [List.getElem?_eq_getElem h1, rn_at _ _ h1, decodeL_drop]
theorem pos_end (s : ByteArray) (k : Nat) (h : ¬ cutAt s.data.toList k < s.size) : (rn s.data.toList).length ≤ k := by
  have hl : s.data.toList.length = s.size := (Lib.size_eq s).symm
  have := cutAt_lt s.data.toList k
  omega
theorem all_snoc {p : Nat × Nat → Bool} {R : List (Nat × Nat)} {k : Nat} {x : Nat × Nat} (h : (R.take k).all p = true) (hk : R[k]? = some x) (hx : p x = true) : (R.take (k + 1)).all p = true := by
  rw [List.take_add_one, hk, List.all_append, h]; simp [hx]
theorem all_bad {p : Nat × Nat → Bool} {R : List (Nat × Nat)} {k : Nat} {x : Nat × Nat} (hk : R[k]? = some x) (hx : p x = false) : R.all p = false := by
  rw [Bool.eq_false_iff]; intro h
  have := List.all_eq_true.1 h x (List.mem_of_getElem? hk)
  rw [hx] at this; cases this

set_option maxHeartbeats 400000 in
theorem May_any (s : ByteArray) (w : World) (hs : s.size < 9223372036854775807) :
    Calls Tryd.prog 47 #[.string s] w (fun e w' => e = .returned (.bool (may s.data.toList)) ∧ Below w.heap.size w w') := by
  have HR : Hid ((rn s.data.toList).length ≤ s.size) := by have := rn_length_le s.data.toList; rw [Lib.size_eq]; exact this
  go_enter Tryd.func47, Tryd.ntmps47
  go_wp2
  go_loopw [3] (fun c w' => ∃ k : Nat, w' = w.iter s (cutAt s.data.toList k) ∧ c = .int .i64 k ∧ k ≤ (rn s.data.toList).length ∧ Hid (((rn s.data.toList).take k).all (fun p => okR p.1) = true)) (fun _ w' => s.size - w'.iterPos w.heap.size)
  case atStart => exact ⟨0, rfl, rfl, Nat.zero_le _, rfl⟩
  case round =>
    obtain ⟨k, rfl, rfl, hle, hall⟩ := hrel
    by_cases hp : cutAt s.data.toList k < s.size
    · have hnx : ∀ ty, (Instr.next (.pointer (some ⟨w.heap.size, 0, none⟩)) true ty).run Tryd.prog (w.iter s (cutAt s.data.toList k)) = _ := fun ty => run_next_any w s _ ty hp
      have hwd := Lib.decode_width_pos s _ hp
      obtain ⟨h1, h2, h3, h4⟩ := pos_facts s k hp
      have H2 := Lib.hid h2
      have H4 := Lib.hid h4
      clear h2 h4
      have hks : k < s.size := by omega
      generalize hd : Utf8.decode s (cutAt s.data.toList k) = d at *
      have HD := Lib.hid hd
      clear hd
      obtain ⟨r, wd⟩ := d
      dsimp only at *
      by_cases hbad : okR r = true
      · have HB := Lib.hid hbad
        have hb := hbad
        unfold okR at hb
        simp only [Bool.and_eq_true, Bool.or_eq_true, decide_eq_true_eq, Bool.not_eq_true', beq_eq_false_iff_ne] at hb
        obtain ⟨⟨b1, b2⟩, b3⟩ := hb
        clear hbad
        have t1 : ((r : Int) == 65533) = false := by rw [beq_eq_false_iff_ne]; omega
        clear b3
        by_cases b4 : r < 127
        · clear b2
          go_wp2
          go_roundw
          case rel => exact ⟨k + 1, by rw [H2.out], by go_num, by omega, all_snoc hall.out H4.out HB.out⟩
          case measure => simp; omega
        · have b5 : 159 < r := by omega
          clear b2
          go_wp2
          go_roundw
          case rel => exact ⟨k + 1, by rw [H2.out], by go_num, by omega, all_snoc hall.out H4.out HB.out⟩
          case measure => simp; omega
      · have HF : Hid (may s.data.toList = false) := by
          show _ = _
          unfold may; rw [all_bad H4.out (by simpa using hbad)]; rfl
        have HC : Hid (r < 33 ∨ (127 ≤ r ∧ r ≤ 159) ∨ r = 65533) := by
          show _ ∨ _
          unfold okR at hbad
          simp at hbad; omega
        clear hbad
        by_cases b1 : r < 33
        · go_wp2
          go_ret
          exact ⟨ret_bool HF.out.symm, below_iter _ _ _⟩
        by_cases b2 : 127 ≤ r ∧ r ≤ 159
        · obtain ⟨b2, b3⟩ := b2
          go_wp2
          go_ret
          exact ⟨ret_bool HF.out.symm, below_iter _ _ _⟩
        · have b3 : r = 65533 := by have := HC.out; omega
          subst b3
          go_wp2
          go_ret
          exact ⟨ret_bool HF.out.symm, below_iter _ _ _⟩
    · have hnx : ∀ ty, (Instr.next (.pointer (some ⟨w.heap.size, 0, none⟩)) true ty).run Tryd.prog (w.iter s (cutAt s.data.toList k)) = _ := fun ty => run_next_end w s _ ty hp
      have hend := pos_end s k hp
      have HM : Hid (may s.data.toList = (decide (1 ≤ k) && decide (k ≤ 8))) := by
        show _ = _
        have e : (rn s.data.toList).length = k := by omega
        have h := hall.out
        rw [← e, List.take_length] at h
        unfold may; rw [h, e, Bool.true_and]
      by_cases c1 : 1 ≤ k
      · by_cases c2 : k ≤ 8
        · go_wp2
          go_ret
          exact ⟨ret_bool (by rw [HM.out]; first | (simp [c1, c2]; done) | (simp [c1, c2]; omega)), below_iter _ _ _⟩
        · go_wp2
          go_ret
          exact ⟨ret_bool (by rw [HM.out]; first | (simp [c1, c2]; done) | (simp [c1, c2]; omega)), below_iter _ _ _⟩
      · go_wp2
        go_ret
        exact ⟨ret_bool (by rw [HM.out]; first | (simp [c1]; done) | (simp [c1]; omega)), below_iter _ _ _⟩
theorem okR_iff (r : Nat) : okR r = true ↔ 33 ≤ r ∧ (r < 127 ∨ 159 < r) ∧ r ≠ 65533 := by
  unfold okR; simp; omega
set_option maxRecDepth 100000 in
theorem Rune_any (r : Int) (w : World) (h0 : 0 ≤ r) (h1 : r ≤ 1114111) :
    Calls Tryd.prog 64 #[.int .i32 r] w (fun e w' => e = .returned (.bool (okR r.toNat)) ∧ w = w') := by
  obtain ⟨r, rfl⟩ := Int.eq_ofNat_of_zero_le h0
  rw [Int.toNat_natCast]
  have hc := okR_iff r
  by_cases b1 : r < 33
  · have HF : Hid (okR r = false) := by show _ = _; rw [Bool.eq_false_iff, ne_eq, hc]; omega
    clear hc
    go_enter Tryd.func64, Tryd.ntmps64
    go_wp2
    go_ret
    exact ⟨ret_bool HF.out.symm, rfl⟩
  by_cases b2 : r < 127
  · have HF : Hid (okR r = true) := by show _ = _; rw [hc]; omega
    clear hc
    have t2 : ((r : Int) != 65533) = true := by rw [bne_iff_ne]; omega
    go_enter Tryd.func64, Tryd.ntmps64
    go_wp2
    go_ret
    exact ⟨ret_bool HF.out.symm, rfl⟩
  by_cases b3 : r ≤ 159
  · have HF : Hid (okR r = false) := by show _ = _; rw [Bool.eq_false_iff, ne_eq, hc]; omega
    clear hc
    go_enter Tryd.func64, Tryd.ntmps64
    go_wp2
    go_ret
    exact ⟨ret_bool HF.out.symm, rfl⟩
  by_cases b4 : r = 65533
  · have HF : Hid (okR 65533 = false) := by show _ = _; decide
    clear hc
    subst b4
    go_enter Tryd.func64, Tryd.ntmps64
    go_wp2
    go_ret
    exact ⟨ret_bool HF.out.symm, rfl⟩
  · have HF : Hid (okR r = true) := by show _ = _; rw [hc]; omega
    clear hc
    have t2 : ((r : Int) != 65533) = true := by rw [bne_iff_ne]; omega
    clear b4
    go_enter Tryd.func64, Tryd.ntmps64
    go_wp2
    go_ret
    exact ⟨ret_bool (by rw [HF.out]; simp; omega), rfl⟩
end Go.Proofs.Lab
