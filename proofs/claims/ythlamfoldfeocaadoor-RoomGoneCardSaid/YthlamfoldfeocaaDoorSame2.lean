/- The walks of the reference's comparisons: SameSource. -/
import Derived.Test.YthlamfoldfeocaaDoorSame
import Derived.Test.YthlamfoldfeocaaDoorRoomWalksF
namespace Go.Proofs.Rm
open Go.RowKit Go.Proofs.Heap Go.Proofs.Mem
theorem takeD_succ {a b : List Int} {k : Nat} (ha : k < a.length) (hb : k < b.length) (h : a.take k = b.take k) (e : a.getD k 0 = b.getD k 0) : a.take (k + 1) = b.take (k + 1) := by
  rw [List.getD_eq_getElem?_getD, List.getD_eq_getElem?_getD, List.getElem?_eq_getElem ha, List.getElem?_eq_getElem hb] at e
  exact take_eq_succ ha hb h e
set_option maxHeartbeats 4000000 in
theorem SameSource_any (x y : TSrc) (sa sb : Option Addr) (ca cb : Nat) (w : World) (h1 : Row w 23 (.slice sa x.ss.length ca) x.ss.length (u32s x.ss)) (h2 : Row w 23 (.slice sb y.ss.length cb) y.ss.length (u32s y.ss)) :
    Calls Tryd.prog 22 #[.agg #[.int .i64 x.num, .int .i64 x.own, .slice sa x.ss.length ca, .bool x.muted], .agg #[.int .i64 y.num, .int .i64 y.own, .slice sb y.ss.length cb, .bool y.muted]] w fun e w' => e = .returned (.bool (decide (x = y))) ∧ Below w.heap.size w w' := by
  obtain ⟨xn, xo, xs, xm⟩ := x
  obtain ⟨yn, yo, ys, ym⟩ := y
  dsimp only at *
  have n1 := h1.len
  have n2 := h2.len
  have HR1 : Hid (∀ w', Below w.heap.size w w' → Row w' 23 (.slice sa xs.length ca) xs.length (u32s xs)) := fun w' hb => h1.below hb
  have HR2 : Hid (∀ w', Below w.heap.size w w' → Row w' 23 (.slice sb ys.length cb) ys.length (u32s ys)) := fun w' hb => h2.below hb
  clear h1 h2
  by_cases hl : xs.length = ys.length
  · have HB : Hid (∀ w', Below ((w.alloc (.cells #[.int .i64 xn, .int .i64 xo, .slice sa xs.length ca, .bool xm] 44)).alloc (.cells #[.int .i64 yn, .int .i64 yo, .slice sb ys.length cb, .bool ym] 44)).heap.size ((w.alloc (.cells #[.int .i64 xn, .int .i64 xo, .slice sa xs.length ca, .bool xm] 44)).alloc (.cells #[.int .i64 yn, .int .i64 yo, .slice sb ys.length cb, .bool ym] 44)) w' →
        (w'.cell? ⟨w.heap.size, 0, none⟩ = some (.int .i64 xn) ∧ w'.cell? ⟨w.heap.size, 1, none⟩ = some (.int .i64 xo) ∧ w'.cell? ⟨w.heap.size, 2, none⟩ = some (.slice sa xs.length ca) ∧ w'.cell? ⟨w.heap.size, 3, none⟩ = some (.bool xm)) ∧
        (w'.cell? ⟨w.heap.size + 1, 0, none⟩ = some (.int .i64 yn) ∧ w'.cell? ⟨w.heap.size + 1, 1, none⟩ = some (.int .i64 yo) ∧ w'.cell? ⟨w.heap.size + 1, 2, none⟩ = some (.slice sb ys.length cb) ∧ w'.cell? ⟨w.heap.size + 1, 3, none⟩ = some (.bool ym)) ∧ Below w.heap.size w w') := fun w' hb =>
      ⟨⟨cell_below hb ((cell_new1 rfl _ _ _ _).trans rfl), cell_below hb ((cell_new1 rfl _ _ _ _).trans rfl), cell_below hb ((cell_new1 rfl _ _ _ _).trans rfl), cell_below hb ((cell_new1 rfl _ _ _ _).trans rfl)⟩,
       ⟨cell_below hb ((cell_new2 rfl _ _ _ _).trans rfl), cell_below hb ((cell_new2 rfl _ _ _ _).trans rfl), cell_below hb ((cell_new2 rfl _ _ _ _).trans rfl), cell_below hb ((cell_new2 rfl _ _ _ _).trans rfl)⟩,
       ((((Below.refl _ _).alloc (Nat.le_refl _) _).alloc (by simp) _).trans (hb.mono (by simp; omega)))⟩
    have HL := Lib.hid hl
    rw [← hl] at HB n2
    rw [← hl]
    clear hl
    go_enter Tryd.func22, Tryd.ntmps22
    go_wp2
    go_loopw [16] (fun i w' => ∃ k : Nat, k ≤ xs.length ∧ i = .int .i64 k ∧ Below ((w.alloc (.cells #[.int .i64 xn, .int .i64 xo, .slice sa xs.length ca, .bool xm] 44)).alloc (.cells #[.int .i64 yn, .int .i64 yo, .slice sb xs.length cb, .bool ym] 44)).heap.size ((w.alloc (.cells #[.int .i64 xn, .int .i64 xo, .slice sa xs.length ca, .bool xm] 44)).alloc (.cells #[.int .i64 yn, .int .i64 yo, .slice sb xs.length cb, .bool ym] 44)) w' ∧ Hid (xs.take k = ys.take k)) (fun i _ => xs.length - (intOf i).toNat)
    case atStart => exact ⟨0, by omega, rfl, Below.refl _ _, rfl⟩
    case round =>
      obtain ⟨k, hk, rfl, hbl, HT⟩ := hrel
      have HBL := Lib.hid hbl
      obtain ⟨⟨a0, a1, a2, a3⟩, ⟨b0, b1, b2, b3⟩, hbw⟩ := HB.out wr hbl
      clear hbl
      by_cases hkl : k < xs.length
      · have hkl2 : k < ys.length := by have := HL.out; omega
        obtain ⟨g1, o1, c1, e1, _, _, _, hc1⟩ := u32_open (HR1.out wr hbw) (by omega)
        obtain ⟨g2, o2, c2, e2, _, _, _, hc2⟩ := u32_open (HR2.out wr hbw) (by omega)
        cases e1
        injection e2 with e2 e3 e4
        subst e2 e4
        have d1 := hc1 k hkl
        have d2 := hc2 k hkl2
        clear hc1 hc2 e3
        have HEQ : Hid (xs.getD k 0 = ys.getD k 0 → xs.take (k + 1) = ys.take (k + 1)) := takeD_succ hkl hkl2 HT.out
        have HNE : Hid (¬ xs.getD k 0 = ys.getD k 0 → ¬ (⟨xn, xo, xs, xm⟩ : TSrc) = ⟨yn, yo, ys, ym⟩) := fun h e => h (by injection e with _ _ e _; rw [e])
        by_cases he : xs.getD k 0 = ys.getD k 0
        · have HF := Lib.hid (HEQ.out he)
          rw [← he] at d2
          clear he HEQ HNE
          generalize xs.getD k 0 = u at *
          go_wp2
          go_quiet (fail)
          go_wp2
          go_roundw
          case rel => exact ⟨k + 1, by omega, by go_num, below_drewN HBL.out _, HF.out⟩
          case measure => simp [intOf]; omega
        · have HF := Lib.hid (HNE.out he)
          generalize xs.getD k 0 = u at *
          generalize ys.getD k 0 = v at *
          have hbq : (u != v) = true := by rw [bne_iff_ne]; exact he
          clear he HEQ HNE
          go_wp2
          go_quiet (fail)
          go_wp2
          go_ret
          exact ⟨ret_bool (by rw [decide_eq_false HF.out]), below_drewN hbw _⟩
      · have HE : Hid (xs = ys) := by
          have := HT.out
          rw [List.take_of_length_le (by omega), List.take_of_length_le (by have := HL.out; omega)] at this
          exact this
        by_cases e0 : xn = yn
        · by_cases e1 : xo = yo
          · by_cases e2 : xm = ym
            · have HF : Hid ((⟨xn, xo, xs, xm⟩ : TSrc) = ⟨yn, yo, ys, ym⟩) := by show _ = _; rw [e0, e1, e2, HE.out]
              subst e0 e1 e2
              go_wp2
              go_ret
              exact ⟨ret_bool (by rw [decide_eq_true HF.out]), hbw⟩
            · have HF : Hid (¬ (⟨xn, xo, xs, xm⟩ : TSrc) = ⟨yn, yo, ys, ym⟩) := fun e => e2 (by injection e)
              have hbq : (xm == ym) = false := by rw [beq_eq_false_iff_ne]; exact e2
              subst e0 e1
              go_wp2
              go_ret
              exact ⟨ret_bool (by rw [decide_eq_false HF.out]), hbw⟩
          · have HF : Hid (¬ (⟨xn, xo, xs, xm⟩ : TSrc) = ⟨yn, yo, ys, ym⟩) := fun e => e1 (by injection e)
            have hbq : (xo == yo) = false := by rw [beq_eq_false_iff_ne]; exact e1
            subst e0
            go_wp2
            go_ret
            exact ⟨ret_bool (by rw [decide_eq_false HF.out]), hbw⟩
        · have HF : Hid (¬ (⟨xn, xo, xs, xm⟩ : TSrc) = ⟨yn, yo, ys, ym⟩) := fun e => e0 (by injection e)
          have hbq : (xn == yn) = false := by rw [beq_eq_false_iff_ne]; exact e0
          go_wp2
          go_ret
          exact ⟨ret_bool (by rw [decide_eq_false HF.out]), hbw⟩
  · have HF : Hid (¬ (⟨xn, xo, xs, xm⟩ : TSrc) = ⟨yn, yo, ys, ym⟩) := fun e => hl (by injection e with _ _ e _; rw [e])
    have hb : ((xs.length : Int) != (ys.length : Int)) = true := by rw [bne_iff_ne]; omega
    have hb2 : (xs.length != ys.length) = true := by rw [bne_iff_ne]; omega
    go_enter Tryd.func22, Tryd.ntmps22
    go_wp2
    go_ret
    exact ⟨ret_bool (by rw [decide_eq_false HF.out]), ((Below.refl _ _).alloc (Nat.le_refl _) _).alloc (by simp) _⟩
end Go.Proofs.Rm
