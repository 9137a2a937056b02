/- The walks of the reference's comparisons: SameTurns, SameSource, SameTable. -/
import Derived.Test.YthlamfoldfeocaaDoorTabDef
import Derived.Test.YthlamfoldfeocaaDoorRoomWalks5
import Derived.Laws.StructEq
namespace Go.Proofs.Rm
open Go.RowKit Go.Proofs.Heap Go.Proofs.Mem
theorem row_at {α : Type} (f : α → List Value) (k : Nat) (hk : ∀ x, (f x).length = k) (hk0 : 0 < k) {w : World} {e : TypeId} {v : Value} {n : Nat} {l : List α} (h : Row w e v n (l.flatMap f)) (hl : 0 < l.length) :
    ∃ g off cap, v = .slice (some ⟨g, off, none⟩) n cap ∧ n ≤ cap ∧ cap ≤ maxLen ∧ g < w.heap.size ∧ ∀ (i : Nat) (x : α), l[i]? = some x → ∀ j, j < k → w.cell? ⟨g, off + i * k + j, none⟩ = (f x)[j]? := by
  have hfl := flat_length f k hk l
  obtain ⟨g, off, cap, h1, h2, h3, h4, h5⟩ := h.open (by rw [hfl]; exact Nat.mul_pos hl hk0)
  refine ⟨g, off, cap, h1, h2, h3, h4, fun i x hx j hj => ?_⟩
  have hi : i < l.length := (List.getElem?_eq_some_iff.1 hx).1
  have hlt : i * k + j < l.length * k := by
    have h6 : (i + 1) * k ≤ l.length * k := Nat.mul_le_mul_right _ hi
    rw [Nat.succ_mul] at h6
    omega
  rw [Nat.add_assoc, h5 _ (by rw [hfl]; exact hlt)]
  exact flat_at f k hk l i j x hx hj
theorem turn_at {w : World} {v : Value} {l : List Turn} (h : TurnRow w v l) (hl : 0 < l.length) : ∃ g off cap, v = .slice (some ⟨g, off, none⟩) l.length cap ∧ g < w.heap.size ∧
    ∀ (i : Nat) (x : Turn), l[i]? = some x → w.cell? ⟨g, off + i * 5, none⟩ = some (.int .i64 x.kind) ∧ w.cell? ⟨g, off + i * 5 + 1, none⟩ = some (.int .i64 x.peer) ∧ w.cell? ⟨g, off + i * 5 + 2, none⟩ = some (.int .i64 x.source) ∧ w.cell? ⟨g, off + i * 5 + 3, none⟩ = some (.int .i64 x.layer) ∧ w.cell? ⟨g, off + i * 5 + 4, none⟩ = some (.int .u32 x.ssrc) := by
  obtain ⟨g, off, cap, h1, _, _, h4, h5⟩ := row_at turnCells 5 (fun _ => rfl) (by omega) h hl
  exact ⟨g, off, cap, h1, h4, fun i x hx => ⟨h5 i x hx 0 (by omega), h5 i x hx 1 (by omega), h5 i x hx 2 (by omega), h5 i x hx 3 (by omega), h5 i x hx 4 (by omega)⟩⟩
theorem take_eq_succ {α : Type} {a b : List α} {k : Nat} (ha : k < a.length) (hb : k < b.length) (h : a.take k = b.take k) (e : a[k] = b[k]) : a.take (k + 1) = b.take (k + 1) := by
  rw [List.take_succ_eq_append_getElem ha, List.take_succ_eq_append_getElem hb, h, e]
theorem drewN_cell (w : World) (q : Nat) (a : Addr) : (w.drewN q).cell? a = w.cell? a := by
  induction q with
  | zero => rfl
  | succ q ih => exact ih
set_option maxHeartbeats 2000000 in
theorem SameTurns_any (v1 v2 : Value) (l1 l2 : List Turn) (w : World) (h1 : TurnRow w v1 l1) (h2 : TurnRow w v2 l2) :
    Calls Tryd.prog 31 #[v1, v2] w fun e w' => e = .returned (.bool (decide (l1 = l2))) ∧ Below w.heap.size w w' := by
  have n1 := h1.len
  have n2 := h2.len
  by_cases hl : l1.length = l2.length
  · by_cases h0 : 0 < l1.length
    · obtain ⟨g1, o1, c1, rfl, hg1, hc1⟩ := turn_at h1 h0
      obtain ⟨g2, o2, c2, rfl, hg2, hc2⟩ := turn_at h2 (by omega)
      have HC1 : Hid (∀ w', Below w.heap.size w w' → ∀ (i : Nat) (x : Turn), l1[i]? = some x → w'.cell? ⟨g1, o1 + i * 5, none⟩ = some (.int .i64 x.kind) ∧ w'.cell? ⟨g1, o1 + i * 5 + 1, none⟩ = some (.int .i64 x.peer) ∧ w'.cell? ⟨g1, o1 + i * 5 + 2, none⟩ = some (.int .i64 x.source) ∧ w'.cell? ⟨g1, o1 + i * 5 + 3, none⟩ = some (.int .i64 x.layer) ∧ w'.cell? ⟨g1, o1 + i * 5 + 4, none⟩ = some (.int .u32 x.ssrc)) := fun w' hb i x hx => by
        obtain ⟨a, b, c, d, e⟩ := hc1 i x hx
        exact ⟨(hb.cell hg1).trans a, (hb.cell hg1).trans b, (hb.cell hg1).trans c, (hb.cell hg1).trans d, (hb.cell hg1).trans e⟩
      have HC2 : Hid (∀ w', Below w.heap.size w w' → ∀ (i : Nat) (x : Turn), l2[i]? = some x → w'.cell? ⟨g2, o2 + i * 5, none⟩ = some (.int .i64 x.kind) ∧ w'.cell? ⟨g2, o2 + i * 5 + 1, none⟩ = some (.int .i64 x.peer) ∧ w'.cell? ⟨g2, o2 + i * 5 + 2, none⟩ = some (.int .i64 x.source) ∧ w'.cell? ⟨g2, o2 + i * 5 + 3, none⟩ = some (.int .i64 x.layer) ∧ w'.cell? ⟨g2, o2 + i * 5 + 4, none⟩ = some (.int .u32 x.ssrc)) := fun w' hb i x hx => by
        obtain ⟨a, b, c, d, e⟩ := hc2 i x hx
        exact ⟨(hb.cell hg2).trans a, (hb.cell hg2).trans b, (hb.cell hg2).trans c, (hb.cell hg2).trans d, (hb.cell hg2).trans e⟩
      have HL := Lib.hid hl
      rw [← hl]
      rw [← hl] at n2
      clear hc1 hc2 h1 h2 hl
      go_enter Tryd.func31, Tryd.ntmps31
      go_wp2
      go_loopw [13] (fun i w' => ∃ k : Nat, k ≤ l1.length ∧ i = .int .i64 k ∧ Below w.heap.size w w' ∧ Hid (l1.take k = l2.take k)) (fun i _ => l1.length - (intOf i).toNat)
      case atStart => exact ⟨0, by omega, rfl, Below.refl _ _, rfl⟩
      case round =>
        obtain ⟨k, hk, rfl, hbl, HT⟩ := hrel
        by_cases hkl : k < l1.length
        · have hkl2 : k < l2.length := by have := HL.out; omega
          obtain ⟨a0, a1, a2, a3, a4⟩ := HC1.out wr hbl k l1[k] (List.getElem?_eq_getElem hkl)
          obtain ⟨b0, b1, b2, b3, b4⟩ := HC2.out wr hbl k l2[k] (List.getElem?_eq_getElem hkl2)
          have HEQ : Hid (l1[k] = l2[k] → l1.take (k + 1) = l2.take (k + 1)) := take_eq_succ hkl hkl2 HT.out
          have HNE : Hid (¬ l1[k] = l2[k] → ¬ l1 = l2) := fun h e => h (by subst e; rfl)
          by_cases he : l1[k] = l2[k]
          · have HF := Lib.hid (HEQ.out he)
            rw [← he] at b0 b1 b2 b3 b4
            clear he HEQ HNE
            generalize l1[k] = x at *
            obtain ⟨x0, x1, x2, x3, x4⟩ := x
            dsimp only at *
            go_wp2
            go_quiet (fail)
            go_wp2
            go_roundw
            case rel => exact ⟨k + 1, by omega, by go_num, below_drewN hbl _, HF.out⟩
            case measure => simp [intOf]; omega
          · have HF := Lib.hid (HNE.out he)
            generalize l1[k] = x at *
            generalize l2[k] = y at *
            have HXY := Lib.hid he
            clear he HEQ HNE
            obtain ⟨x0, x1, x2, x3, x4⟩ := x
            obtain ⟨y0, y1, y2, y3, y4⟩ := y
            dsimp only at a0 a1 a2 a3 a4 b0 b1 b2 b3 b4
            by_cases e0 : x0 = y0
            rotate_left
            · go_wp2
              go_quiet (fail)
              go_wp2
              go_ret
              exact ⟨ret_bool (by rw [decide_eq_false HF.out]), below_drewN hbl _⟩
            subst e0
            by_cases e1 : x1 = y1
            rotate_left
            · go_wp2
              go_quiet (fail)
              go_wp2
              go_ret
              exact ⟨ret_bool (by rw [decide_eq_false HF.out]), below_drewN hbl _⟩
            subst e1
            by_cases e2 : x2 = y2
            rotate_left
            · go_wp2
              go_quiet (fail)
              go_wp2
              go_ret
              exact ⟨ret_bool (by rw [decide_eq_false HF.out]), below_drewN hbl _⟩
            subst e2
            by_cases e3 : x3 = y3
            rotate_left
            · go_wp2
              go_quiet (fail)
              go_wp2
              go_ret
              exact ⟨ret_bool (by rw [decide_eq_false HF.out]), below_drewN hbl _⟩
            subst e3
            by_cases e4 : x4 = y4
            rotate_left
            · go_wp2
              go_quiet (fail)
              go_wp2
              go_ret
              exact ⟨ret_bool (by rw [decide_eq_false HF.out]), below_drewN hbl _⟩
            subst e4
            exact absurd rfl HXY.out
        · have HF : Hid (l1 = l2) := by
            have := HT.out
            rw [List.take_of_length_le (by omega), List.take_of_length_le (by have := HL.out; omega)] at this
            exact this
          go_wp2
          go_ret
          exact ⟨ret_bool (by rw [decide_eq_true HF.out]), hbl⟩
    · have e1 : l1 = [] := List.eq_nil_of_length_eq_zero (by omega)
      have e2 : l2 = [] := List.eq_nil_of_length_eq_zero (by omega)
      subst e1 e2
      obtain ⟨a1, c1, rfl, _⟩ := h1
      obtain ⟨a2, c2, rfl, _⟩ := h2
      go_enter Tryd.func31, Tryd.ntmps31
      go_wp2
      go_loopw [13] (fun i w' => i = .int .i64 0 ∧ w' = w) (fun _ _ => 0)
      case atStart => exact ⟨rfl, rfl⟩
      case round =>
        obtain ⟨rfl, rfl⟩ := hrel
        go_wp2
        go_ret
        exact ⟨rfl, Below.refl _ _⟩
  · obtain ⟨a1, c1, rfl, _⟩ := h1
    obtain ⟨a2, c2, rfl, _⟩ := h2
    have HF : Hid (¬ l1 = l2) := fun e => hl (by rw [e])
    have hb : ((l1.length : Int) != (l2.length : Int)) = true := by rw [bne_iff_ne]; omega
    have hb2 : (l1.length != l2.length) = true := by rw [bne_iff_ne]; omega
    go_enter Tryd.func31, Tryd.ntmps31
    go_wp2
    go_ret
    exact ⟨ret_bool (by rw [decide_eq_false HF.out]), Below.refl _ _⟩
end Go.Proofs.Rm
