/- Plain laws on peer names: runes of a list of bytes; which names may be; their keys; their beginnings. No program in sight. -/
import Derived.Lib.MapLaws
import Derived.Lib.ValidLaws
namespace Go.Proofs.Lab
open Go Go.Lib

theorem ne_of_len {l : List UInt8} (h : 0 < l.length) : l ≠ [] := List.length_pos_iff.1 h
def rnGo : Nat → List UInt8 → List (Nat × Nat)
  | 0, _ => []
  | n + 1, l => if l = [] then [] else decodeL l :: rnGo n (l.drop (decodeL l).2)
def rn (l : List UInt8) : List (Nat × Nat) := rnGo l.length l

theorem rnGo_fuel : ∀ (n m : Nat) (l : List UInt8), l.length ≤ n → l.length ≤ m → rnGo n l = rnGo m l
  | 0, m, l, hn, _ => by
    have : l = [] := List.eq_nil_of_length_eq_zero (by omega)
    subst this; cases m <;> simp [rnGo]
  | n + 1, 0, l, _, hm => by
    have : l = [] := List.eq_nil_of_length_eq_zero (by omega)
    subst this; simp [rnGo]
  | n + 1, m + 1, l, hn, hm => by
    by_cases hne : l = []
    · simp [rnGo, hne]
    · have hw := decodeL_width l
      have hl : 0 < l.length := List.length_pos_iff.2 hne
      simp only [rnGo, if_neg hne]
      rw [rnGo_fuel n m _ (by rw [List.length_drop]; omega) (by rw [List.length_drop]; omega)]
theorem rn_nil : rn [] = [] := rfl
theorem rn_step (l : List UInt8) (hne : l ≠ []) : rn l = decodeL l :: rn (l.drop (decodeL l).2) := by
  have hw := decodeL_width l
  have hl : 0 < l.length := List.length_pos_iff.2 hne
  unfold rn
  obtain ⟨n, hn⟩ : ∃ n, l.length = n + 1 := ⟨l.length - 1, by omega⟩
  rw [hn, rnGo, if_neg hne, rnGo_fuel n _ _ (by rw [List.length_drop]; omega) (Nat.le_refl _)]
theorem rn_ind {motive : List UInt8 → Prop} (nil : motive []) (step : ∀ l, l ≠ [] → motive (l.drop (decodeL l).2) → motive l) (l : List UInt8) : motive l := by
  have key : ∀ n l, l.length ≤ n → motive l := by
    intro n
    induction n with
    | zero => intro l hl; have : l = [] := List.eq_nil_of_length_eq_zero (by omega); subst this; exact nil
    | succ n ih =>
      intro l hl
      by_cases hne : l = []
      · subst hne; exact nil
      · have hw := decodeL_width l
        have hl : 0 < l.length := List.length_pos_iff.2 hne
        exact step l hne (ih _ (by rw [List.length_drop]; omega))
  exact key _ l (Nat.le_refl _)

/-- Not a byte that belongs to no encoding. -/
def good (p : Nat × Nat) : Bool := !(p.1 == 65533 && p.2 == 1)
def okR (r : Nat) : Bool := decide (33 ≤ r) && (decide (r < 127) || decide (159 < r)) && !(r == 65533)
def may (l : List UInt8) : Bool := (rn l).all (fun p => okR p.1) && decide (1 ≤ (rn l).length) && decide ((rn l).length ≤ 8)
def runes (l : List UInt8) : Int := if (rn l).all good then ((rn l).length : Int) else -1
def low (b : UInt8) : UInt8 := if 65 ≤ b.toNat ∧ b.toNat ≤ 90 then b + 32 else b
def key (l : List UInt8) : List UInt8 := if may l then l.map low else []
def widths (R : List (Nat × Nat)) : Nat := (R.map (·.2)).sum
def cutAt (l : List UInt8) (k : Nat) : Nat := widths ((rn l).take k)
def cut (l : List UInt8) (n : Int) : List UInt8 := l.take (cutAt l n.toNat)

theorem okR_good {p : Nat × Nat} (h : okR p.1 = true) : good p = true := by
  unfold okR at h; unfold good; simp at h ⊢; exact Or.inl h.2
theorem may_valid {l : List UInt8} (h : may l = true) : (rn l).all good = true := by
  unfold may at h
  simp only [Bool.and_eq_true] at h
  exact List.all_eq_true.2 fun p hp => okR_good (List.all_eq_true.1 h.1.1 p hp)
theorem validD_rn : ∀ l, validD l = (rn l).all good := by
  refine rn_ind rfl ?_
  intro l hne ih
  rw [validD_step l hne, rn_step l hne, List.all_cons, ih]
  unfold good
  by_cases h : (decodeL l).1 = 65533 ∧ (decodeL l).2 = 1
  · simp [h]
  · rw [if_neg h]
    have : ((decodeL l).1 == 65533 && (decodeL l).2 == 1) = false := by
      rw [Bool.eq_false_iff]; simpa using h
    simp [this]
theorem widths_rn : ∀ l, widths (rn l) = l.length := by
  refine rn_ind rfl ?_
  intro l hne ih
  have h1 := decodeL_le l hne
  rw [rn_step l hne]
  unfold widths at *
  rw [List.map_cons, List.sum_cons, ih, List.length_drop]; omega
theorem widths_take (R : List (Nat × Nat)) (k : Nat) : widths (R.take k) ≤ widths R := by
  unfold widths
  induction R generalizing k with
  | nil => simp
  | cons a R ih => cases k with
    | zero => simp
    | succ k => simp only [List.take_succ_cons, List.map_cons, List.sum_cons]; have := ih k; omega
theorem cutAt_le (l : List UInt8) (k : Nat) : cutAt l k ≤ l.length := by
  rw [← widths_rn l]; exact widths_take _ _
theorem cutAt_zero (l : List UInt8) : cutAt l 0 = 0 := rfl
theorem rn_length_le : ∀ l, (rn l).length ≤ l.length := by
  refine rn_ind (by simp [rn_nil]) ?_
  intro l hne ih
  have h1 := decodeL_le l hne
  have h2 := decodeL_width l
  rw [rn_step l hne]
  rw [List.length_drop] at ih
  simp; omega
/-- What lies behind the first k runes. -/
theorem rn_drop : ∀ l, ∀ k, rn (l.drop (cutAt l k)) = (rn l).drop k := by
  refine rn_ind (by intro k; simp [rn_nil]) ?_
  intro l hne ih k
  cases k with
  | zero => simp [cutAt_zero]
  | succ k =>
    have := ih k
    unfold cutAt at *
    rw [rn_step l hne, List.take_succ_cons, List.drop_succ_cons]
    unfold widths at *
    rw [List.map_cons, List.sum_cons, ← this, List.drop_drop]
theorem cutAt_succ (l : List UInt8) (k : Nat) (h : cutAt l k < l.length) : cutAt l (k + 1) = cutAt l k + (decodeL (l.drop (cutAt l k))).2 := by
  have hne : l.drop (cutAt l k) ≠ [] := ne_of_len (by rw [List.length_drop]; omega)
  have h1 := rn_drop l k
  rw [rn_step _ hne] at h1
  unfold cutAt at *
  have hk : (rn l)[k]? = some (decodeL (l.drop (widths ((rn l).take k)))) := by
    have := congrArg (·[0]?) h1
    simpa using this.symm
  rw [List.take_add_one, hk]
  unfold widths
  simp
theorem cutAt_end (l : List UInt8) (k : Nat) : cutAt l k = l.length ↔ (rn l).length ≤ k := by
  constructor
  · intro h
    have h1 := rn_drop l k
    rw [h, List.drop_length, rn_nil] at h1
    have := congrArg List.length h1
    rw [List.length_drop] at this; simp at this; omega
  · intro h
    unfold cutAt; rw [List.take_of_length_le h, widths_rn]
theorem cutAt_lt (l : List UInt8) (k : Nat) : cutAt l k < l.length ↔ k < (rn l).length := by
  have h1 := cutAt_end l k
  have h2 := cutAt_le l k
  omega
theorem cutAt_ge (l : List UInt8) (k : Nat) (h : k ≤ (rn l).length) : k ≤ cutAt l k := by
  induction k with
  | zero => exact Nat.zero_le _
  | succ k ih =>
    have := (cutAt_lt l k).2 (by omega)
    have := ih (by omega)
    rw [cutAt_succ l k (by assumption)]
    have := decodeL_width (l.drop (cutAt l k))
    omega
theorem rn_at (l : List UInt8) (k : Nat) (h : k < (rn l).length) : (rn l)[k] = decodeL (l.drop (cutAt l k)) := by
  have hlt := (cutAt_lt l k).2 h
  have hne : l.drop (cutAt l k) ≠ [] := ne_of_len (by rw [List.length_drop]; omega)
  have h1 := rn_drop l k
  rw [rn_step _ hne] at h1
  have := congrArg (·[0]?) h1
  simp [List.getElem?_eq_getElem h] at this
  exact this.symm

/-- A rune that is decoded well stays what it is, whatever follows. -/
theorem decode_grows (l t : List UInt8) (hg : good (decodeL l) = true) (hne : l ≠ []) : decodeL (l ++ t) = decodeL l := by
  have hl : 0 < l.length := List.length_pos_iff.2 hne
  have hG : ¬ ((decodeL l).1 = 65533 ∧ (decodeL l).2 = 1) := by
    unfold good at hg; intro h; simp [h] at hg
  have e0 : (l ++ t).getD 0 0 = l.getD 0 0 := by
    rw [List.getD_eq_getElem?_getD, List.getD_eq_getElem?_getD, List.getElem?_append_left hl]
  rw [decodeL_N] at hG
  rw [decodeL_N, decodeL_N, e0]
  have hgd : ∀ i, i < l.length → (l ++ t).getD i 0 = l.getD i 0 := by
    intro i hi
    rw [List.getD_eq_getElem?_getD, List.getD_eq_getElem?_getD, List.getElem?_append_left hi]
  have hle : l.length ≤ (l ++ t).length := by rw [List.length_append]; omega
  rcases decodeN_shape l.length (l.getD 0 0).toNat (l.getD 1 0).toNat (l.getD 2 0).toNat (l.getD 3 0).toNat with ⟨c, e⟩ | ⟨c1, c2, c3, cv, e⟩ | ⟨c1, c2, c3, c4, cv, cs, e⟩ | ⟨c1, c2, c3, c4, c5, cv, cw, e⟩ | e
  · rw [e]; unfold decodeN; rw [if_pos c]
  · rw [e, hgd 1 c2]; unfold decodeN
    rw [if_neg (by omega), if_pos (by omega), if_pos (by omega)]
  · rw [e, hgd 1 (by omega), hgd 2 (by omega)]; unfold decodeN
    rw [if_neg (by omega), if_neg (by omega), if_pos (by omega), if_pos (by omega)]
  · rw [e, hgd 1 (by omega), hgd 2 (by omega), hgd 3 (by omega)]; unfold decodeN
    rw [if_neg (by omega), if_neg (by omega), if_neg (by omega), if_pos (by omega), if_pos (by omega)]
  · rw [e] at hG; exact absurd ⟨rfl, rfl⟩ hG
theorem decode_bad {p : Nat × Nat} (h : good p = false) : p = (65533, 1) := by
  unfold good at h; simp at h; exact Prod.ext h.1 h.2
/-- A beginning that holds the first rune whole. -/
theorem decode_take (l : List UInt8) (n : Nat) (hne : l ≠ []) (hn : (decodeL l).2 ≤ n) : decodeL (l.take n) = decodeL l := by
  have hw := decodeL_width l
  have hl : 0 < l.length := List.length_pos_iff.2 hne
  have hne' : l.take n ≠ [] := ne_of_len (by rw [List.length_take]; omega)
  by_cases hg : good (decodeL (l.take n)) = true
  · have := decode_grows (l.take n) (l.drop n) hg hne'
    rw [List.take_append_drop] at this; exact this.symm
  · have hg := decode_bad (by simpa using hg)
    by_cases hg2 : good (decodeL l) = true
    · exfalso
      have hG : ¬ ((decodeL l).1 = 65533 ∧ (decodeL l).2 = 1) := by
        unfold good at hg2; intro h; simp [h] at hg2
      have h3 : decodeL (l.take n) = decodeL l := by
        rw [decodeL_N] at hn hG
        rw [decodeL_N, decodeL_N]
        have hgd : ∀ i, i < n → (l.take n).getD i 0 = l.getD i 0 := by
          intro i hi
          rw [List.getD_eq_getElem?_getD, List.getD_eq_getElem?_getD, List.getElem?_take_of_lt hi]
        have hln : (l.take n).length = min n l.length := List.length_take
        rcases decodeN_shape l.length (l.getD 0 0).toNat (l.getD 1 0).toNat (l.getD 2 0).toNat (l.getD 3 0).toNat with ⟨c, e⟩ | ⟨c1, c2, c3, cv, e⟩ | ⟨c1, c2, c3, c4, cv, cs, e⟩ | ⟨c1, c2, c3, c4, c5, cv, cw, e⟩ | e
        · rw [e] at hn ⊢; dsimp only at hn; rw [hgd 0 (by omega)]; unfold decodeN; rw [if_pos c]
        · rw [e] at hn ⊢; dsimp only at hn; rw [hgd 0 (by omega), hgd 1 (by omega)]; unfold decodeN
          rw [if_neg (by omega), if_pos (by omega), if_pos (by omega)]
        · rw [e] at hn ⊢; dsimp only at hn; rw [hgd 0 (by omega), hgd 1 (by omega), hgd 2 (by omega)]; unfold decodeN
          rw [if_neg (by omega), if_neg (by omega), if_pos (by omega), if_pos (by omega)]
        · rw [e] at hn ⊢; dsimp only at hn; rw [hgd 0 (by omega), hgd 1 (by omega), hgd 2 (by omega), hgd 3 (by omega)]; unfold decodeN
          rw [if_neg (by omega), if_neg (by omega), if_neg (by omega), if_pos (by omega), if_pos (by omega)]
        · rw [e] at hG; exact absurd ⟨rfl, rfl⟩ hG
      rw [h3] at hg
      exact hG ⟨by rw [hg], by rw [hg]⟩
    · have hg2 : good (decodeL l) = false := by simpa using hg2
      rw [hg, decode_bad hg2]
theorem rn_cut : ∀ l, ∀ k, rn (l.take (cutAt l k)) = (rn l).take k := by
  refine rn_ind (by intro k; simp [rn_nil]) ?_
  intro l hne ih k
  cases k with
  | zero => simp [cutAt_zero, rn_nil]
  | succ k =>
    have hw := decodeL_width l
    have hl : 0 < l.length := List.length_pos_iff.2 hne
    have hc : cutAt l (k + 1) = (decodeL l).2 + cutAt (l.drop (decodeL l).2) k := by
      unfold cutAt widths; rw [rn_step l hne, List.take_succ_cons, List.map_cons, List.sum_cons]
    have hd := decode_take l (cutAt l (k + 1)) hne (by omega)
    have hne' : l.take (cutAt l (k + 1)) ≠ [] := ne_of_len (by rw [List.length_take]; omega)
    rw [rn_step _ hne', hd, rn_step l hne, List.take_succ_cons, List.drop_take, hc, Nat.add_sub_cancel_left, ih k]
theorem rn_append : ∀ a, (rn a).all good = true → ∀ b, rn (a ++ b) = rn a ++ rn b := by
  refine rn_ind (by intro _ b; simp [rn_nil]) ?_
  intro l hne ih h b
  rw [rn_step l hne, List.all_cons, Bool.and_eq_true] at h
  have hd := decode_grows l b h.1 hne
  have hle := decodeL_le l hne
  rw [rn_step _ (by simp [hne]), hd, rn_step l hne, List.drop_append_of_le_length hle, ih h.2 b, List.cons_append]

/-! The statements' plain content -/
theorem cut_cut (l : List UInt8) (m n : Int) : cut (cut l m) n = cut l (min m n) := by
  unfold cut
  have h : cutAt (l.take (cutAt l m.toNat)) n.toNat = cutAt l (min n.toNat m.toNat) := by
    unfold cutAt
    have := rn_cut l m.toNat
    unfold cutAt at this
    rw [this, List.take_take]
  rw [h, List.take_take]
  have hm : min n.toNat m.toNat = (min m n).toNat := by omega
  rw [hm]
  congr 1
  have : cutAt l (min m n).toNat ≤ cutAt l m.toNat := by
    have e : (rn l).take (min m n).toNat = ((rn l).take m.toNat).take (min m n).toNat := by rw [List.take_take]; congr 1; omega
    unfold cutAt; rw [e]; exact widths_take _ _
  omega
theorem runes_cut (l : List UInt8) (m : Int) (h : ¬ runes l < 0) : runes (cut l m) = min (max m 0) (runes l) := by
  have hv : (rn l).all good = true := by
    unfold runes at h; split at h
    · assumption
    · simp at h
  have hv2 : ((rn l).take m.toNat).all good = true := by
    rw [List.all_eq_true] at *; intro p hp; exact hv p (List.mem_of_mem_take hp)
  unfold runes cut
  rw [rn_cut, if_pos hv2, if_pos hv, List.length_take]; omega
theorem runes_join (a b : List UInt8) (ha : ¬ runes a < 0) (hb : ¬ runes b < 0) : runes (a ++ b) = runes a + runes b ∧ cut (a ++ b) (runes a) = a := by
  have va : (rn a).all good = true := by
    unfold runes at ha; split at ha
    · assumption
    · simp at ha
  have vb : (rn b).all good = true := by
    unfold runes at hb; split at hb
    · assumption
    · simp at hb
  unfold runes cut cutAt
  rw [rn_append a va b]
  simp only [List.all_append, va, vb, Bool.and_true, if_true, List.length_append]
  refine ⟨by omega, ?_⟩
  rw [Int.toNat_natCast, List.take_append_of_le_length (Nat.le_refl _), List.take_length, widths_rn]
  simp

theorem decodeL_w4 (l : List UInt8) : (decodeL l).2 ≤ 4 := by
  rw [decodeL_N]
  rcases decodeN_shape l.length (l.getD 0 0).toNat (l.getD 1 0).toNat (l.getD 2 0).toNat (l.getD 3 0).toNat with ⟨c, e⟩ | ⟨c1, c2, c3, cv, e⟩ | ⟨c1, c2, c3, c4, cv, cs, e⟩ | ⟨c1, c2, c3, c4, c5, cv, cw, e⟩ | e
  all_goals (rw [e]; dsimp only; omega)
theorem length_le4 : ∀ l, l.length ≤ 4 * (rn l).length := by
  refine rn_ind (by simp [rn_nil]) ?_
  intro l hne ih
  have h1 := decodeL_w4 l
  rw [List.length_drop] at ih
  rw [rn_step l hne, List.length_cons]; omega
theorem may_len {l : List UInt8} (h : may l = true) : l.length ≤ 32 := by
  have := length_le4 l
  unfold may at h; simp at h; omega
/-! Keys -/
def lowN (r : Nat) : Nat := if 65 ≤ r ∧ r ≤ 90 then r + 32 else r
theorem low_toNat (b : UInt8) : (low b).toNat = lowN b.toNat := by
  unfold low lowN
  split
  · rename_i h
    rw [UInt8.toNat_add]
    have : (32 : UInt8).toNat = 32 := rfl
    rw [this]; omega
  · rfl
theorem low_zero : low 0 = 0 := rfl
theorem getD_low (l : List UInt8) (i : Nat) : ((l.map low).getD i 0).toNat = lowN (l.getD i 0).toNat := by
  rw [List.getD_eq_getElem?_getD, List.getD_eq_getElem?_getD, List.getElem?_map]
  cases l[i]? with
  | none => rfl
  | some b => exact low_toNat b
theorem decodeN_low (n b0 b1 b2 b3 : Nat) : decodeN n (lowN b0) (lowN b1) (lowN b2) (lowN b3) = (lowN (decodeN n b0 b1 b2 b3).1, (decodeN n b0 b1 b2 b3).2) := by
  have hc : ∀ b, 128 ≤ b → lowN b = b := by intro b h; unfold lowN; rw [if_neg (by omega)]
  have hl : ∀ b, b < 128 → lowN b < 128 := by intro b h; unfold lowN; split <;> omega
  have h64 : ∀ b, lowN b / 64 = 2 ↔ b / 64 = 2 := by
    intro b; unfold lowN; split <;> omega
  by_cases h0 : b0 < 128
  · unfold decodeN; rw [if_pos (hl _ h0), if_pos h0]
  · have e0 := hc b0 (by omega)
    rw [e0]
    have h8 : ∀ b, b / 64 = 2 → lowN b = b := fun b h => hc b (by omega)
    by_cases k1 : b1 / 64 = 2
    · rw [h8 b1 k1]
      by_cases k2 : b2 / 64 = 2
      · rw [h8 b2 k2]
        by_cases k3 : b3 / 64 = 2
        · rw [h8 b3 k3]
          rcases decodeN_shape n b0 b1 b2 b3 with ⟨c, e⟩ | ⟨c1, c2, c3, cv, e⟩ | ⟨c1, c2, c3, c4, cv, cs, e⟩ | ⟨c1, c2, c3, c4, c5, cv, cw, e⟩ | e
          · omega
          all_goals (rw [e]; dsimp only; rw [hc _ (by omega)])
        · have k3' : ¬ lowN b3 / 64 = 2 := fun h => k3 ((h64 b3).1 h)
          have e3 : decodeN n b0 b1 b2 (lowN b3) = decodeN n b0 b1 b2 b3 := by
            unfold decodeN
            rw [if_neg h0, if_neg h0]
            simp only [k3, k3', and_false, if_false]
          rw [e3]
          rcases decodeN_shape n b0 b1 b2 b3 with ⟨c, e⟩ | ⟨c1, c2, c3, cv, e⟩ | ⟨c1, c2, c3, c4, cv, cs, e⟩ | ⟨c1, c2, c3, c4, c5, cv, cw, e⟩ | e
          · omega
          all_goals (rw [e]; dsimp only; rw [hc _ (by omega)])
      · have k2' : ¬ lowN b2 / 64 = 2 := fun h => k2 ((h64 b2).1 h)
        have e3 : decodeN n b0 b1 (lowN b2) (lowN b3) = decodeN n b0 b1 b2 b3 := by
          unfold decodeN
          rw [if_neg h0, if_neg h0]
          simp only [k2, k2', and_false, false_and, if_false]
        rw [e3]
        rcases decodeN_shape n b0 b1 b2 b3 with ⟨c, e⟩ | ⟨c1, c2, c3, cv, e⟩ | ⟨c1, c2, c3, c4, cv, cs, e⟩ | ⟨c1, c2, c3, c4, c5, cv, cw, e⟩ | e
        · omega
        all_goals (rw [e]; dsimp only; rw [hc _ (by omega)])
    · have k1' : ¬ lowN b1 / 64 = 2 := fun h => k1 ((h64 b1).1 h)
      have e3 : decodeN n b0 (lowN b1) (lowN b2) (lowN b3) = decodeN n b0 b1 b2 b3 := by
        unfold decodeN
        rw [if_neg h0, if_neg h0]
        simp only [k1, k1', and_false, false_and, if_false]
      rw [e3]
      rcases decodeN_shape n b0 b1 b2 b3 with ⟨c, e⟩ | ⟨c1, c2, c3, cv, e⟩ | ⟨c1, c2, c3, c4, cv, cs, e⟩ | ⟨c1, c2, c3, c4, c5, cv, cw, e⟩ | e
      · omega
      all_goals (rw [e]; dsimp only; rw [hc _ (by omega)])
theorem decode_low (l : List UInt8) : decodeL (l.map low) = (lowN (decodeL l).1, (decodeL l).2) := by
  rw [decodeL_N, decodeL_N, List.length_map, getD_low, getD_low, getD_low, getD_low, decodeN_low]
theorem rn_low : ∀ l, rn (l.map low) = (rn l).map fun p => (lowN p.1, p.2) := by
  refine rn_ind rfl ?_
  intro l hne ih
  rw [rn_step _ (by simpa using hne), rn_step l hne, List.map_cons, decode_low]
  dsimp only
  rw [← List.map_drop, ih]
theorem okR_low (r : Nat) : okR (lowN r) = okR r := by
  unfold okR lowN
  split
  · rename_i h
    rw [Bool.eq_iff_iff]; simp; omega
  · rfl
theorem may_low (l : List UInt8) : may (l.map low) = may l := by
  unfold may
  rw [rn_low, List.length_map, List.all_map]
  congr 2
  apply List.all_congr rfl
  intro p; exact okR_low _
theorem low_low (b : UInt8) : low (low b) = low b := by
  apply UInt8.toNat_inj.1
  rw [low_toNat, low_toNat]; unfold lowN; repeat' split
  all_goals omega
theorem key_laws (l : List UInt8) (h : may l = true) : (key l).length = l.length ∧ may (key l) = true ∧ key (key l) = key l := by
  have e : key l = l.map low := by unfold key; rw [if_pos h]
  rw [e]
  refine ⟨List.length_map _, by rw [may_low, h], ?_⟩
  unfold key
  rw [if_pos (by rw [may_low, h]), List.map_map]
  congr 1
  funext b; exact low_low b
theorem key_of_low (l m : List UInt8) (e : m.map low = l.map low) : key m = key l := by
  have hm : may m = may l := by rw [← may_low m, e, may_low]
  unfold key; rw [hm, e]
/-- What strings.Map is handed. -/
def lowF (r : Int) : Int := if 65 ≤ r ∧ r ≤ 90 then r - 65 + 97 else r
theorem dec_low_ascii (l : List UInt8) (hne : l ≠ []) (h : (decodeL l).1 < 128) : ∃ b t, l = b :: t ∧ b.toNat < 128 ∧ decodeL l = (b.toNat, 1) := by
  cases l with
  | nil => exact absurd rfl hne
  | cons b t =>
    refine ⟨b, t, rfl, ?_⟩
    have e0 : (b :: t).getD 0 0 = b := rfl
    rw [decodeL_N, e0] at h ⊢
    rcases decodeN_shape (b :: t).length b.toNat ((b :: t).getD 1 0).toNat ((b :: t).getD 2 0).toNat ((b :: t).getD 3 0).toNat with ⟨c, e⟩ | ⟨c1, c2, c3, cv, e⟩ | ⟨c1, c2, c3, c4, cv, cs, e⟩ | ⟨c1, c2, c3, c4, c5, cv, cw, e⟩ | e
    · exact ⟨c, e⟩
    all_goals (rw [e] at h; dsimp only at h; omega)
theorem encodeRune_high (r : Int) (h : 128 ≤ r) : ∀ b ∈ encodeRune r, low b = b := by
  intro b hb
  have : 128 ≤ b.toNat := by
    unfold encodeRune at hb
    obtain ⟨z, hz, rfl⟩ := List.mem_map.1 hb
    have h1 := encodeRuneZ_byte r z hz
    have h2 : 128 ≤ z := by
      unfold encodeRuneZ at hz
      repeat' split at hz
      all_goals simp at hz
      all_goals omega
    obtain ⟨n, rfl⟩ := Int.eq_ofNat_of_zero_le h1.1
    simp; omega
  unfold low; rw [if_neg (by omega)]
theorem mapD_low : ∀ l, validD l = true → mapD lowF l = l.map low := by
  refine rn_ind (fun _ => rfl) ?_
  intro l hne ih hv
  rw [validD_step l hne] at hv
  split at hv
  · cases hv
  rename_i hg
  have ih := ih hv
  by_cases h : (decodeL l).1 < 128
  · obtain ⟨b, t, rfl, hb, hd⟩ := dec_low_ascii l hne h
    rw [mapD_step _ _ hne, ih, hd]
    dsimp only [List.drop_succ_cons, List.drop_zero, List.map_cons]
    have h0 : 0 ≤ lowF (b.toNat : Int) := by unfold lowF; split <;> omega
    rw [if_pos h0]
    have : encodeRune (lowF (b.toNat : Int)) = [low b] := by
      have e2 : lowF (b.toNat : Int) = ((low b).toNat : Int) := by
        rw [low_toNat]; unfold lowF lowN; repeat' split
        all_goals omega
      have h3 : (low b).toNat < 128 := by rw [low_toNat]; unfold lowN; split <;> omega
      rw [e2]; unfold encodeRune; rw [encodeRuneZ_one (by omega) (by omega)]
      simp
    rw [this]; rfl
  · have hf : lowF ((decodeL l).1 : Int) = (decodeL l).1 := by unfold lowF; rw [if_neg (by omega)]
    rw [mapD_same lowF l hne hf hg, ih, ← encode_decode l hne hg]
    conv => rhs; rw [← List.take_append_drop (decodeL l).2 l, List.map_append, ← encode_decode l hne hg]
    congr 1
    have := encodeRune_high ((decodeL l).1 : Int) (by omega)
    exact (List.map_congr_left this).symm ▸ (List.map_id _).symm

/-! One rune -/
abbrev validR (r : Int) : Prop := (0 ≤ r ∧ r ≤ 1114111) ∧ (r < 55296 ∨ 57343 < r)
theorem valid_of (r : Int) (h : validR r) : Utf8.valid r = true := by
  unfold Utf8.valid
  rw [Bool.or_eq_true, Bool.and_eq_true, Bool.and_eq_true, decide_eq_true_iff, decide_eq_true_iff, decide_eq_true_iff, decide_eq_true_iff]
  omega
theorem enc1 (n : Nat) (h1 : n < 128) : decodeL [UInt8.ofNat n] = (n, 1) := by
  rw [decodeL_N]
  simp only [List.getD_cons_zero, UInt8.toNat_ofNat', List.length_cons, List.length_nil]
  unfold decodeN; rw [if_pos (by omega)]
  refine Prod.ext ?_ rfl
  dsimp only; omega
theorem enc2 (n : Nat) (h1 : 128 ≤ n) (h2 : n < 2048) : decodeL [UInt8.ofNat (192 + n / 64), UInt8.ofNat (128 + n % 64)] = (n, 2) := by
  rw [decodeL_N]
  simp only [List.getD_cons_zero, List.getD_cons_succ, UInt8.toNat_ofNat', List.length_cons, List.length_nil]
  unfold decodeN; rw [if_neg (by omega), if_pos (by omega), if_pos (by omega)]
  refine Prod.ext ?_ rfl
  dsimp only; omega
theorem enc3 (n : Nat) (h1 : 2048 ≤ n) (h2 : n < 65536) (h3 : n < 55296 ∨ 57343 < n) : decodeL [UInt8.ofNat (224 + n / 4096), UInt8.ofNat (128 + n / 64 % 64), UInt8.ofNat (128 + n % 64)] = (n, 3) := by
  rw [decodeL_N]
  simp only [List.getD_cons_zero, List.getD_cons_succ, UInt8.toNat_ofNat', List.length_cons, List.length_nil]
  unfold decodeN; rw [if_neg (by omega), if_neg (by omega), if_pos (by omega), if_pos (by omega)]
  refine Prod.ext ?_ rfl
  dsimp only; omega
theorem enc4 (n : Nat) (h1 : 65536 ≤ n) (h2 : n ≤ 1114111) : decodeL [UInt8.ofNat (240 + n / 262144), UInt8.ofNat (128 + n / 4096 % 64), UInt8.ofNat (128 + n / 64 % 64), UInt8.ofNat (128 + n % 64)] = (n, 4) := by
  rw [decodeL_N]
  simp only [List.getD_cons_zero, List.getD_cons_succ, UInt8.toNat_ofNat', List.length_cons, List.length_nil]
  unfold decodeN; rw [if_neg (by omega), if_neg (by omega), if_neg (by omega), if_pos (by omega), if_pos (by omega)]
  refine Prod.ext ?_ rfl
  dsimp only; omega
theorem decode_encode (n : Nat) (h : validR n) : decodeL (Utf8.encode n).data.toList = (n, (Utf8.encode n).data.toList.length) ∧ 0 < (Utf8.encode n).data.toList.length := by
  have e : Utf8.encode n = if n < 128 then (⟨#[UInt8.ofNat n]⟩ : ByteArray) else if n < 2048 then ⟨#[UInt8.ofNat (192 + n / 64), UInt8.ofNat (128 + n % 64)]⟩
      else if n < 65536 then ⟨#[UInt8.ofNat (224 + n / 4096), UInt8.ofNat (128 + n / 64 % 64), UInt8.ofNat (128 + n % 64)]⟩
      else ⟨#[UInt8.ofNat (240 + n / 262144), UInt8.ofNat (128 + n / 4096 % 64), UInt8.ofNat (128 + n / 64 % 64), UInt8.ofNat (128 + n % 64)]⟩ := by
    unfold Utf8.encode
    rw [if_pos (valid_of n h), Int.toNat_natCast]
  rw [e]
  by_cases h1 : n < 128
  · rw [if_pos h1]; exact ⟨enc1 n h1, Nat.zero_lt_one⟩
  rw [if_neg h1]
  by_cases h2 : n < 2048
  · rw [if_pos h2]; exact ⟨enc2 n (by omega) h2, Nat.zero_lt_succ _⟩
  rw [if_neg h2]
  by_cases h3 : n < 65536
  · rw [if_pos h3]; exact ⟨enc3 n (by omega) h3 (by omega), Nat.zero_lt_succ _⟩
  · rw [if_neg h3]; exact ⟨enc4 n (by omega) (by omega), Nat.zero_lt_succ _⟩
theorem may_one (r : Int) : may (Utf8.encode r).data.toList = decide (validR r ∧ 33 ≤ r ∧ (r < 127 ∨ 159 < r) ∧ r ≠ 65533) := by
  by_cases h : validR r
  · obtain ⟨n, rfl⟩ := Int.eq_ofNat_of_zero_le h.1.1
    obtain ⟨hd, hl⟩ := decode_encode n h
    have hne := ne_of_len hl
    unfold may
    rw [rn_step _ hne, hd, List.drop_length, rn_nil]
    unfold okR
    rw [Bool.eq_iff_iff]; simp; omega
  · have e : Utf8.encode r = Utf8.encode 65533 := by
      have hv : Utf8.valid r = false := by unfold Utf8.valid; rw [Bool.eq_false_iff]; simp; omega
      unfold Utf8.encode; rw [hv]; rfl
    rw [e]
    have : decide (validR r ∧ 33 ≤ r ∧ (r < 127 ∨ 159 < r) ∧ r ≠ 65533) = false := by simp [h]
    rw [this]; decide
end Go.Proofs.Lab
