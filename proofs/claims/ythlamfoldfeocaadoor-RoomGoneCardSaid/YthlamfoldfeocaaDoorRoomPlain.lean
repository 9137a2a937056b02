/- The plain room: what holds of every room that was made by operations is kept by each. No program in sight. -/
import Derived.Test.YthlamfoldfeocaaDoorRoomDef
namespace Go.Proofs.Rm
open Go.Proofs.Lab (may key)
theorem setSub_sub (R : Room) (n p : Nat) (x : Sub) (m q : Nat) : (R.setSub n p x).sub m q = if m = n ∧ q = p then x else R.sub m q := rfl
theorem setSrc_src (R : Room) (n : Nat) (x : Src) (m : Nat) : (R.setSrc n x).src m = if m = n then x else R.src m := rfl
theorem setName_names (R : Room) (p : Nat) (s : List UInt8) (q : Nat) : (R.setName p s).names q = if q = p then s else R.names q := rfl
theorem goneGo_names (n : Nat) : ∀ l R, (goneGo n l R).2.names = R.names
  | [], _ => rfl
  | p :: l, R => goneGo_names n l (R.setSub n p noSub)
theorem goneGo_src (n : Nat) : ∀ l R, (goneGo n l R).2.src = R.src
  | [], _ => rfl
  | p :: l, R => goneGo_src n l (R.setSub n p noSub)
theorem goneGo_sub (n : Nat) : ∀ l R m q, (goneGo n l R).2.sub m q = if m = n ∧ q ∈ l then noSub else R.sub m q
  | [], R, m, q => by simp [goneGo]
  | p :: l, R, m, q => by
    show (goneGo n l (R.setSub n p noSub)).2.sub m q = _
    rw [goneGo_sub n l, setSub_sub]
    by_cases h1 : m = n ∧ q ∈ l
    · rw [if_pos h1, if_pos ⟨h1.1, List.mem_cons_of_mem _ h1.2⟩]
    · rw [if_neg h1]
      by_cases h2 : m = n ∧ q = p
      · rw [if_pos h2, if_pos ⟨h2.1, by rw [h2.2]; exact List.mem_cons_self⟩]
      · rw [if_neg h2, if_neg]
        rintro ⟨a, b⟩
        rcases List.mem_cons.1 b with b | b
        · exact h2 ⟨a, b⟩
        · exact h1 ⟨a, b⟩
theorem inn_nat {n : Nat} {k : Int} : inn n k = true ↔ 1 ≤ n ∧ (n : Int) < k := by unfold inn; simp; omega
theorem hears_nat {R : Room} {p n : Nat} : hears R p n = true ↔ 1 ≤ p ∧ p < 9 ∧ 1 ≤ n ∧ n < 9 ∧ (R.sub n p).there = true := by
  unfold hears
  rw [Bool.and_eq_true, Bool.and_eq_true, inn_nat, inn_nat, Int.toNat_natCast, Int.toNat_natCast]
  exact ⟨fun ⟨⟨⟨a, b⟩, c, d⟩, e⟩ => ⟨a, by omega, c, by omega, e⟩, fun ⟨a, b, c, d, e⟩ => ⟨⟨⟨a, by omega⟩, c, by omega⟩, e⟩⟩
theorem mem_subs {R : Room} {n p : Nat} : p ∈ subs R n ↔ 1 ≤ p ∧ p < 9 ∧ 1 ≤ n ∧ n < 9 ∧ (R.sub n p).there = true := by
  unfold subs
  rw [List.mem_filter, List.mem_range, hears_nat]
  exact ⟨fun ⟨_, h⟩ => h, fun h => ⟨h.2.1, h⟩⟩
theorem Inv.mem_subs {R : Room} (hI : Inv R) {n p : Nat} : p ∈ subs R n ↔ (R.sub n p).there = true := by
  rw [Rm.mem_subs]
  constructor
  · exact fun h => h.2.2.2.2
  · intro h
    have := hI.subAt n p h
    exact ⟨this.2.2.1, this.2.2.2.1, this.1, this.2.1, h⟩
theorem gone_names (R : Room) (n : Nat) : (gone R n).2.names = R.names := goneGo_names n _ _
theorem gone_src (R : Room) (n m : Nat) : (gone R n).2.src m = if m = n then noSrc else R.src m := by
  show (((goneGo n (subs R n) R).2).setSrc n noSrc).src m = _
  rw [setSrc_src, goneGo_src]
theorem gone_sub (R : Room) (n m q : Nat) : (gone R n).2.sub m q = if m = n ∧ q ∈ subs R n then noSub else R.sub m q := goneGo_sub n _ _ m q
theorem gone_there {R : Room} (hI : Inv R) (n m q : Nat) : ((gone R n).2.sub m q).there = true ↔ m ≠ n ∧ (R.sub m q).there = true := by
  rw [gone_sub]
  by_cases h : m = n
  · subst h
    by_cases h2 : (R.sub m q).there = true
    · rw [if_pos ⟨rfl, hI.mem_subs.2 h2⟩]; simp [noSub]
    · rw [if_neg (fun h => h2 (hI.mem_subs.1 h.2))]; simp [h2]
  · rw [if_neg (fun e => h e.1)]; simp [h]
theorem gone_ne (R : Room) {n m : Nat} (h : m ≠ n) (q : Nat) : (gone R n).2.sub m q = R.sub m q := by rw [gone_sub, if_neg (fun e => h e.1)]
theorem joined_congr {R R' : Room} (h : R'.names = R.names) (p : Int) : joined R' p = joined R p := by unfold joined; rw [h]
theorem joined_nat {R : Room} {p : Nat} : joined R p = true ↔ 1 ≤ p ∧ p < 9 ∧ R.names p ≠ [] := by
  unfold joined
  rw [Bool.and_eq_true, inn_nat, Int.toNat_natCast]
  have : (!(R.names p).isEmpty) = true ↔ R.names p ≠ [] := by simp
  rw [this]
  exact ⟨fun ⟨⟨a, b⟩, c⟩ => ⟨a, by omega, c⟩, fun ⟨a, b, c⟩ => ⟨⟨a, by omega⟩, c⟩⟩
theorem inv_gone {R : Room} (hI : Inv R) (n : Nat) : Inv (gone R n).2 := by
  have hn := gone_names R n
  refine ⟨?_, ?_, ?_, ?_, ?_, ?_⟩
  · rw [hn, gone_src]
    refine ⟨hI.none0.1, ?_⟩
    split
    · rfl
    · exact hI.none0.2
  · intro m q h
    obtain ⟨h1, h2⟩ := (gone_there hI n m q).1 h
    have := hI.subAt m q h2
    rw [gone_ne R h1, gone_src, if_neg h1, hn]
    exact this
  · intro m h
    rw [gone_src] at h ⊢
    by_cases h1 : m = n
    · rw [if_pos h1] at h; cases h
    · rw [if_neg h1] at h ⊢
      rw [joined_congr hn]
      exact hI.srcAt m h
  · intro m k x h1 h2 h3 h4
    rw [gone_src] at h1 h2 h3 h4
    by_cases hm : m = n
    · rw [if_pos hm] at h1; cases h1
    by_cases hk : k = n
    · rw [if_pos hk] at h2; cases h2
    rw [if_neg hm] at h1 h3
    rw [if_neg hk] at h2 h4
    exact hI.apart m k x h1 h2 h3 h4
  · rw [hn]; exact hI.nameAt
  · rw [hn]; exact hI.keys
theorem inv_end {R : Room} (hI : Inv R) (n p : Nat) : Inv (R.setSub n p noSub) := by
  refine ⟨hI.none0, ?_, hI.srcAt, hI.apart, hI.nameAt, hI.keys⟩
  intro m q h
  rw [setSub_sub] at h ⊢
  by_cases h1 : m = n ∧ q = p
  · rw [if_pos h1] at h; cases h
  · rw [if_neg h1] at h ⊢
    exact hI.subAt m q h
theorem inv_leave1 {R : Room} (hI : Inv R) (p : Nat) : ∀ k, Inv (leave1 p R k).2
  | 0 => hI
  | k + 1 => by
    unfold leave1
    dsimp only
    split
    · exact inv_end (inv_leave1 hI p k) k p
    · exact inv_leave1 hI p k
theorem inv_leave2 {R : Room} (hI : Inv R) (p : Nat) : ∀ k, Inv (leave2 R p k).2
  | 0 => hI
  | k + 1 => by
    unfold leave2
    dsimp only
    split
    · exact inv_gone (inv_leave2 hI p k) k
    · exact inv_leave2 hI p k
theorem leave1_names (R : Room) (p : Nat) : ∀ k, (leave1 p R k).2.names = R.names ∧ (leave1 p R k).2.src = R.src
  | 0 => ⟨rfl, rfl⟩
  | k + 1 => by
    unfold leave1
    dsimp only
    split
    · exact leave1_names R p k
    · exact leave1_names R p k
theorem leave1_there (R : Room) (p : Nat) : ∀ k m q, ((leave1 p R k).2.sub m q).there = ((R.sub m q).there && !(decide (q = p) && decide (m < k)))
  | 0, m, q => by simp [leave1]
  | k + 1, m, q => by
    have ih := leave1_there R p k
    unfold leave1
    dsimp only
    by_cases ht : ((leave1 p R k).2.sub k p).there = true
    · rw [if_pos ht]
      dsimp only
      rw [setSub_sub]
      by_cases h : m = k ∧ q = p
      · rw [if_pos h, h.1, h.2]; simp [noSub]
      · rw [if_neg h, ih]
        by_cases hq : q = p
        · have : m ≠ k := fun e => h ⟨e, hq⟩
          simp [hq]
          by_cases hm : m < k
          · simp [hm, Nat.lt_succ_of_lt hm]
          · have : ¬ m < k + 1 := by omega
            simp [hm, this]
        · simp [hq]
    · rw [if_neg ht, ih]
      by_cases hq : q = p
      · by_cases hm : m = k
        · subst hm; subst hq
          rw [ih] at ht
          simp at ht
          simp [ht]
        · simp [hq]
          by_cases hm2 : m < k
          · simp [hm2, Nat.lt_succ_of_lt hm2]
          · have : ¬ m < k + 1 := by omega
            simp [hm2, this]
      · simp [hq]
theorem leave2_names (R : Room) (p : Nat) : ∀ k, (leave2 R p k).2.names = R.names
  | 0 => rfl
  | k + 1 => by
    unfold leave2
    dsimp only
    split
    · dsimp only; rw [gone_names]; exact leave2_names R p k
    · exact leave2_names R p k
theorem leave2_src (R : Room) (p : Nat) : ∀ k m, (leave2 R p k).2.src m = if m < k ∧ (R.src m).there = true ∧ (R.src m).own = p then noSrc else R.src m
  | 0, m => by simp [leave2]
  | k + 1, m => by
    have ih := leave2_src R p k m
    unfold leave2
    dsimp only
    by_cases hc : ((R.src k).there && decide ((R.src k).own = p)) = true
    · rw [if_pos hc]
      dsimp only
      rw [gone_src]
      rw [Bool.and_eq_true, decide_eq_true_eq] at hc
      by_cases hm : m = k
      · subst hm; rw [if_pos rfl, if_pos ⟨by omega, hc.1, hc.2⟩]
      · rw [if_neg hm, ih]
        have : m < k + 1 ↔ m < k := by omega
        simp only [this]
    · rw [if_neg hc, ih]
      rw [Bool.and_eq_true, decide_eq_true_eq] at hc
      by_cases hm : m = k
      · subst hm
        rw [if_neg (by omega), if_neg (fun h => hc ⟨h.2.1, h.2.2⟩)]
      · have : m < k + 1 ↔ m < k := by omega
        simp only [this]
theorem leave2_there {R : Room} (hI : Inv R) (p : Nat) : ∀ k m q, ((leave2 R p k).2.sub m q).there = true ↔ (R.sub m q).there = true ∧ ¬ (m < k ∧ (R.src m).there = true ∧ (R.src m).own = p)
  | 0, m, q => by simp [leave2]
  | k + 1, m, q => by
    have ih := leave2_there hI p k m q
    unfold leave2
    dsimp only
    by_cases hc : ((R.src k).there && decide ((R.src k).own = p)) = true
    · rw [if_pos hc]
      dsimp only
      rw [gone_there (inv_leave2 hI p k), ih]
      rw [Bool.and_eq_true, decide_eq_true_eq] at hc
      by_cases hm : m = k
      · subst hm
        constructor
        · rintro ⟨h, _⟩; exact absurd rfl h
        · rintro ⟨_, h⟩; exact absurd ⟨by omega, hc⟩ h
      · have : m < k + 1 ↔ m < k := by omega
        rw [this]
        exact ⟨fun h => h.2, fun h => ⟨hm, h⟩⟩
    · rw [if_neg hc, ih]
      rw [Bool.and_eq_true, decide_eq_true_eq] at hc
      by_cases hm : m = k
      · subst hm
        constructor
        · rintro ⟨h, _⟩; exact ⟨h, fun e => hc e.2⟩
        · rintro ⟨h, _⟩; exact ⟨h, fun e => by omega⟩
      · have : m < k + 1 ↔ m < k := by omega
        rw [this]
theorem key_ne_nil {l : List UInt8} (h : may l = true) : key l ≠ [] := by
  intro e
  have h1 := (Lab.key_laws l h).1
  rw [e] at h1
  have : l = [] := List.eq_nil_of_length_eq_zero h1.symm
  subst this
  cases h
theorem inv_noname {R : Room} (hI : Inv R) (p : Nat) (hs : ∀ m, (R.src m).there = true → (R.src m).own ≠ p) (hu : ∀ m, (R.sub m p).there = false) : Inv (R.setName p []) := by
  refine ⟨⟨?_, hI.none0.2⟩, ?_, ?_, hI.apart, ?_, ?_⟩
  · rw [setName_names]; split
    · rfl
    · exact hI.none0.1
  · intro m q h
    have h0 := hI.subAt m q h
    have hq : q ≠ p := by
      rintro rfl
      have h2 := hu m
      have h3 : (R.sub m q).there = true := h
      rw [h2] at h3; cases h3
    rw [setName_names, if_neg hq]
    exact h0
  · intro m h
    obtain ⟨h1, h2, h3, h4, h5⟩ := hI.srcAt m h
    refine ⟨h1, h2, h3, ?_, h5⟩
    have ho := hs m h
    show joined (R.setName p []) (R.src m).own = true
    unfold joined at h4 ⊢
    rw [Bool.and_eq_true] at h4 ⊢
    refine ⟨h4.1, ?_⟩
    rw [setName_names, if_neg]
    · exact h4.2
    · intro e
      have := h4.1
      unfold inn at this
      simp at this
      omega
  · intro q h
    rw [setName_names] at h ⊢
    by_cases hq : q = p
    · rw [if_pos hq] at h; exact absurd rfl h
    · rw [if_neg hq] at h ⊢; exact hI.nameAt q h
  · intro q r h e
    rw [setName_names] at h e
    by_cases hq : q = p
    · rw [if_pos hq] at h; exact absurd rfl h
    rw [if_neg hq] at h e
    rw [setName_names] at e
    by_cases hr : r = p
    · rw [if_pos hr] at e
      exact absurd e (key_ne_nil (hI.nameAt q h).2)
    · rw [if_neg hr] at e
      exact hI.keys q r h e
theorem inv_leave {R : Room} (hI : Inv R) (p : Nat) : Inv (leave R p).2 := by
  have h1 := inv_leave1 hI p 9
  refine inv_noname (inv_leave2 h1 p 9) p ?_ ?_
  · intro m h
    rw [leave2_src] at h ⊢
    by_cases hc : m < 9 ∧ ((leave1 p R 9).2.src m).there = true ∧ ((leave1 p R 9).2.src m).own = p
    · rw [if_pos hc] at h; cases h
    · rw [if_neg hc] at h ⊢
      intro e
      exact hc ⟨(h1.srcAt m h).2.1, h, e⟩
  · intro m
    rw [Bool.eq_false_iff]
    intro h
    have h2 := ((leave2_there h1 p 9 m p).1 h).1
    have h3 := h1.subAt m p h2
    rw [leave1_there] at h2
    simp at h2
    omega
end Go.Proofs.Rm
