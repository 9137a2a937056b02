/- Several texts in one: Lists that are asked by a key: what is found, behind an addition, a removal, a change. No program in sight. The plain room: an operation that may be done keeps what holds of every room. The room and the reference's room say the same: what is asked. No program in sight. The room and the reference's room stay the same: one cell after another. No program in sight. The room and the reference's room stay the same: operations. No program in sight. -/
import Derived.Test.YthlamfoldfeocaaDoorP02
import Derived.Test.YthlamfoldfeocaaDoorP06
import Derived.Test.YthlamfoldfeocaaDoorP09
namespace Go.Proofs.Assoc
section
variable {α κ : Type} (key : α → κ)
def Uniq (l : List α) : Prop := (l.map key).Nodup
theorem uniq_cons {x : α} {l : List α} : Uniq key (x :: l) ↔ (∀ y ∈ l, key y ≠ key x) ∧ Uniq key l := by
  unfold Uniq
  rw [List.map_cons, List.nodup_cons]
  constructor
  · rintro ⟨h1, h2⟩
    exact ⟨fun y hy e => h1 (by rw [← e]; exact List.mem_map_of_mem hy), h2⟩
  · rintro ⟨h1, h2⟩
    refine ⟨fun h => ?_, h2⟩
    obtain ⟨y, hy, e⟩ := List.mem_map.1 h
    exact h1 y hy e
theorem erase_uniq {l : List α} (hu : Uniq key l) (i : Nat) : Uniq key (l.eraseIdx i) :=
  List.Nodup.sublist ((List.eraseIdx_sublist l i).map key) hu
theorem set_uniq {l : List α} (hu : Uniq key l) {i : Nat} (hi : i < l.length) {y : α} (hy : key y = key l[i]) : Uniq key (l.set i y) := by
  unfold Uniq at *
  have : (l.set i y).map key = l.map key := by
    rw [List.map_set, hy]
    have : key l[i] = (l.map key)[i]'(by simpa using hi) := by simp
    rw [this, List.set_getElem_self]
  rw [this]; exact hu
end
section
variable {α κ : Type} [DecidableEq κ] (key : α → κ)
def lk (l : List α) (k : κ) : Option α := l.find? fun x => decide (key x = k)
theorem lk_nil (k : κ) : lk key [] k = none := rfl
theorem lk_cons (x : α) (l : List α) (k : κ) : lk key (x :: l) k = if key x = k then some x else lk key l k := by
  unfold lk
  by_cases h : key x = k <;> simp [h]
theorem lk_append (l : List α) (x : α) (k : κ) : lk key (l ++ [x]) k = (lk key l k).or (if key x = k then some x else none) := by
  unfold lk
  rw [List.find?_append]
  by_cases h : key x = k <;> simp [h]
theorem lk_none {l : List α} {k : κ} : lk key l k = none ↔ ∀ x ∈ l, key x ≠ k := by
  unfold lk
  rw [List.find?_eq_none]
  simp
theorem lk_mem {l : List α} {k : κ} {x : α} (h : lk key l k = some x) : x ∈ l ∧ key x = k := by
  unfold lk at h
  have h1 := List.find?_some h
  exact ⟨List.mem_of_find?_eq_some h, by simpa using h1⟩
theorem lk_of_mem {l : List α} (hu : Uniq key l) {x : α} (hx : x ∈ l) : lk key l (key x) = some x := by
  induction l with
  | nil => cases hx
  | cons y l ih =>
    rw [lk_cons]
    obtain ⟨h1, h2⟩ := (uniq_cons key).1 hu
    rcases List.mem_cons.1 hx with rfl | hx
    · rw [if_pos rfl]
    · rw [if_neg (fun e => h1 x hx e.symm)]; exact ih h2 hx
theorem uniq_append {l : List α} {x : α} (hu : Uniq key l) (h : lk key l (key x) = none) : Uniq key (l ++ [x]) := by
  unfold Uniq at *
  rw [List.map_append, List.nodup_append]
  refine ⟨hu, by simp, ?_⟩
  intro a ha b hb e
  obtain ⟨y, hy, rfl⟩ := List.mem_map.1 ha
  simp at hb
  subst hb
  exact (lk_none key).1 h y hy e
/-- Where a key stands. -/
theorem find_none {l : List α} {k : κ} (h : lk key l k = none) : l.findIdx? (fun x => decide (key x = k)) = none := by
  rw [List.findIdx?_eq_none_iff]
  intro x hx
  simpa using (lk_none key).1 h x hx
theorem find_some {l : List α} {k : κ} {x : α} (h : lk key l k = some x) : ∃ (i : Nat) (hi : i < l.length), l.findIdx? (fun x => decide (key x = k)) = some i ∧ l[i] = x := by
  induction l with
  | nil => cases h
  | cons y l ih =>
    rw [lk_cons] at h
    by_cases e : key y = k
    · rw [if_pos e] at h
      cases h
      exact ⟨0, by simp, by simp [List.findIdx?_cons, e], rfl⟩
    · rw [if_neg e] at h
      obtain ⟨i, hi, h1, h2⟩ := ih h
      exact ⟨i + 1, by simpa using hi, by simp [List.findIdx?_cons, e, h1], by simpa using h2⟩
theorem lk_at {l : List α} (hu : Uniq key l) {i : Nat} (hi : i < l.length) : lk key l (key l[i]) = some l[i] := lk_of_mem key hu (List.getElem_mem hi)
theorem erase_lk : ∀ {l : List α}, Uniq key l → ∀ {i : Nat} (hi : i < l.length) (k : κ), lk key (l.eraseIdx i) k = if k = key l[i] then none else lk key l k
  | [], _, i, hi, _ => by simp at hi
  | x :: l, hu, 0, _, k => by
    obtain ⟨h1, h2⟩ := (uniq_cons key).1 hu
    simp only [List.eraseIdx_cons_zero, List.getElem_cons_zero]
    rw [lk_cons]
    by_cases e : k = key x
    · subst e; rw [if_pos rfl, lk_none]; exact h1
    · rw [if_neg e, if_neg (fun h => e h.symm)]
  | x :: l, hu, i + 1, hi, k => by
    obtain ⟨h1, h2⟩ := (uniq_cons key).1 hu
    simp only [List.eraseIdx_cons_succ, List.getElem_cons_succ]
    rw [lk_cons, lk_cons, erase_lk h2 (by simpa using hi) k]
    by_cases e : key x = k
    · subst e
      rw [if_pos rfl, if_pos rfl, if_neg]
      exact fun e => h1 _ (List.getElem_mem (by simpa using hi)) e.symm
    · rw [if_neg e, if_neg e]
theorem set_lk : ∀ {l : List α}, Uniq key l → ∀ {i : Nat} (hi : i < l.length) {y : α}, key y = key l[i] → ∀ k : κ, lk key (l.set i y) k = if k = key y then some y else lk key l k
  | [], _, i, hi, _, _, _ => by simp at hi
  | x :: l, hu, 0, _, y, hy, k => by
    simp only [List.set_cons_zero, List.getElem_cons_zero] at *
    rw [lk_cons, lk_cons, hy]
    by_cases e : key x = k
    · subst e; rw [if_pos rfl, if_pos rfl]
    · rw [if_neg e, if_neg (fun h => e h.symm), if_neg e]
  | x :: l, hu, i + 1, hi, y, hy, k => by
    obtain ⟨h1, h2⟩ := (uniq_cons key).1 hu
    simp only [List.set_cons_succ, List.getElem_cons_succ] at *
    rw [lk_cons, lk_cons, set_lk h2 (by simpa using hi) hy k]
    by_cases e : key x = k
    · subst e
      rw [if_pos rfl, if_pos rfl, if_neg]
      rw [hy]
      exact fun e => h1 _ (List.getElem_mem (by simpa using hi)) e.symm
    · rw [if_neg e, if_neg e]
end
end Go.Proofs.Assoc
namespace Go.Proofs.Rm
open Go.Proofs.Lab (may key)
structure Ok (R : Room) (o : Op) : Prop where
  kind : 2 ≤ o.kind ∧ o.kind ≤ 12
  peer : 1 ≤ o.peer ∧ o.peer < 9
  join : o.kind = 2 → joins R o = 0
  there : o.kind ≠ 2 → joined R o.peer = true
  src : 4 ≤ o.kind → 1 ≤ o.source ∧ o.source < 9
  pub : o.kind = 4 → publishes R o = 0
  is : 5 ≤ o.kind → (R.src o.source.toNat).there = true
  abt : 5 ≤ o.kind → about R o = 0
theorem inn_iff' (n k : Int) : inn n k = true ↔ 1 ≤ n ∧ n < k := by unfold inn; simp
theorem wrong_ok {R : Room} {o : Op} (h : wrong R o = 0) : Ok R o := by
  unfold wrong at h
  by_cases h1 : o.kind < 2 ∨ 12 < o.kind
  · rw [if_pos h1] at h; exact absurd h (by decide)
  rw [if_neg h1] at h
  by_cases h2 : inn o.peer 9 = true
  rotate_left
  · simp [h2] at h
  simp only [h2, Bool.not_true, Bool.false_eq_true, if_false] at h
  have hp := (inn_iff' _ _).1 h2
  by_cases h3 : o.kind = 2
  · rw [if_pos h3] at h
    exact ⟨by omega, hp, fun _ => h, fun e => absurd h3 e, by omega, by omega, by omega, by omega⟩
  rw [if_neg h3] at h
  by_cases h4 : joined R o.peer = true
  rotate_left
  · simp [h4] at h
  simp only [h4, Bool.not_true, Bool.false_eq_true, if_false] at h
  by_cases h5 : o.kind = 3
  · exact ⟨by omega, hp, by omega, fun _ => h4, by omega, by omega, by omega, by omega⟩
  rw [if_neg h5] at h
  by_cases h6 : inn o.source 9 = true
  rotate_left
  · simp [h6] at h
  simp only [h6, Bool.not_true, Bool.false_eq_true, if_false] at h
  have hs := (inn_iff' _ _).1 h6
  by_cases h7 : o.kind = 4
  · rw [if_pos h7] at h
    exact ⟨by omega, hp, by omega, fun _ => h4, fun _ => hs, fun _ => h, by omega, by omega⟩
  rw [if_neg h7] at h
  by_cases h8 : (R.src o.source.toNat).there = true
  rotate_left
  · simp [h8] at h
  simp only [h8, Bool.not_true, Bool.false_eq_true, if_false] at h
  exact ⟨by omega, hp, by omega, fun _ => h4, fun _ => hs, by omega, fun _ => h8, fun _ => h⟩
theorem layer_ok {R : Room} {o : Op} (h : layer R o = 0) : 0 ≤ o.layer ∧ o.layer < (R.src o.source.toNat).ss.length := by
  unfold layer at h
  by_cases h1 : o.layer < 0 ∨ ((R.src o.source.toNat).ss.length : Int) ≤ o.layer
  · rw [if_pos h1] at h; exact absurd h (by decide)
  · omega
theorem about_own {R : Room} {o : Op} (h : about R o = 0) (hk : o.kind = 5 ∨ o.kind = 8 ∨ o.kind = 9) : (R.src o.source.toNat).own = o.peer ∧ (o.kind = 8 → (R.src o.source.toNat).muted = false) ∧ (o.kind = 9 → (R.src o.source.toNat).muted = true) := by
  unfold about at h
  dsimp only at h
  rw [if_pos hk] at h
  by_cases h1 : (R.src o.source.toNat).own = o.peer
  rotate_left
  · rw [if_pos h1] at h; exact absurd h (by decide)
  rw [if_neg (by simpa using h1)] at h
  refine ⟨h1, ?_, ?_⟩
  · intro h8
    cases hm : (R.src o.source.toNat).muted
    · rfl
    · rw [if_pos ⟨h8, hm⟩] at h; exact absurd h (by decide)
  · intro h9
    rw [if_neg (by omega)] at h
    cases hm : (R.src o.source.toNat).muted
    · rw [if_pos ⟨h9, hm⟩] at h; exact absurd h (by decide)
    · rfl
theorem about_sub {R : Room} {o : Op} (h : about R o = 0) (hk : o.kind = 6) : (R.src o.source.toNat).own ≠ o.peer ∧ (R.sub o.source.toNat o.peer.toNat).there = false ∧ layer R o = 0 := by
  unfold about at h
  dsimp only at h
  rw [if_neg (by omega), if_pos hk] at h
  by_cases h1 : (R.src o.source.toNat).own = o.peer
  · rw [if_pos h1] at h; exact absurd h (by decide)
  rw [if_neg h1] at h
  cases ht : (R.sub o.source.toNat o.peer.toNat).there
  · rw [ht] at h; exact ⟨h1, rfl, h⟩
  · rw [ht] at h; simp at h
theorem about_hear {R : Room} {o : Op} (h : about R o = 0) (hk : o.kind = 7 ∨ 10 ≤ o.kind) :
    (R.sub o.source.toNat o.peer.toNat).there = true ∧ (o.kind = 10 → (R.sub o.source.toNat o.peer.toNat).paused = false) ∧ (o.kind = 11 → (R.sub o.source.toNat o.peer.toNat).paused = true) ∧ (o.kind = 12 → layer R o = 0 ∧ (R.sub o.source.toNat o.peer.toNat).want ≠ o.layer) := by
  unfold about at h
  dsimp only at h
  rw [if_neg (by omega), if_neg (by omega)] at h
  unfold heard at h
  dsimp only at h
  cases ht : (R.sub o.source.toNat o.peer.toNat).there
  · rw [ht] at h; simp at h
  rw [ht] at h
  simp only [Bool.not_true, Bool.false_eq_true, if_false] at h
  refine ⟨rfl, ?_, ?_, ?_⟩
  · intro h10
    cases hm : (R.sub o.source.toNat o.peer.toNat).paused
    · rfl
    · rw [if_pos ⟨h10, hm⟩] at h; exact absurd h (by decide)
  · intro h11
    rw [if_neg (by omega)] at h
    cases hm : (R.sub o.source.toNat o.peer.toNat).paused
    · rw [if_pos ⟨h11, hm⟩] at h; exact absurd h (by decide)
    · rfl
  · intro h12
    rw [if_neg (by omega), if_neg (by omega), if_neg (by omega)] at h
    by_cases hl : layer R o = 0
    · rw [if_neg (by omega)] at h
      refine ⟨hl, fun e => ?_⟩
      rw [if_pos e] at h; exact absurd h (by decide)
    · rw [if_pos hl] at h; exact absurd h hl
theorem index_mem (l : List Int) (x : Int) : 0 ≤ index l x ↔ x ∈ l := by
  unfold index
  cases h : l.findIdx? (fun y => y == x) with
  | none =>
    have := List.findIdx?_eq_none_iff.1 h
    constructor
    · intro h; exact absurd h (by decide)
    · intro hx; have := this x hx; simp at this
  | some i =>
    obtain ⟨hi, h1, _⟩ := List.findIdx?_eq_some_iff_getElem.1 h
    have h1 : l[i] = x := by simpa using h1
    exact ⟨fun _ => by rw [← h1]; exact List.getElem_mem hi, fun _ => Int.natCast_nonneg _⟩
theorem ofGo_none (R : Room) (x : Int) : ∀ k n, (ofGo R x k n).2.2 = false ↔ ∀ m, n ≤ m → m < n + k → (R.src m).there = true → x ∉ (R.src m).ss
  | 0, n => by simp [ofGo]; omega
  | k + 1, n => by
    unfold ofGo
    by_cases hc : ((R.src n).there && decide (0 ≤ index (R.src n).ss x)) = true
    · rw [if_pos hc]
      rw [Bool.and_eq_true, decide_eq_true_eq, index_mem] at hc
      constructor
      · intro h; cases h
      · intro h; exact absurd hc.2 (h n (Nat.le_refl _) (by omega) hc.1)
    · rw [if_neg hc, ofGo_none R x k (n + 1)]
      rw [Bool.and_eq_true, decide_eq_true_eq, index_mem] at hc
      constructor
      · intro h m h1 h2 h3 h4
        by_cases e : m = n
        · subst e; exact hc ⟨h3, h4⟩
        · exact h m (by omega) (by omega) h3 h4
      · intro h m h1 h2; exact h m (by omega) (by omega)
theorem of_none {R : Room} {x : Int} : (of R x).2.2 = false ↔ ∀ m, m < 9 → (R.src m).there = true → x ∉ (R.src m).ss := by
  unfold of
  rw [ofGo_none]
  exact ⟨fun h m hm => h m (Nat.zero_le _) (by omega), fun h m _ hm => h m (by omega)⟩
theorem ofGo_some (R : Room) (x : Int) : ∀ k n, (ofGo R x k n).2.2 = true → ∃ m : Nat, n ≤ m ∧ m < n + k ∧ (R.src m).there = true ∧ x ∈ (R.src m).ss ∧ ofGo R x k n = ((m : Int), index (R.src m).ss x, true)
  | 0, n, h => by simp [ofGo] at h
  | k + 1, n, h => by
    unfold ofGo at h ⊢
    by_cases hc : ((R.src n).there && decide (0 ≤ index (R.src n).ss x)) = true
    · rw [if_pos hc] at h ⊢
      rw [Bool.and_eq_true, decide_eq_true_eq, index_mem] at hc
      exact ⟨n, Nat.le_refl _, by omega, hc.1, hc.2, rfl⟩
    · rw [if_neg hc] at h ⊢
      obtain ⟨m, h1, h2, h3⟩ := ofGo_some R x k (n + 1) h
      exact ⟨m, by omega, by omega, h3⟩
theorem of_some {R : Room} {x : Int} (h : (of R x).2.2 = true) : ∃ m : Nat, m < 9 ∧ (R.src m).there = true ∧ x ∈ (R.src m).ss ∧ of R x = ((m : Int), index (R.src m).ss x, true) := by
  obtain ⟨m, _, h2, h3⟩ := ofGo_some R x 9 0 h
  exact ⟨m, by omega, h3⟩
theorem nodup_of_twice (l : List Int) (h : ∀ i, i < l.length → (l.take i).contains (l.getD i 0) = false) : l.Nodup := by
  unfold List.Nodup
  rw [List.pairwise_iff_getElem]
  intro i j hi hj hij e
  have := h j hj
  rw [List.getD_eq_getElem?_getD, List.getElem?_eq_getElem hj, Option.getD_some] at this
  rw [← e] at this
  have hm : l[i] ∈ l.take j := by
    rw [List.mem_iff_getElem]
    exact ⟨i, by rw [List.length_take]; omega, by rw [List.getElem_take]⟩
  rw [List.contains_iff_mem.2 hm] at this
  cases this
theorem pub_ok {R : Room} {o : Op} (h : publishes R o = 0) : 1 ≤ o.ssrcs.length ∧ o.ssrcs.length ≤ 3 ∧ (∀ s ∈ o.ssrcs, 2 ≤ s ∧ s < 3221225472) ∧ (R.src o.source.toNat).there = false ∧ o.ssrcs.Nodup ∧ ∀ m x, m < 9 → (R.src m).there = true → x ∈ o.ssrcs → x ∉ (R.src m).ss := by
  unfold publishes at h
  by_cases h1 : o.ssrcs.length < 1 ∨ 3 < o.ssrcs.length
  · rw [if_pos h1] at h; exact absurd h (by decide)
  rw [if_neg h1] at h
  by_cases h2 : o.ssrcs.any (fun s => decide (s < 2) || decide (3221225472 ≤ s)) = true
  · rw [if_pos h2] at h; exact absurd h (by decide)
  rw [if_neg h2] at h
  by_cases h3 : (R.src o.source.toNat).there = true
  · rw [if_pos h3] at h; exact absurd h (by decide)
  rw [if_neg h3] at h
  by_cases h4 : (List.range o.ssrcs.length).any (twice R o.ssrcs) = true
  · rw [if_pos h4] at h; exact absurd h (by decide)
  have h5 : ∀ i, i < o.ssrcs.length → (of R (o.ssrcs.getD i 0)).2.2 = false ∧ (o.ssrcs.take i).contains (o.ssrcs.getD i 0) = false := by
    intro i hi
    have : ¬ twice R o.ssrcs i = true := fun e => h4 (List.any_eq_true.2 ⟨i, by simpa using hi, e⟩)
    unfold twice at this
    rw [Bool.or_eq_true] at this
    exact ⟨Bool.eq_false_iff.2 fun e => this (Or.inl e), Bool.eq_false_iff.2 fun e => this (Or.inr e)⟩
  refine ⟨by omega, by omega, ?_, by simpa using h3, nodup_of_twice _ fun i hi => (h5 i hi).2, ?_⟩
  · intro s hs
    have : ¬ (decide (s < 2) || decide (3221225472 ≤ s)) = true := fun e => h2 (List.any_eq_true.2 ⟨s, hs, e⟩)
    simp at this; omega
  · intro m x hm ht hx
    obtain ⟨i, hi, rfl⟩ := List.getElem_of_mem hx
    have := (h5 i hi).1
    rw [List.getD_eq_getElem?_getD, List.getElem?_eq_getElem hi, Option.getD_some, of_none] at this
    exact this m hm ht
theorem join_ok {R : Room} {o : Op} (h : joins R o = 0) : joined R o.peer = false ∧ may o.name = true ∧ ∀ q, q < 9 → R.names q ≠ [] → key (R.names q) ≠ key o.name := by
  unfold joins at h
  cases h1 : joined R o.peer
  rotate_left
  · rw [h1] at h; simp at h
  rw [h1] at h
  cases h2 : may o.name
  · rw [h2] at h; simp at h
  rw [h2] at h
  simp only [Bool.false_eq_true, if_false, Bool.not_true] at h
  by_cases h3 : (List.range 9).any (sameKey R o) = true
  · rw [if_pos h3] at h; exact absurd h (by decide)
  refine ⟨rfl, rfl, fun q hq hn e => h3 (List.any_eq_true.2 ⟨q, by simpa using hq, ?_⟩)⟩
  unfold sameKey
  simp [hn, e]
theorem may_ne {l : List UInt8} (h : may l = true) : l ≠ [] := by rintro rfl; cases h
theorem inv_empty : Inv empty := by
  refine ⟨⟨rfl, rfl⟩, ?_, ?_, ?_, ?_, ?_⟩
  · intro n p h; cases h
  · intro n h; cases h
  · intro n m x h; cases h
  · intro p h; exact absurd rfl h
  · intro p q h; exact absurd rfl h
theorem inv_join {R : Room} (hI : Inv R) {p : Nat} {nm : List UInt8} (hp : 1 ≤ p ∧ p < 9) (h0 : R.names p = []) (hm : may nm = true) (hk : ∀ q, q < 9 → R.names q ≠ [] → key (R.names q) ≠ key nm) : Inv (R.setName p nm) := by
  have hjoin : ∀ q, joined R q = true → joined (R.setName p nm) q = true := by
    intro q h
    unfold joined at h ⊢
    rw [Bool.and_eq_true] at h ⊢
    refine ⟨h.1, ?_⟩
    rw [setName_names]
    split
    · have := may_ne hm
      simp [this]
    · exact h.2
  refine ⟨⟨?_, hI.none0.2⟩, ?_, ?_, hI.apart, ?_, ?_⟩
  · rw [setName_names, if_neg (by omega)]; exact hI.none0.1
  · intro n q h
    have := hI.subAt n q h
    have hq : q ≠ p := by rintro rfl; exact this.2.2.2.2.2.1 h0
    rw [setName_names, if_neg hq]
    exact this
  · intro n h
    obtain ⟨h1, h2, h3, h4, h5⟩ := hI.srcAt n h
    exact ⟨h1, h2, h3, hjoin _ h4, h5⟩
  · intro q h
    rw [setName_names] at h ⊢
    by_cases hq : q = p
    · rw [if_pos hq]; exact ⟨by omega, hm⟩
    · rw [if_neg hq] at h ⊢; exact hI.nameAt q h
  · intro q r h e
    rw [setName_names] at h
    rw [setName_names, setName_names] at e
    by_cases hq : q = p
    · rw [if_pos hq] at e
      by_cases hr : r = p
      · omega
      · rw [if_neg hr] at e
        by_cases hn : R.names r = []
        · rw [hn] at e; exact absurd e (key_ne_nil hm)
        · exact absurd e.symm (hk r (hI.nameAt r hn).1 hn)
    · rw [if_neg hq] at h e
      by_cases hr : r = p
      · rw [if_pos hr] at e
        exact absurd e (hk q (hI.nameAt q h).1 h)
      · rw [if_neg hr] at e; exact hI.keys q r h e
theorem inv_publish {R : Room} (hI : Inv R) {n p : Nat} {sv : Value} {ss : List Int} (hn : 1 ≤ n ∧ n < 9) (hp : joined R p = true) (h0 : (R.src n).there = false) (h1 : 1 ≤ ss.length) (h3 : ss.length ≤ 3) (hr : ∀ s ∈ ss, 2 ≤ s ∧ s < 3221225472) (hd : ss.Nodup) (hx : ∀ m x, m < 9 → (R.src m).there = true → x ∈ ss → x ∉ (R.src m).ss) :
    Inv (R.setSrc n ⟨true, n, p, sv, ss, false⟩) := by
  refine ⟨⟨hI.none0.1, ?_⟩, ?_, ?_, ?_, hI.nameAt, hI.keys⟩
  · rw [setSrc_src, if_neg (by omega)]; exact hI.none0.2
  · intro m q h
    have := hI.subAt m q h
    have hm : m ≠ n := by rintro rfl; rw [h0] at this; exact absurd this.2.2.2.2.1 (by decide)
    rw [setSrc_src, if_neg hm]
    exact this
  · intro m h
    rw [setSrc_src] at h ⊢
    by_cases hm : m = n
    · rw [if_pos hm]
      exact ⟨by omega, by omega, by rw [hm], hp, h1, h3, hd, hr⟩
    · rw [if_neg hm] at h ⊢; exact hI.srcAt m h
  · intro m k x a b c d
    rw [setSrc_src] at a b c d
    by_cases hm : m = n
    · by_cases hk : k = n
      · omega
      · rw [if_neg hk] at b d; rw [if_pos hm] at c
        exact absurd d (hx k x (hI.srcAt k b).2.1 b c)
    · rw [if_neg hm] at a c
      by_cases hk : k = n
      · rw [if_pos hk] at d
        exact absurd c (hx m x (hI.srcAt m a).2.1 a d)
      · rw [if_neg hk] at b d; exact hI.apart m k x a b c d
theorem inv_sub {R : Room} (hI : Inv R) {n p : Nat} {x : Sub} (h : x.there = true → 1 ≤ n ∧ n < 9 ∧ 1 ≤ p ∧ p < 9 ∧ (R.src n).there = true ∧ R.names p ≠ [] ∧ (R.src n).own ≠ p ∧ 0 ≤ x.want ∧ x.want < (R.src n).ss.length) : Inv (R.setSub n p x) := by
  refine ⟨hI.none0, ?_, hI.srcAt, hI.apart, hI.nameAt, hI.keys⟩
  intro m q ht
  rw [setSub_sub] at ht ⊢
  by_cases h1 : m = n ∧ q = p
  · rw [if_pos h1] at ht ⊢
    rw [h1.1, h1.2]
    exact h ht
  · rw [if_neg h1] at ht ⊢; exact hI.subAt m q ht
theorem inv_muted {R : Room} (hI : Inv R) (n : Nat) (on : Bool) : Inv (R.setSrc n { R.src n with muted := on }) := by
  have key : ∀ m, ((R.setSrc n { R.src n with muted := on }).src m).there = (R.src m).there ∧ ((R.setSrc n { R.src n with muted := on }).src m).ss = (R.src m).ss ∧ ((R.setSrc n { R.src n with muted := on }).src m).own = (R.src m).own ∧ ((R.setSrc n { R.src n with muted := on }).src m).num = (R.src m).num := by
    intro m
    rw [setSrc_src]
    split
    · rename_i h; subst h; exact ⟨rfl, rfl, rfl, rfl⟩
    · exact ⟨rfl, rfl, rfl, rfl⟩
  refine ⟨⟨hI.none0.1, ?_⟩, ?_, ?_, ?_, hI.nameAt, hI.keys⟩
  · rw [(key 0).1]; exact hI.none0.2
  · intro m q h
    rw [(key m).1, (key m).2.1, (key m).2.2.1]
    exact hI.subAt m q h
  · intro m h
    rw [(key m).1] at h
    rw [(key m).2.1, (key m).2.2.1, (key m).2.2.2]
    exact hI.srcAt m h
  · intro m k x a b c d
    rw [(key m).1] at a; rw [(key k).1] at b; rw [(key m).2.1] at c; rw [(key k).2.1] at d
    exact hI.apart m k x a b c d
set_option maxHeartbeats 1000000 in
theorem inv_turns {R : Room} {o : Op} (hI : Inv R) (ok : Ok R o) (sv : Value) : Inv (turns R o sv).2 := by
  obtain ⟨kd, p, n, q, nm, ss⟩ := o
  obtain ⟨hk, hp, hj, ht, hs, hpub, his, habt⟩ := ok
  dsimp only at *
  obtain ⟨p, rfl⟩ := Int.eq_ofNat_of_zero_le (show 0 ≤ p by omega)
  by_cases k2 : kd = 2
  · subst k2
    obtain ⟨h1, h2, h3⟩ := join_ok (hj rfl)
    show Inv (R.setName p nm)
    refine inv_join hI (p := p) (by omega) ?_ h2 h3
    rw [Bool.eq_false_iff, ne_eq, joined_nat] at h1
    exact Classical.not_not.1 fun e => h1 ⟨by omega, by omega, e⟩
  have hjp := joined_nat.1 (ht k2)
  by_cases k3 : kd = 3
  · subst k3; show Inv (leave R p).2; exact inv_leave hI p
  obtain ⟨n, rfl⟩ := Int.eq_ofNat_of_zero_le (show 0 ≤ n by have := hs (by omega); omega)
  have hn := hs (by omega)
  by_cases k4 : kd = 4
  · subst k4
    obtain ⟨h1, h2, h3, h4, h5, h6⟩ := pub_ok (hpub rfl)
    show Inv (R.setSrc n ⟨true, n, p, sv, ss, false⟩)
    exact inv_publish hI (by omega) (ht k2) h4 h1 h2 h3 h5 h6
  have his := his (by omega)
  have his' : (R.src n).there = true := by rw [Int.toNat_natCast] at his; exact his
  have habt := habt (by omega)
  have hbase : (R.sub n p).there = true → 1 ≤ n ∧ n < 9 ∧ 1 ≤ p ∧ p < 9 ∧ (R.src n).there = true ∧ R.names p ≠ [] ∧ (R.src n).own ≠ p ∧ 0 ≤ (R.sub n p).want ∧ (R.sub n p).want < (R.src n).ss.length := hI.subAt n p
  by_cases k5 : kd = 5
  · subst k5; show Inv (gone R n).2; exact inv_gone hI n
  by_cases k6 : kd = 6
  · subst k6
    obtain ⟨h1, h2, h3⟩ := about_sub habt rfl
    have h4 := layer_ok h3
    show Inv (R.setSub n p ⟨true, false, q⟩)
    exact inv_sub hI fun _ => ⟨by omega, by omega, by omega, by omega, his', hjp.2.2, h1, h4.1, h4.2⟩
  by_cases k7 : kd = 7
  · subst k7; show Inv (R.setSub n p noSub); exact inv_end hI n p
  by_cases k8 : kd = 8
  · subst k8; show Inv (R.setSrc n { R.src n with muted := true }); exact inv_muted hI n true
  by_cases k9 : kd = 9
  · subst k9; show Inv (R.setSrc n { R.src n with muted := false }); exact inv_muted hI n false
  obtain ⟨h1, _, _, h4⟩ := about_hear habt (by right; show 10 ≤ kd; omega)
  have hb := hbase h1
  by_cases k10 : kd = 10
  · subst k10; show Inv (R.setSub n p { R.sub n p with paused := true }); exact inv_sub hI fun _ => hb
  by_cases k11 : kd = 11
  · subst k11; show Inv (R.setSub n p { R.sub n p with paused := false }); exact inv_sub hI fun _ => hb
  have k12 : kd = 12 := by omega
  subst k12
  have h5 := layer_ok (h4 rfl).1
  show Inv (R.setSub n p { R.sub n p with want := q })
  exact inv_sub hI fun _ => ⟨hb.1, hb.2.1, hb.2.2.1, hb.2.2.2.1, hb.2.2.2.2.1, hb.2.2.2.2.2.1, hb.2.2.2.2.2.2.1, h5.1, h5.2⟩
theorem inv_doo {R : Room} (hI : Inv R) (o : Op) (sv : Value) : Inv (doo R o sv).1.2 := by
  unfold doo
  by_cases h : wrong R o = 0
  · rw [if_neg (by simpa using h)]; exact inv_turns hI (wrong_ok h) sv
  · rw [if_pos h]; exact hI
theorem inv_goneOp {R : Room} (hI : Inv R) (p x : Int) : Inv (goneOp R p x).1.2 := by
  unfold goneOp
  split
  · exact hI
  · exact inv_gone hI _
end Go.Proofs.Rm
namespace Go.Proofs.Rm
open Go.Proofs.Lab (may key)
open Go.Proofs.Assoc
def uk (x : TSub) : Int × Int := (x.peer, x.source)
def hasI (R : Room) (n : Int) : Bool := inn n 9 && (R.src n.toNat).there
def peerOf (R : Room) (p : Int) : TPeer := ⟨p, R.names p.toNat⟩
def srcOf (R : Room) (n : Int) : TSrc := ⟨n, (R.src n.toNat).own, (R.src n.toNat).ss, (R.src n.toNat).muted⟩
def subOf (R : Room) (p n : Int) : TSub := ⟨p, n, (R.sub n.toNat p.toNat).want, (R.sub n.toNat p.toNat).paused⟩
structure Sim (T : Tab) (R : Room) : Prop where
  up : Uniq TPeer.num T.peers
  us : Uniq TSrc.num T.srcs
  uu : Uniq uk T.subs
  pe : ∀ p, lk TPeer.num T.peers p = if joined R p then some (peerOf R p) else none
  sr : ∀ n, lk TSrc.num T.srcs n = if hasI R n then some (srcOf R n) else none
  su : ∀ p n, lk uk T.subs (p, n) = if hears R p n then some (subOf R p n) else none
theorem peerAt_fun (n : Int) : (fun x : TPeer => x.num == n) = fun x => decide (TPeer.num x = n) := by funext x; rw [Bool.eq_iff_iff]; simp
theorem srcAt_fun (n : Int) : (fun x : TSrc => x.num == n) = fun x => decide (TSrc.num x = n) := by funext x; rw [Bool.eq_iff_iff]; simp
theorem subAt_fun (p n : Int) : (fun x : TSub => x.peer == p && x.source == n) = fun x => decide (uk x = (p, n)) := by
  funext x
  rw [Bool.eq_iff_iff]
  simp [uk]
section
variable {T : Tab} {R : Room} (h : Sim T R)
include h
theorem Sim.peer_yes {p : Int} (hj : joined R p = true) : ∃ (i : Nat) (hi : i < T.peers.length), T.peerAt p = i ∧ T.peers[i] = peerOf R p := by
  have := h.pe p
  rw [hj, if_pos rfl] at this
  obtain ⟨i, hi, h1, h2⟩ := find_some _ this
  exact ⟨i, hi, by unfold Tab.peerAt findAt; rw [peerAt_fun, h1], h2⟩
theorem Sim.peer_no {p : Int} (hj : joined R p = false) : T.peerAt p = -1 := by
  have := h.pe p
  rw [hj, if_neg (by decide)] at this
  unfold Tab.peerAt findAt; rw [peerAt_fun, find_none _ this]
theorem Sim.src_yes {n : Int} (hj : hasI R n = true) : ∃ (i : Nat) (hi : i < T.srcs.length), T.srcAt n = i ∧ T.srcs[i] = srcOf R n := by
  have := h.sr n
  rw [hj, if_pos rfl] at this
  obtain ⟨i, hi, h1, h2⟩ := find_some _ this
  exact ⟨i, hi, by unfold Tab.srcAt findAt; rw [srcAt_fun, h1], h2⟩
theorem Sim.src_no {n : Int} (hj : hasI R n = false) : T.srcAt n = -1 := by
  have := h.sr n
  rw [hj, if_neg (by decide)] at this
  unfold Tab.srcAt findAt; rw [srcAt_fun, find_none _ this]
theorem Sim.sub_yes {p n : Int} (hj : hears R p n = true) : ∃ (i : Nat) (hi : i < T.subs.length), T.subAt p n = i ∧ T.subs[i] = subOf R p n := by
  have := h.su p n
  rw [hj, if_pos rfl] at this
  obtain ⟨i, hi, h1, h2⟩ := find_some _ this
  exact ⟨i, hi, by unfold Tab.subAt findAt; rw [subAt_fun, h1], h2⟩
theorem Sim.sub_no {p n : Int} (hj : hears R p n = false) : T.subAt p n = -1 := by
  have := h.su p n
  rw [hj, if_neg (by decide)] at this
  unfold Tab.subAt findAt; rw [subAt_fun, find_none _ this]
theorem Sim.peerAt (p : Int) : 0 ≤ T.peerAt p ↔ joined R p = true := by
  cases hj : joined R p
  · rw [h.peer_no hj]; simp
  · obtain ⟨i, _, hi, _⟩ := h.peer_yes hj; rw [hi]; simp
theorem Sim.srcAt (n : Int) : 0 ≤ T.srcAt n ↔ hasI R n = true := by
  cases hj : hasI R n
  · rw [h.src_no hj]; simp
  · obtain ⟨i, _, hi, _⟩ := h.src_yes hj; rw [hi]; simp
theorem Sim.subAt (p n : Int) : 0 ≤ T.subAt p n ↔ hears R p n = true := by
  cases hj : hears R p n
  · rw [h.sub_no hj]; simp
  · obtain ⟨i, _, hi, _⟩ := h.sub_yes hj; rw [hi]; simp
theorem Sim.srcD {n : Int} (hj : hasI R n = true) : T.srcD n = srcOf R n := by
  obtain ⟨i, hi, h1, h2⟩ := h.src_yes hj
  unfold Tab.srcD; rw [h1, Int.toNat_natCast, List.getD_eq_getElem?_getD, List.getElem?_eq_getElem hi, h2]; rfl
theorem Sim.subD {p n : Int} (hj : hears R p n = true) : T.subD p n = subOf R p n := by
  obtain ⟨i, hi, h1, h2⟩ := h.sub_yes hj
  unfold Tab.subD; rw [h1, Int.toNat_natCast, List.getD_eq_getElem?_getD, List.getElem?_eq_getElem hi, h2]; rfl
theorem Sim.owner (n : Int) : T.owner n = if hasI R n then (R.src n.toNat).own else 0 := by
  unfold Tab.owner
  cases hj : hasI R n
  · rw [h.src_no hj]; simp
  · have := (h.srcAt n).2 hj
    rw [if_neg (by omega), h.srcD hj]; simp [srcOf]
theorem Sim.hears_eq (n : Int) : T.hears n = subs R n := by
  unfold Tab.hears Tab.hearsTo subs
  have e : (List.range 9) = 0 :: (List.range 8).map (· + 1) := by decide
  rw [e, List.filter_cons, if_neg (by unfold hears inn; simp)]
  apply List.filter_congr
  intro p _
  rw [Bool.eq_iff_iff, decide_eq_true_iff]
  exact h.subAt p n
theorem Sim.mem_src {x : TSrc} : x ∈ T.srcs ↔ ∃ n, hasI R n = true ∧ x = srcOf R n := by
  constructor
  · intro hx
    have h1 := lk_of_mem TSrc.num h.us hx
    rw [h.sr] at h1
    cases hj : hasI R x.num
    · rw [hj] at h1; simp at h1
    · rw [hj] at h1; simp at h1; exact ⟨_, hj, h1.symm⟩
  · rintro ⟨n, hn, rfl⟩
    obtain ⟨i, hi, _, h2⟩ := h.src_yes hn
    rw [← h2]; exact List.getElem_mem hi
theorem Sim.mem_peer {x : TPeer} : x ∈ T.peers ↔ ∃ n, joined R n = true ∧ x = peerOf R n := by
  constructor
  · intro hx
    have h1 := lk_of_mem TPeer.num h.up hx
    rw [h.pe] at h1
    cases hj : joined R x.num
    · rw [hj] at h1; simp at h1
    · rw [hj] at h1; simp at h1; exact ⟨_, hj, h1.symm⟩
  · rintro ⟨n, hn, rfl⟩
    obtain ⟨i, hi, _, h2⟩ := h.peer_yes hn
    rw [← h2]; exact List.getElem_mem hi
theorem Sim.mem_sub {x : TSub} : x ∈ T.subs ↔ hears R x.peer x.source = true ∧ x = subOf R x.peer x.source := by
  constructor
  · intro hx
    have h1 := lk_of_mem uk h.uu hx
    unfold uk at h1
    rw [show (fun x : TSub => (x.peer, x.source)) = uk from rfl] at h1
    rw [h.su] at h1
    cases hj : hears R x.peer x.source
    · rw [hj] at h1; simp at h1
    · rw [hj] at h1; simp at h1; exact ⟨rfl, h1.symm⟩
  · rintro ⟨hn, hx⟩
    obtain ⟨i, hi, _, h2⟩ := h.sub_yes hn
    rw [hx, ← h2]; exact List.getElem_mem hi
end
theorem hasI_iff {R : Room} {n : Int} : hasI R n = true ↔ 1 ≤ n ∧ n < 9 ∧ (R.src n.toNat).there = true := by
  unfold hasI; rw [Bool.and_eq_true, inn_iff']; constructor
  · rintro ⟨⟨a, b⟩, c⟩; exact ⟨a, b, c⟩
  · rintro ⟨a, b, c⟩; exact ⟨⟨a, b⟩, c⟩
theorem hears_iff {R : Room} {p n : Int} : hears R p n = true ↔ 1 ≤ p ∧ p < 9 ∧ 1 ≤ n ∧ n < 9 ∧ (R.sub n.toNat p.toNat).there = true := by
  unfold hears; rw [Bool.and_eq_true, Bool.and_eq_true, inn_iff', inn_iff']; constructor
  · rintro ⟨⟨⟨a, b⟩, c, d⟩, e⟩; exact ⟨a, b, c, d, e⟩
  · rintro ⟨a, b, c, d, e⟩; exact ⟨⟨⟨a, b⟩, c, d⟩, e⟩
theorem joined_iff {R : Room} {p : Int} : joined R p = true ↔ 1 ≤ p ∧ p < 9 ∧ R.names p.toNat ≠ [] := by
  unfold joined; rw [Bool.and_eq_true, inn_iff']
  constructor
  · rintro ⟨⟨a, b⟩, c⟩; exact ⟨a, b, by intro e; rw [e] at c; cases c⟩
  · rintro ⟨a, b, c⟩; exact ⟨⟨a, b⟩, by cases e : R.names p.toNat with | nil => exact absurd e c | cons _ _ => rfl⟩
/-- Of an SSRC. -/
theorem Sim.of_eq {T : Tab} {R : Room} (h : Sim T R) (hI : Inv R) (x : Int) : T.of x = of R x := by
  cases ho : (of R x).2.2
  · have hn := of_none.1 ho
    have h1 : T.hasAt x = -1 := by
      unfold Tab.hasAt
      apply findAt_miss
      intro j hj
      obtain ⟨n, hn1, hn2⟩ := h.mem_src.1 (List.getElem_mem hj)
      rw [hn2, Bool.eq_false_iff, ne_eq, List.contains_iff_mem]
      obtain ⟨a, b, c⟩ := hasI_iff.1 hn1
      exact hn n.toNat (by omega) c
    have h2 : of R x = (0, 0, false) := by
      have : ∀ k n, (ofGo R x k n).2.2 = false → ofGo R x k n = (0, 0, false) := by
        intro k
        induction k with
        | zero => intro n _; rfl
        | succ k ih =>
          intro n hh
          unfold ofGo at hh ⊢
          split at hh
          · cases hh
          · rename_i hc; rw [if_neg hc]; exact ih _ hh
      exact this 9 0 ho
    unfold Tab.of
    rw [h1, if_pos (by decide), h2]
  · obtain ⟨m, hm, ht, hx, he⟩ := of_some ho
    obtain ⟨hm1, _⟩ := hI.srcAt m ht
    have hs : hasI R (m : Int) = true := hasI_iff.2 ⟨by omega, by omega, by rw [Int.toNat_natCast]; exact ht⟩
    obtain ⟨i, hi, h1, h2⟩ := h.src_yes hs
    have hge : 0 ≤ T.hasAt x := by
      unfold Tab.hasAt; rw [findAt_iff]
      exact ⟨T.srcs[i], List.getElem_mem hi, by rw [h2, List.contains_iff_mem]; unfold srcOf; rw [Int.toNat_natCast]; exact hx⟩
    obtain ⟨k, hk, hke, hp, _⟩ := findAt_at hge
    have hke : T.hasAt x = k := hke
    obtain ⟨n, hn1, hn2⟩ := h.mem_src.1 (List.getElem_mem hk)
    rw [hn2, List.contains_iff_mem] at hp
    obtain ⟨a, b, c⟩ := hasI_iff.1 hn1
    have hnm := hI.apart n.toNat m x c ht hp hx
    have hnm : n = (m : Int) := by omega
    unfold Tab.of
    rw [if_neg (by omega), hke, Int.toNat_natCast, List.getD_eq_getElem?_getD, List.getElem?_eq_getElem hk, Option.getD_some, hn2, hnm, he]
    unfold srcOf; rw [Int.toNat_natCast]
theorem Sim.twice_eq {T : Tab} {R : Room} (h : Sim T R) (hI : Inv R) (l : List Int) : T.twice l = twice R l := by
  funext i
  unfold Tab.twice twice
  rw [h.of_eq hI, Bool.or_comm]
theorem layerOk_eq (s : TSrc) (q : Int) : layerOk s q = true ↔ 0 ≤ q ∧ q < s.ss.length := by unfold layerOk; simp
/-- The same error. -/
theorem Sim.wrong_eq {T : Tab} {R : Room} (h : Sim T R) (hI : Inv R) (o : Op) : T.wrong o = wrong R o := by
  unfold Tab.wrong wrong
  by_cases k1 : o.kind < 2 ∨ 12 < o.kind
  · rw [if_pos k1, if_pos k1]
  rw [if_neg k1, if_neg k1]
  by_cases p1 : o.peer < 1 ∨ 8 < o.peer
  · rw [if_pos p1, if_pos (show ((!inn o.peer 9) = true) by unfold inn; simp; omega)]
  have hp : inn o.peer 9 = true := (inn_iff' _ _).2 (by omega)
  rw [if_neg p1, if_neg (show ¬ ((!inn o.peer 9) = true) by rw [hp]; simp)]
  by_cases k2 : o.kind = 2
  · rw [if_pos k2, if_pos k2]
    unfold joins
    cases hj : joined R o.peer
    · rw [h.peer_no hj, if_neg (show ¬ (0 : Int) ≤ -1 by decide), if_neg (show ¬ (false = true) by decide)]
      by_cases hm : may o.name = true
      · have e : (T.peers.any fun x => decide (key x.name = key o.name)) = (List.range 9).any (sameKey R o) := by
          rw [Bool.eq_iff_iff, List.any_eq_true, List.any_eq_true]
          constructor
          · rintro ⟨x, hx, hk⟩
            obtain ⟨n, hn, rfl⟩ := h.mem_peer.1 hx
            obtain ⟨a, b, c⟩ := joined_iff.1 hn
            refine ⟨n.toNat, by rw [List.mem_range]; omega, ?_⟩
            unfold sameKey
            rw [Bool.and_eq_true]
            refine ⟨?_, hk⟩
            cases e : R.names n.toNat with
            | nil => exact absurd e c
            | cons _ _ => rfl
          · rintro ⟨n, hn, hk⟩
            unfold sameKey at hk
            rw [Bool.and_eq_true] at hk
            have hne : R.names n ≠ [] := by intro e; rw [e] at hk; exact absurd hk.1 (by decide)
            rw [List.mem_range] at hn
            have h0 : n ≠ 0 := by rintro rfl; exact hne hI.none0.1
            exact ⟨peerOf R n, h.mem_peer.2 ⟨n, joined_iff.2 ⟨by omega, by omega, by rw [Int.toNat_natCast]; exact hne⟩, rfl⟩, by unfold peerOf; rw [Int.toNat_natCast]; exact hk.2⟩
        rw [if_neg (show ¬ ((!may o.name) = true) by rw [hm]; simp), if_neg (show ¬ ((!may o.name) = true) by rw [hm]; simp), e]
      · rw [Bool.not_eq_true] at hm
        rw [if_pos (show ((!may o.name) = true) by rw [hm]; rfl), if_pos (show ((!may o.name) = true) by rw [hm]; rfl)]
    · rw [if_pos ((h.peerAt _).2 hj), if_pos rfl]
  rw [if_neg k2, if_neg k2]
  cases hj : joined R o.peer
  · rw [h.peer_no hj, if_pos (by decide), if_pos (by decide)]
  have := (h.peerAt o.peer).2 hj
  rw [if_neg (show ¬ T.peerAt o.peer < 0 by omega), if_neg (show ¬ ((!true) = true) by decide)]
  by_cases k3 : o.kind = 3
  · rw [if_pos k3, if_pos k3]
  rw [if_neg k3, if_neg k3]
  by_cases s1 : o.source < 1 ∨ 8 < o.source
  · rw [if_pos s1, if_pos (show ((!inn o.source 9) = true) by unfold inn; simp; omega)]
  have hs : inn o.source 9 = true := (inn_iff' _ _).2 (by omega)
  rw [if_neg s1, if_neg (show ¬ ((!inn o.source 9) = true) by rw [hs]; simp)]
  have hin : hasI R o.source = (R.src o.source.toNat).there := by unfold hasI; rw [hs]; rfl
  by_cases k4 : o.kind = 4
  · rw [if_pos k4, if_pos k4]
    unfold Tab.wrongSsrcs publishes
    have e1 : (0 ≤ T.srcAt o.source) = ((R.src o.source.toNat).there = true) := by rw [← hin]; exact propext (h.srcAt _)
    simp only [e1, h.twice_eq hI]
  rw [if_neg k4, if_neg k4]
  cases ht : (R.src o.source.toNat).there
  · rw [ht] at hin
    rw [h.src_no hin, if_pos (by decide), if_pos (by decide)]
  rw [ht] at hin
  have := (h.srcAt o.source).2 hin
  rw [if_neg (by omega), if_neg (by decide), h.srcD hin]
  have hh : hears R o.peer o.source = (R.sub o.source.toNat o.peer.toNat).there := by unfold hears; rw [hp, hs]; rfl
  unfold Tab.wrongSub about
  have o1 : (srcOf R o.source).own = (R.src o.source.toNat).own := rfl
  have o2 : (srcOf R o.source).muted = (R.src o.source.toNat).muted := rfl
  simp only [o1, o2]
  by_cases k5 : o.kind = 5 ∨ o.kind = 8 ∨ o.kind = 9
  · rw [if_pos k5, if_pos k5]; first | done | rfl
  rw [if_neg k5, if_neg k5]
  have elay : layer R o = if layerOk (srcOf R o.source) o.layer = true then 0 else 5 := by
    unfold layer
    by_cases hl : o.layer < 0 ∨ ((R.src o.source.toNat).ss.length : Int) ≤ o.layer
    · rw [if_pos hl, if_neg (by rw [layerOk_eq]; unfold srcOf; dsimp only; omega)]
    · rw [if_neg hl, if_pos (by rw [layerOk_eq]; unfold srcOf; dsimp only; omega)]
  by_cases k6 : o.kind = 6
  · rw [if_pos k6, if_pos k6]
    have e2 : (0 ≤ T.subAt o.peer o.source) = ((R.sub o.source.toNat o.peer.toNat).there = true) := by rw [← hh]; exact propext (h.subAt _ _)
    simp only [e2, elay]
  rw [if_neg k6, if_neg k6]
  unfold heard
  dsimp only
  cases hst : (R.sub o.source.toNat o.peer.toNat).there
  · rw [hst] at hh
    rw [h.sub_no hh, if_pos (by decide), if_pos (by decide)]
  rw [hst] at hh
  have := (h.subAt o.peer o.source).2 hh
  rw [if_neg (show ¬ T.subAt o.peer o.source < 0 by omega), if_neg (show ¬ ((!true) = true) by decide), h.subD hh, elay]
  dsimp only [subOf]
  by_cases k10 : o.kind = 10
  · by_cases hp : (R.sub o.source.toNat o.peer.toNat).paused = true <;> simp [k10, hp]
  by_cases k11 : o.kind = 11
  · by_cases hp : (R.sub o.source.toNat o.peer.toNat).paused = true <;> simp [k11, hp]
  by_cases k12 : o.kind = 12
  · cases hl : layerOk (srcOf R o.source) o.layer <;> simp [k12]
  · simp [k10, k11, k12]
end Go.Proofs.Rm
namespace Go.Proofs.Rm
open Go.Proofs.Lab (may key)
open Go.Proofs.Assoc
theorem su_setSub (R : Room) {n p : Nat} (hn : 1 ≤ n ∧ n < 9) (hp : 1 ≤ p ∧ p < 9) (x : Sub) (q m : Int) :
    (if hears (R.setSub n p x) q m then some (subOf (R.setSub n p x) q m) else none) = if (q, m) = ((p : Int), (n : Int)) then (if x.there then some (⟨p, n, x.want, x.paused⟩ : TSub) else none) else (if hears R q m then some (subOf R q m) else none) := by
  by_cases e : (q, m) = ((p : Int), (n : Int))
  · cases e
    rw [if_pos rfl]
    have h1 : hears (R.setSub n p x) p n = x.there := by
      unfold hears; rw [Int.toNat_natCast, Int.toNat_natCast, sub_setSub, (inn_iff' _ _).2 (by omega), (inn_iff' _ _).2 (by omega)]; rfl
    have h2 : subOf (R.setSub n p x) p n = ⟨p, n, x.want, x.paused⟩ := by unfold subOf; rw [Int.toNat_natCast, Int.toNat_natCast, sub_setSub]
    rw [h1, h2]
  · rw [if_neg e]
    by_cases hi : inn q 9 = true ∧ inn m 9 = true
    · have hq := (inn_iff' _ _).1 hi.1
      have hm := (inn_iff' _ _).1 hi.2
      have hs : (R.setSub n p x).sub m.toNat q.toNat = R.sub m.toNat q.toNat := by
        rw [setSub_sub, if_neg]
        rintro ⟨h1, h2⟩
        apply e
        rw [Prod.mk.injEq]; omega
      unfold hears subOf
      rw [hs]
    · have hf : ∀ R' : Room, hears R' q m = false := fun R' => by
        rw [Bool.eq_false_iff, ne_eq, hears_iff]
        rintro ⟨a, b, c, d, _⟩
        exact hi ⟨(inn_iff' _ _).2 ⟨a, b⟩, (inn_iff' _ _).2 ⟨c, d⟩⟩
      rw [hf, hf]; rfl
theorem sr_setSrc (R : Room) {n : Nat} (hn : 1 ≤ n ∧ n < 9) (s : Src) (m : Int) :
    (if hasI (R.setSrc n s) m then some (srcOf (R.setSrc n s) m) else none) = if m = (n : Int) then (if s.there then some (⟨n, s.own, s.ss, s.muted⟩ : TSrc) else none) else (if hasI R m then some (srcOf R m) else none) := by
  by_cases e : m = (n : Int)
  · cases e
    rw [if_pos rfl]
    have h0 : (R.setSrc n s).src n = s := by rw [setSrc_src, if_pos rfl]
    have h1 : hasI (R.setSrc n s) n = s.there := by unfold hasI; rw [Int.toNat_natCast, h0, (inn_iff' _ _).2 (by omega)]; rfl
    have h2 : srcOf (R.setSrc n s) n = ⟨n, s.own, s.ss, s.muted⟩ := by unfold srcOf; rw [Int.toNat_natCast, h0]
    rw [h1, h2]
  · rw [if_neg e]
    by_cases hi : inn m 9 = true
    · have hm := (inn_iff' _ _).1 hi
      have hs : (R.setSrc n s).src m.toNat = R.src m.toNat := by rw [setSrc_src, if_neg (by omega)]
      unfold hasI srcOf; rw [hs]
    · have hf : ∀ R' : Room, hasI R' m = false := fun R' => by unfold hasI; rw [Bool.eq_false_iff, ne_eq, Bool.and_eq_true]; exact fun h => hi h.1
      rw [hf, hf]; rfl
theorem pe_setName (R : Room) {p : Nat} (hp : 1 ≤ p ∧ p < 9) (s : List UInt8) (q : Int) :
    (if joined (R.setName p s) q then some (peerOf (R.setName p s) q) else none) = if q = (p : Int) then (if s ≠ [] then some (⟨p, s⟩ : TPeer) else none) else (if joined R q then some (peerOf R q) else none) := by
  by_cases e : q = (p : Int)
  · cases e
    rw [if_pos rfl]
    have h0 : (R.setName p s).names p = s := by rw [setName_names, if_pos rfl]
    have h2 : peerOf (R.setName p s) p = ⟨p, s⟩ := by unfold peerOf; rw [Int.toNat_natCast, h0]
    rw [h2]
    by_cases hs : s = []
    · rw [if_neg (by rw [joined_iff, Int.toNat_natCast, h0]; rintro ⟨_, _, h⟩; exact h hs), if_neg (fun h => h hs)]
    · rw [if_pos (by rw [joined_iff, Int.toNat_natCast, h0]; exact ⟨by omega, by omega, hs⟩), if_pos hs]
  · rw [if_neg e]
    by_cases hi : inn q 9 = true
    · have hm := (inn_iff' _ _).1 hi
      have hs : (R.setName p s).names q.toNat = R.names q.toNat := by rw [setName_names, if_neg (by omega)]
      unfold joined peerOf; rw [hs]
    · have hf : ∀ R' : Room, joined R' q = false := fun R' => by unfold joined; rw [Bool.eq_false_iff, ne_eq, Bool.and_eq_true]; exact fun h => hi h.1
      rw [hf, hf]; rfl
section
variable {T : Tab} {R : Room} (h : Sim T R)
include h
theorem Sim.endSub {p n : Nat} (hh : hears R p n = true) : Sim (T.endSub p n) (R.setSub n p noSub) := by
  obtain ⟨i, hi, h1, h2⟩ := h.sub_yes hh
  obtain ⟨a, b, c, d, _⟩ := hears_iff.1 hh
  have he : (T.endSub p n).subs = T.subs.eraseIdx i := by unfold Tab.endSub; rw [h1, Int.toNat_natCast]
  refine ⟨h.up, h.us, by rw [he]; exact erase_uniq _ h.uu i, h.pe, h.sr, fun q m => ?_⟩
  rw [he, erase_lk uk h.uu hi, su_setSub R (by omega) (by omega), h2, h.su]
  rfl
theorem Sim.setSub {p n : Nat} (hh : hears R p n = true) (x : Sub) (hx : x.there = true) : Sim (T.setSub p n ⟨p, n, x.want, x.paused⟩) (R.setSub n p x) := by
  obtain ⟨i, hi, h1, h2⟩ := h.sub_yes hh
  obtain ⟨a, b, c, d, _⟩ := hears_iff.1 hh
  have he : (T.setSub p n ⟨p, n, x.want, x.paused⟩).subs = T.subs.set i ⟨p, n, x.want, x.paused⟩ := by unfold Tab.setSub; rw [h1, Int.toNat_natCast]
  have hk : uk ⟨p, n, x.want, x.paused⟩ = uk T.subs[i] := by rw [h2]; rfl
  refine ⟨h.up, h.us, by rw [he]; exact set_uniq _ h.uu hi hk, h.pe, h.sr, fun q m => ?_⟩
  rw [he, set_lk uk h.uu hi hk, su_setSub R (by omega) (by omega), h.su, hx]
  rfl
theorem Sim.addSub {p n : Nat} (hn : 1 ≤ n ∧ n < 9) (hp : 1 ≤ p ∧ p < 9) (hh : hears R p n = false) (x : Sub) (hx : x.there = true) : Sim (T.addSub ⟨p, n, x.want, x.paused⟩) (R.setSub n p x) := by
  have hl : lk uk T.subs ((p : Int), (n : Int)) = none := by rw [h.su, hh]; rfl
  refine ⟨h.up, h.us, uniq_append uk h.uu hl, h.pe, h.sr, fun q m => ?_⟩
  show lk uk (T.subs ++ [_]) _ = _
  rw [lk_append, su_setSub R hn hp, hx]
  by_cases e : (q, m) = ((p : Int), (n : Int))
  · rw [e, hl, if_pos rfl, if_pos rfl, show uk ⟨p, n, x.want, x.paused⟩ = ((p : Int), (n : Int)) from rfl, if_pos rfl]; rfl
  · rw [if_neg e, if_neg (fun e' => e e'.symm), h.su]
    cases hears R q m <;> rfl
theorem Sim.noSrc {n : Nat} (hh : hasI R n = true) : Sim (T.noSrc n) (R.setSrc n noSrc) := by
  obtain ⟨i, hi, h1, h2⟩ := h.src_yes hh
  obtain ⟨a, b, _⟩ := hasI_iff.1 hh
  have he : (T.noSrc n).srcs = T.srcs.eraseIdx i := by unfold Tab.noSrc; rw [h1, Int.toNat_natCast]
  refine ⟨h.up, by rw [he]; exact erase_uniq _ h.us i, h.uu, h.pe, fun m => ?_, h.su⟩
  rw [he, erase_lk _ h.us hi, sr_setSrc R (by omega), h2, h.sr]
  rfl
theorem Sim.setMuted {n : Nat} (hh : hasI R n = true) (on : Bool) : Sim (T.setMuted n on) (R.setSrc n { R.src n with muted := on }) := by
  obtain ⟨i, hi, h1, h2⟩ := h.src_yes hh
  obtain ⟨a, b, ht⟩ := hasI_iff.1 hh
  rw [Int.toNat_natCast] at ht
  have he : (T.setMuted n on).srcs = T.srcs.set i ⟨n, (R.src n).own, (R.src n).ss, on⟩ := by
    unfold Tab.setMuted; rw [h1, Int.toNat_natCast, h.srcD hh]; rfl
  have hk : TSrc.num ⟨n, (R.src n).own, (R.src n).ss, on⟩ = TSrc.num T.srcs[i] := by rw [h2]; rfl
  refine ⟨h.up, by rw [he]; exact set_uniq _ h.us hi hk, h.uu, h.pe, fun m => ?_, h.su⟩
  rw [he, set_lk _ h.us hi hk, sr_setSrc R (by omega), h.sr]
  dsimp only
  rw [ht]
  rfl
theorem Sim.addSrc {n : Nat} (hn : 1 ≤ n ∧ n < 9) (hh : hasI R n = false) (s : Src) (hs : s.there = true) : Sim (T.addSrc ⟨n, s.own, s.ss, s.muted⟩) (R.setSrc n s) := by
  have hl : lk TSrc.num T.srcs (n : Int) = none := by rw [h.sr, hh]; rfl
  refine ⟨h.up, uniq_append _ h.us hl, h.uu, h.pe, fun m => ?_, h.su⟩
  show lk TSrc.num (T.srcs ++ [_]) _ = _
  rw [lk_append, sr_setSrc R hn, hs]
  by_cases e : m = (n : Int)
  · rw [e, hl, if_pos rfl, if_pos rfl]; rfl
  · rw [if_neg e, if_neg (fun e' => e e'.symm), h.sr]
    cases hasI R m <;> rfl
theorem Sim.addPeer {p : Nat} (hp : 1 ≤ p ∧ p < 9) (hh : joined R p = false) (s : List UInt8) (hs : s ≠ []) : Sim (T.addPeer ⟨p, s⟩) (R.setName p s) := by
  have hl : lk TPeer.num T.peers (p : Int) = none := by rw [h.pe, hh]; rfl
  refine ⟨uniq_append _ h.up hl, h.us, h.uu, fun m => ?_, h.sr, h.su⟩
  show lk TPeer.num (T.peers ++ [_]) _ = _
  rw [lk_append, pe_setName R hp, if_pos hs]
  by_cases e : m = (p : Int)
  · rw [e, hl, if_pos rfl, if_pos rfl]; rfl
  · rw [if_neg e, if_neg (fun e' => e e'.symm), h.pe]
    cases joined R m <;> rfl
theorem Sim.noPeer {p : Nat} (hh : joined R p = true) : Sim (T.noPeer p) (R.setName p []) := by
  obtain ⟨i, hi, h1, h2⟩ := h.peer_yes hh
  obtain ⟨a, b, _⟩ := joined_iff.1 hh
  have he : (T.noPeer p).peers = T.peers.eraseIdx i := by unfold Tab.noPeer; rw [h1, Int.toNat_natCast]
  refine ⟨by rw [he]; exact erase_uniq _ h.up i, h.us, h.uu, fun m => ?_, h.sr, h.su⟩
  rw [he, erase_lk _ h.up hi, pe_setName R (by omega), h2, h.pe, if_neg (fun h => h rfl : ¬ ([] : List UInt8) ≠ [])]
  rfl
end
theorem Sim.endGo (n : Nat) : ∀ (l : List Nat) {T : Tab} {R : Room}, Sim T R → l.Nodup → (∀ p ∈ l, hears R p n = true) → (Tab.endGo n l T).1 = (goneGo n l R).1 ∧ Sim (Tab.endGo n l T).2 (goneGo n l R).2
  | [], T, R, h, _, _ => ⟨rfl, h⟩
  | p :: l, T, R, h, hd, hl => by
    rw [List.nodup_cons] at hd
    have h1 := Sim.endGo n l (h.endSub (hl p (List.mem_cons_self ..))) hd.2 (fun q hq => by
      have h2 := hl q (List.mem_cons_of_mem _ hq)
      rw [hears_nat] at h2 ⊢
      refine ⟨h2.1, h2.2.1, h2.2.2.1, h2.2.2.2.1, ?_⟩
      rw [setSub_sub, if_neg]
      · exact h2.2.2.2.2
      · rintro ⟨_, e⟩; exact hd.1 (by rw [← e]; exact hq))
    unfold Tab.endGo goneGo
    exact ⟨by dsimp only; rw [h1.1], h1.2⟩
theorem Sim.gone {T : Tab} {R : Room} (h : Sim T R) {n : Nat} (hh : hasI R n = true) : (T.endSource n).1 = (gone R n).1 ∧ Sim (T.endSource n).2 (gone R n).2 := by
  have hnd : (subs R n).Nodup := by rw [← h.hears_eq]; exact hears_nodup T n
  have h1 := Sim.endGo n (subs R n) h hnd (fun p hp => (List.mem_filter.1 hp).2)
  unfold Tab.endSource Rm.gone
  rw [h.hears_eq]
  refine ⟨h1.1, h1.2.noSrc ?_⟩
  rw [hasI_iff] at hh ⊢
  rw [goneGo_src]; exact hh
end Go.Proofs.Rm
namespace Go.Proofs.Rm
open Go.Proofs.Lab (may key)
open Go.Proofs.Assoc
theorem fm_congr {α β : Type} {f g : α → List β} : ∀ {l : List α}, (∀ x ∈ l, f x = g x) → l.flatMap f = l.flatMap g
  | [], _ => rfl
  | x :: l, h => by rw [List.flatMap_cons, List.flatMap_cons, h x (List.mem_cons_self ..), fm_congr fun y hy => h y (List.mem_cons_of_mem _ hy)]
theorem hasI_nat {R : Room} {n : Nat} : hasI R n = true ↔ 1 ≤ n ∧ n < 9 ∧ (R.src n).there = true := by
  rw [hasI_iff, Int.toNat_natCast]; constructor <;> (rintro ⟨a, b, c⟩; exact ⟨by omega, by omega, c⟩)
/-- A peer's own subscriptions. -/
theorem Sim.leave1 {p : Nat} (hp : 1 ≤ p ∧ p < 9) {T : Tab} {R : Room} (h : Sim T R) (h0 : ∀ q, (R.sub 0 q).there = false) : ∀ k, k ≤ 8 → (Tab.leave1 p T k).1 = (Rm.leave1 p R (k + 1)).1 ∧ Sim (Tab.leave1 p T k).2 (Rm.leave1 p R (k + 1)).2
  | 0, _ => by
    rw [leave1_succ]
    have e : ((Rm.leave1 p R 0).2.sub 0 p).there = false := h0 p
    rw [e]
    exact ⟨rfl, h⟩
  | k + 1, hk => by
    obtain ⟨h1, h2⟩ := Sim.leave1 hp h h0 k (by omega)
    rw [rleave1_succ, leave1_succ]
    have hs := h2.subAt (p : Int) ((k : Int) + 1)
    have e1 : ((k : Int) + 1) = ((k + 1 : Nat) : Int) := by omega
    rw [e1] at hs ⊢
    cases ht : ((Rm.leave1 p R (k + 1)).2.sub (k + 1) p).there
    · rw [if_neg (by rw [hs, hears_nat]; rintro ⟨_, _, _, _, h⟩; rw [ht] at h; cases h), if_neg (by decide)]
      exact ⟨h1, h2⟩
    · have hh : hears (Rm.leave1 p R (k + 1)).2 p (k + 1 : Nat) = true := hears_nat.2 ⟨hp.1, hp.2, by omega, by omega, ht⟩
      rw [if_pos (hs.2 hh), if_pos rfl]
      exact ⟨by dsimp only; rw [h1], h2.endSub hh⟩
/-- A peer's own sources; X is the room as it was ahead. -/
theorem Sim.leave2 {p : Nat} (hp : 1 ≤ p) {T : Tab} {X : Room} (h : Sim T X) (h0 : (X.src 0).there = false) : ∀ k, k ≤ 8 → (Tab.leave2 p T k).1 = (Rm.leave2 X p (k + 1)).1 ∧ Sim (Tab.leave2 p T k).2 (Rm.leave2 X p (k + 1)).2
  | 0, _ => by
    rw [leave2_succ, h0]
    exact ⟨rfl, h⟩
  | k + 1, hk => by
    obtain ⟨h1, h2⟩ := Sim.leave2 hp h h0 k (by omega)
    rw [rleave2_succ, leave2_succ]
    have e1 : ((k : Int) + 1) = ((k + 1 : Nat) : Int) := by omega
    rw [e1, h2.owner]
    have hsrc : (Rm.leave2 X p (k + 1)).2.src (k + 1) = X.src (k + 1) := by rw [leave2_src, if_neg (by omega)]
    by_cases ht : (X.src (k + 1)).there = true ∧ (X.src (k + 1)).own = p
    · have hi : hasI (Rm.leave2 X p (k + 1)).2 ((k + 1 : Nat) : Int) = true := hasI_nat.2 ⟨by omega, by omega, by rw [hsrc]; exact ht.1⟩
      have hg := h2.gone hi
      rw [hi, if_pos rfl, Int.toNat_natCast, hsrc, if_pos ht.2, if_pos (by rw [ht.1, ht.2]; simp)]
      exact ⟨by dsimp only; rw [h1, hg.1], hg.2⟩
    · have hn : ¬ (((X.src (k + 1)).there && decide ((X.src (k + 1)).own = (p : Int))) = true) := by
        rw [Bool.and_eq_true, decide_eq_true_iff]; exact ht
      rw [if_neg hn]
      cases hi : hasI (Rm.leave2 X p (k + 1)).2 ((k + 1 : Nat) : Int)
      · rw [if_neg (show ¬ (false = true) by decide), if_neg (by omega)]
        exact ⟨h1, h2⟩
      · have ht1 : (X.src (k + 1)).there = true := by have := (hasI_nat.1 hi).2.2; rwa [hsrc] at this
        rw [if_pos rfl, Int.toNat_natCast, hsrc, if_neg (fun e => ht ⟨ht1, e⟩)]
        exact ⟨h1, h2⟩
theorem Sim.leave {T : Tab} {R : Room} (h : Sim T R) (hI : Inv R) {p : Nat} (hj : joined R p = true) : (T.leave p).1 = (Rm.leave R p).1 ∧ Sim (T.leave p).2 (Rm.leave R p).2 := by
  obtain ⟨a, b, c⟩ := joined_iff.1 hj
  obtain ⟨h1, h2⟩ := h.leave1 (p := p) (by omega) (fun q => by
    rw [Bool.eq_false_iff]; intro e; have := (hI.subAt 0 q e).1; omega) 8 (by omega)
  have hn := leave1_names R p 9
  obtain ⟨h3, h4⟩ := h2.leave2 (p := p) (by omega) (by rw [hn.2]; exact hI.none0.2) 8 (by omega)
  unfold Tab.leave Rm.leave
  refine ⟨by dsimp only; rw [h1, h3], h4.noPeer ?_⟩
  rw [joined_congr (R := R) (by rw [leave2_names, hn.1])]
  exact hj
/-- What is asked for. -/
theorem Sim.ask {T : Tab} {R : Room} (h : Sim T R) {p n : Nat} (hs : hasI R n = true) (_hh : hears R p n = true) : T.ask (subOf R p n) = asks R p n := by
  unfold Tab.ask asks
  have e : (subOf R p n).source = (n : Int) := rfl
  rw [e, h.srcD hs]
  unfold srcOf subOf
  rw [Int.toNat_natCast, Int.toNat_natCast]
theorem Sim.waits {T : Tab} {R : Room} (h : Sim T R) {p n : Nat} (hs : hasI R n = true) (hh : hears R p n = true) {t : Turn} :
    (t :: (if (subOf R p n).paused || (T.srcD n).muted then [] else [T.ask (subOf R p n)])) = t :: Rm.waits R p n := by
  rw [h.ask hs hh, h.srcD hs]
  unfold Rm.waits subOf srcOf
  rw [Int.toNat_natCast, Int.toNat_natCast]
theorem Sim.mute {T : Tab} {R : Room} (h : Sim T R) {n : Nat} (hs : hasI R n = true) (on : Bool) : (T.mute n on).1 = (Rm.mute R n on).1 ∧ Sim (T.mute n on).2 (Rm.mute R n on).2 := by
  have h1 := h.setMuted hs on
  refine ⟨?_, h1⟩
  unfold Tab.mute Rm.mute
  dsimp only
  rw [h1.hears_eq]
  generalize hR1 : R.setSrc n { R.src n with muted := on } = R1 at *
  have hmu : (R1.src n).muted = on := by rw [← hR1, setSrc_src, if_pos rfl]
  have hs1 : hasI R1 n = true := by
    rw [hasI_nat] at hs ⊢
    exact ⟨hs.1, hs.2.1, by rw [← hR1, setSrc_src, if_pos rfl]; exact hs.2.2⟩
  apply fm_congr
  intro p hp
  have hh : hears R1 p n = true := (List.mem_filter.1 hp).2
  unfold Tab.muteTurns muteTurns
  cases on
  · rw [if_neg (show ¬ (false = true) by decide), if_neg (show ¬ (false = true) by decide), h1.subD hh, h1.ask hs1 hh]
    unfold Rm.waits
    rw [hmu, Bool.or_false]
    unfold subOf; rw [Int.toNat_natCast, Int.toNat_natCast]
  · rfl
end Go.Proofs.Rm
