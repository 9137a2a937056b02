/- The plain room: an operation that may be done keeps what holds of every room. -/
import Derived.Test.YthlamfoldfeocaaDoorRoomPlain
namespace Go.Proofs.Rm
open Go.Proofs.Lab (may key)
structure Ok (R : Room) (o : Op) : Prop where
  kind : 2 ≤ o.kind ∧ o.kind ≤ 12
  peer : 1 ≤ o.peer ∧ o.peer < 9
  join : o.kind = 2 → joins R o = 0
  there : o.kind ≠ 2 → joined R o.peer = true
  src : 4 ≤ o.kind → 1 ≤ o.source ∧ o.source < 9
  pub : o.kind = 4 → publishes R o = 0
  is : 5 ≤ o.kind → (R.src o.source.toNat).there = true
  abt : 5 ≤ o.kind → about R o = 0
theorem inn_iff' (n k : Int) : inn n k = true ↔ 1 ≤ n ∧ n < k := by unfold inn; simp
theorem wrong_ok {R : Room} {o : Op} (h : wrong R o = 0) : Ok R o := by
  unfold wrong at h
  by_cases h1 : o.kind < 2 ∨ 12 < o.kind
  · rw [if_pos h1] at h; exact absurd h (by decide)
  rw [if_neg h1] at h
  by_cases h2 : inn o.peer 9 = true
  rotate_left
  · simp [h2] at h
  simp only [h2, Bool.not_true, Bool.false_eq_true, if_false] at h
  have hp := (inn_iff' _ _).1 h2
  by_cases h3 : o.kind = 2
  · rw [if_pos h3] at h
    exact ⟨by omega, hp, fun _ => h, fun e => absurd h3 e, by omega, by omega, by omega, by omega⟩
  rw [if_neg h3] at h
  by_cases h4 : joined R o.peer = true
  rotate_left
  · simp [h4] at h
  simp only [h4, Bool.not_true, Bool.false_eq_true, if_false] at h
  by_cases h5 : o.kind = 3
  · exact ⟨by omega, hp, by omega, fun _ => h4, by omega, by omega, by omega, by omega⟩
  rw [if_neg h5] at h
  by_cases h6 : inn o.source 9 = true
  rotate_left
  · simp [h6] at h
  simp only [h6, Bool.not_true, Bool.false_eq_true, if_false] at h
  have hs := (inn_iff' _ _).1 h6
  by_cases h7 : o.kind = 4
  · rw [if_pos h7] at h
    exact ⟨by omega, hp, by omega, fun _ => h4, fun _ => hs, fun _ => h, by omega, by omega⟩
  rw [if_neg h7] at h
  by_cases h8 : (R.src o.source.toNat).there = true
  rotate_left
  · simp [h8] at h
  simp only [h8, Bool.not_true, Bool.false_eq_true, if_false] at h
  exact ⟨by omega, hp, by omega, fun _ => h4, fun _ => hs, by omega, fun _ => h8, fun _ => h⟩
theorem layer_ok {R : Room} {o : Op} (h : layer R o = 0) : 0 ≤ o.layer ∧ o.layer < (R.src o.source.toNat).ss.length := by
  unfold layer at h
  by_cases h1 : o.layer < 0 ∨ ((R.src o.source.toNat).ss.length : Int) ≤ o.layer
  · rw [if_pos h1] at h; exact absurd h (by decide)
  · omega
theorem about_own {R : Room} {o : Op} (h : about R o = 0) (hk : o.kind = 5 ∨ o.kind = 8 ∨ o.kind = 9) : (R.src o.source.toNat).own = o.peer ∧ (o.kind = 8 → (R.src o.source.toNat).muted = false) ∧ (o.kind = 9 → (R.src o.source.toNat).muted = true) := by
  unfold about at h
  dsimp only at h
  rw [if_pos hk] at h
  by_cases h1 : (R.src o.source.toNat).own = o.peer
  rotate_left
  · rw [if_pos h1] at h; exact absurd h (by decide)
  rw [if_neg (by simpa using h1)] at h
  refine ⟨h1, ?_, ?_⟩
  · intro h8
    cases hm : (R.src o.source.toNat).muted
    · rfl
    · rw [if_pos ⟨h8, hm⟩] at h; exact absurd h (by decide)
  · intro h9
    rw [if_neg (by omega)] at h
    cases hm : (R.src o.source.toNat).muted
    · rw [if_pos ⟨h9, hm⟩] at h; exact absurd h (by decide)
    · rfl
theorem about_sub {R : Room} {o : Op} (h : about R o = 0) (hk : o.kind = 6) : (R.src o.source.toNat).own ≠ o.peer ∧ (R.sub o.source.toNat o.peer.toNat).there = false ∧ layer R o = 0 := by
  unfold about at h
  dsimp only at h
  rw [if_neg (by omega), if_pos hk] at h
  by_cases h1 : (R.src o.source.toNat).own = o.peer
  · rw [if_pos h1] at h; exact absurd h (by decide)
  rw [if_neg h1] at h
  cases ht : (R.sub o.source.toNat o.peer.toNat).there
  · rw [ht] at h; exact ⟨h1, rfl, h⟩
  · rw [ht] at h; simp at h
theorem about_hear {R : Room} {o : Op} (h : about R o = 0) (hk : o.kind = 7 ∨ 10 ≤ o.kind) :
    (R.sub o.source.toNat o.peer.toNat).there = true ∧ (o.kind = 10 → (R.sub o.source.toNat o.peer.toNat).paused = false) ∧ (o.kind = 11 → (R.sub o.source.toNat o.peer.toNat).paused = true) ∧ (o.kind = 12 → layer R o = 0 ∧ (R.sub o.source.toNat o.peer.toNat).want ≠ o.layer) := by
  unfold about at h
  dsimp only at h
  rw [if_neg (by omega), if_neg (by omega)] at h
  unfold heard at h
  dsimp only at h
  cases ht : (R.sub o.source.toNat o.peer.toNat).there
  · rw [ht] at h; simp at h
  rw [ht] at h
  simp only [Bool.not_true, Bool.false_eq_true, if_false] at h
  refine ⟨rfl, ?_, ?_, ?_⟩
  · intro h10
    cases hm : (R.sub o.source.toNat o.peer.toNat).paused
    · rfl
    · rw [if_pos ⟨h10, hm⟩] at h; exact absurd h (by decide)
  · intro h11
    rw [if_neg (by omega)] at h
    cases hm : (R.sub o.source.toNat o.peer.toNat).paused
    · rw [if_pos ⟨h11, hm⟩] at h; exact absurd h (by decide)
    · rfl
  · intro h12
    rw [if_neg (by omega), if_neg (by omega), if_neg (by omega)] at h
    by_cases hl : layer R o = 0
    · rw [if_neg (by omega)] at h
      refine ⟨hl, fun e => ?_⟩
      rw [if_pos e] at h; exact absurd h (by decide)
    · rw [if_pos hl] at h; exact absurd h hl
theorem index_mem (l : List Int) (x : Int) : 0 ≤ index l x ↔ x ∈ l := by
  unfold index
  cases h : l.findIdx? (fun y => y == x) with
  | none =>
    have := List.findIdx?_eq_none_iff.1 h
    constructor
    · intro h; exact absurd h (by decide)
    · intro hx; have := this x hx; simp at this
  | some i =>
    obtain ⟨hi, h1, _⟩ := List.findIdx?_eq_some_iff_getElem.1 h
    have h1 : l[i] = x := by simpa using h1
    exact ⟨fun _ => by rw [← h1]; exact List.getElem_mem hi, fun _ => Int.natCast_nonneg _⟩
theorem ofGo_none (R : Room) (x : Int) : ∀ k n, (ofGo R x k n).2.2 = false ↔ ∀ m, n ≤ m → m < n + k → (R.src m).there = true → x ∉ (R.src m).ss
  | 0, n => by simp [ofGo]; omega
  | k + 1, n => by
    unfold ofGo
    by_cases hc : ((R.src n).there && decide (0 ≤ index (R.src n).ss x)) = true
    · rw [if_pos hc]
      rw [Bool.and_eq_true, decide_eq_true_eq, index_mem] at hc
      constructor
      · intro h; cases h
      · intro h; exact absurd hc.2 (h n (Nat.le_refl _) (by omega) hc.1)
    · rw [if_neg hc, ofGo_none R x k (n + 1)]
      rw [Bool.and_eq_true, decide_eq_true_eq, index_mem] at hc
      constructor
      · intro h m h1 h2 h3 h4
        by_cases e : m = n
        · subst e; exact hc ⟨h3, h4⟩
        · exact h m (by omega) (by omega) h3 h4
      · intro h m h1 h2; exact h m (by omega) (by omega)
theorem of_none {R : Room} {x : Int} : (of R x).2.2 = false ↔ ∀ m, m < 9 → (R.src m).there = true → x ∉ (R.src m).ss := by
  unfold of
  rw [ofGo_none]
  exact ⟨fun h m hm => h m (Nat.zero_le _) (by omega), fun h m _ hm => h m (by omega)⟩
theorem ofGo_some (R : Room) (x : Int) : ∀ k n, (ofGo R x k n).2.2 = true → ∃ m : Nat, n ≤ m ∧ m < n + k ∧ (R.src m).there = true ∧ x ∈ (R.src m).ss ∧ ofGo R x k n = ((m : Int), index (R.src m).ss x, true)
  | 0, n, h => by simp [ofGo] at h
  | k + 1, n, h => by
    unfold ofGo at h ⊢
    by_cases hc : ((R.src n).there && decide (0 ≤ index (R.src n).ss x)) = true
    · rw [if_pos hc] at h ⊢
      rw [Bool.and_eq_true, decide_eq_true_eq, index_mem] at hc
      exact ⟨n, Nat.le_refl _, by omega, hc.1, hc.2, rfl⟩
    · rw [if_neg hc] at h ⊢
      obtain ⟨m, h1, h2, h3⟩ := ofGo_some R x k (n + 1) h
      exact ⟨m, by omega, by omega, h3⟩
theorem of_some {R : Room} {x : Int} (h : (of R x).2.2 = true) : ∃ m : Nat, m < 9 ∧ (R.src m).there = true ∧ x ∈ (R.src m).ss ∧ of R x = ((m : Int), index (R.src m).ss x, true) := by
  obtain ⟨m, _, h2, h3⟩ := ofGo_some R x 9 0 h
  exact ⟨m, by omega, h3⟩
theorem nodup_of_twice (l : List Int) (h : ∀ i, i < l.length → (l.take i).contains (l.getD i 0) = false) : l.Nodup := by
  unfold List.Nodup
  rw [List.pairwise_iff_getElem]
  intro i j hi hj hij e
  have := h j hj
  rw [List.getD_eq_getElem?_getD, List.getElem?_eq_getElem hj, Option.getD_some] at this
  rw [← e] at this
  have hm : l[i] ∈ l.take j := by
    rw [List.mem_iff_getElem]
    exact ⟨i, by rw [List.length_take]; omega, by rw [List.getElem_take]⟩
  rw [List.contains_iff_mem.2 hm] at this
  cases this
theorem pub_ok {R : Room} {o : Op} (h : publishes R o = 0) : 1 ≤ o.ssrcs.length ∧ o.ssrcs.length ≤ 3 ∧ (∀ s ∈ o.ssrcs, 2 ≤ s ∧ s < 3221225472) ∧ (R.src o.source.toNat).there = false ∧ o.ssrcs.Nodup ∧ ∀ m x, m < 9 → (R.src m).there = true → x ∈ o.ssrcs → x ∉ (R.src m).ss := by
  unfold publishes at h
  by_cases h1 : o.ssrcs.length < 1 ∨ 3 < o.ssrcs.length
  · rw [if_pos h1] at h; exact absurd h (by decide)
  rw [if_neg h1] at h
  by_cases h2 : o.ssrcs.any (fun s => decide (s < 2) || decide (3221225472 ≤ s)) = true
  · rw [if_pos h2] at h; exact absurd h (by decide)
  rw [if_neg h2] at h
  by_cases h3 : (R.src o.source.toNat).there = true
  · rw [if_pos h3] at h; exact absurd h (by decide)
  rw [if_neg h3] at h
  by_cases h4 : (List.range o.ssrcs.length).any (twice R o.ssrcs) = true
  · rw [if_pos h4] at h; exact absurd h (by decide)
  have h5 : ∀ i, i < o.ssrcs.length → (of R (o.ssrcs.getD i 0)).2.2 = false ∧ (o.ssrcs.take i).contains (o.ssrcs.getD i 0) = false := by
    intro i hi
    have : ¬ twice R o.ssrcs i = true := fun e => h4 (List.any_eq_true.2 ⟨i, by simpa using hi, e⟩)
    unfold twice at this
    rw [Bool.or_eq_true] at this
    exact ⟨Bool.eq_false_iff.2 fun e => this (Or.inl e), Bool.eq_false_iff.2 fun e => this (Or.inr e)⟩
  refine ⟨by omega, by omega, ?_, by simpa using h3, nodup_of_twice _ fun i hi => (h5 i hi).2, ?_⟩
  · intro s hs
    have : ¬ (decide (s < 2) || decide (3221225472 ≤ s)) = true := fun e => h2 (List.any_eq_true.2 ⟨s, hs, e⟩)
    simp at this; omega
  · intro m x hm ht hx
    obtain ⟨i, hi, rfl⟩ := List.getElem_of_mem hx
    have := (h5 i hi).1
    rw [List.getD_eq_getElem?_getD, List.getElem?_eq_getElem hi, Option.getD_some, of_none] at this
    exact this m hm ht
theorem join_ok {R : Room} {o : Op} (h : joins R o = 0) : joined R o.peer = false ∧ may o.name = true ∧ ∀ q, q < 9 → R.names q ≠ [] → key (R.names q) ≠ key o.name := by
  unfold joins at h
  cases h1 : joined R o.peer
  rotate_left
  · rw [h1] at h; simp at h
  rw [h1] at h
  cases h2 : may o.name
  · rw [h2] at h; simp at h
  rw [h2] at h
  simp only [Bool.false_eq_true, if_false, Bool.not_true] at h
  by_cases h3 : (List.range 9).any (sameKey R o) = true
  · rw [if_pos h3] at h; exact absurd h (by decide)
  refine ⟨rfl, rfl, fun q hq hn e => h3 (List.any_eq_true.2 ⟨q, by simpa using hq, ?_⟩)⟩
  unfold sameKey
  simp [hn, e]
theorem may_ne {l : List UInt8} (h : may l = true) : l ≠ [] := by rintro rfl; cases h
theorem inv_empty : Inv empty := by
  refine ⟨⟨rfl, rfl⟩, ?_, ?_, ?_, ?_, ?_⟩
  · intro n p h; cases h
  · intro n h; cases h
  · intro n m x h; cases h
  · intro p h; exact absurd rfl h
  · intro p q h; exact absurd rfl h
theorem inv_join {R : Room} (hI : Inv R) {p : Nat} {nm : List UInt8} (hp : 1 ≤ p ∧ p < 9) (h0 : R.names p = []) (hm : may nm = true) (hk : ∀ q, q < 9 → R.names q ≠ [] → key (R.names q) ≠ key nm) : Inv (R.setName p nm) := by
  have hjoin : ∀ q, joined R q = true → joined (R.setName p nm) q = true := by
    intro q h
    unfold joined at h ⊢
    rw [Bool.and_eq_true] at h ⊢
    refine ⟨h.1, ?_⟩
    rw [setName_names]
    split
    · have := may_ne hm
      simp [this]
    · exact h.2
  refine ⟨⟨?_, hI.none0.2⟩, ?_, ?_, hI.apart, ?_, ?_⟩
  · rw [setName_names, if_neg (by omega)]; exact hI.none0.1
  · intro n q h
    have := hI.subAt n q h
    have hq : q ≠ p := by rintro rfl; exact this.2.2.2.2.2.1 h0
    rw [setName_names, if_neg hq]
    exact this
  · intro n h
    obtain ⟨h1, h2, h3, h4, h5⟩ := hI.srcAt n h
    exact ⟨h1, h2, h3, hjoin _ h4, h5⟩
  · intro q h
    rw [setName_names] at h ⊢
    by_cases hq : q = p
    · rw [if_pos hq]; exact ⟨by omega, hm⟩
    · rw [if_neg hq] at h ⊢; exact hI.nameAt q h
  · intro q r h e
    rw [setName_names] at h
    rw [setName_names, setName_names] at e
    by_cases hq : q = p
    · rw [if_pos hq] at e
      by_cases hr : r = p
      · omega
      · rw [if_neg hr] at e
        by_cases hn : R.names r = []
        · rw [hn] at e; exact absurd e (key_ne_nil hm)
        · exact absurd e.symm (hk r (hI.nameAt r hn).1 hn)
    · rw [if_neg hq] at h e
      by_cases hr : r = p
      · rw [if_pos hr] at e
        exact absurd e (hk q (hI.nameAt q h).1 h)
      · rw [if_neg hr] at e; exact hI.keys q r h e
theorem inv_publish {R : Room} (hI : Inv R) {n p : Nat} {sv : Value} {ss : List Int} (hn : 1 ≤ n ∧ n < 9) (hp : joined R p = true) (h0 : (R.src n).there = false) (h1 : 1 ≤ ss.length) (h3 : ss.length ≤ 3) (hr : ∀ s ∈ ss, 2 ≤ s ∧ s < 3221225472) (hd : ss.Nodup) (hx : ∀ m x, m < 9 → (R.src m).there = true → x ∈ ss → x ∉ (R.src m).ss) :
    Inv (R.setSrc n ⟨true, n, p, sv, ss, false⟩) := by
  refine ⟨⟨hI.none0.1, ?_⟩, ?_, ?_, ?_, hI.nameAt, hI.keys⟩
  · rw [setSrc_src, if_neg (by omega)]; exact hI.none0.2
  · intro m q h
    have := hI.subAt m q h
    have hm : m ≠ n := by rintro rfl; rw [h0] at this; exact absurd this.2.2.2.2.1 (by decide)
    rw [setSrc_src, if_neg hm]
    exact this
  · intro m h
    rw [setSrc_src] at h ⊢
    by_cases hm : m = n
    · rw [if_pos hm]
      exact ⟨by omega, by omega, by rw [hm], hp, h1, h3, hd, hr⟩
    · rw [if_neg hm] at h ⊢; exact hI.srcAt m h
  · intro m k x a b c d
    rw [setSrc_src] at a b c d
    by_cases hm : m = n
    · by_cases hk : k = n
      · omega
      · rw [if_neg hk] at b d; rw [if_pos hm] at c
        exact absurd d (hx k x (hI.srcAt k b).2.1 b c)
    · rw [if_neg hm] at a c
      by_cases hk : k = n
      · rw [if_pos hk] at d
        exact absurd c (hx m x (hI.srcAt m a).2.1 a d)
      · rw [if_neg hk] at b d; exact hI.apart m k x a b c d
theorem inv_sub {R : Room} (hI : Inv R) {n p : Nat} {x : Sub} (h : x.there = true → 1 ≤ n ∧ n < 9 ∧ 1 ≤ p ∧ p < 9 ∧ (R.src n).there = true ∧ R.names p ≠ [] ∧ (R.src n).own ≠ p ∧ 0 ≤ x.want ∧ x.want < (R.src n).ss.length) : Inv (R.setSub n p x) := by
  refine ⟨hI.none0, ?_, hI.srcAt, hI.apart, hI.nameAt, hI.keys⟩
  intro m q ht
  rw [setSub_sub] at ht ⊢
  by_cases h1 : m = n ∧ q = p
  · rw [if_pos h1] at ht ⊢
    rw [h1.1, h1.2]
    exact h ht
  · rw [if_neg h1] at ht ⊢; exact hI.subAt m q ht
theorem inv_muted {R : Room} (hI : Inv R) (n : Nat) (on : Bool) : Inv (R.setSrc n { R.src n with muted := on }) := by
  have key : ∀ m, ((R.setSrc n { R.src n with muted := on }).src m).there = (R.src m).there ∧ ((R.setSrc n { R.src n with muted := on }).src m).ss = (R.src m).ss ∧ ((R.setSrc n { R.src n with muted := on }).src m).own = (R.src m).own ∧ ((R.setSrc n { R.src n with muted := on }).src m).num = (R.src m).num := by
    intro m
    rw [setSrc_src]
    split
    · rename_i h; subst h; exact ⟨rfl, rfl, rfl, rfl⟩
    · exact ⟨rfl, rfl, rfl, rfl⟩
  refine ⟨⟨hI.none0.1, ?_⟩, ?_, ?_, ?_, hI.nameAt, hI.keys⟩
  · rw [(key 0).1]; exact hI.none0.2
  · intro m q h
    rw [(key m).1, (key m).2.1, (key m).2.2.1]
    exact hI.subAt m q h
  · intro m h
    rw [(key m).1] at h
    rw [(key m).2.1, (key m).2.2.1, (key m).2.2.2]
    exact hI.srcAt m h
  · intro m k x a b c d
    rw [(key m).1] at a; rw [(key k).1] at b; rw [(key m).2.1] at c; rw [(key k).2.1] at d
    exact hI.apart m k x a b c d
set_option maxHeartbeats 1000000 in
theorem inv_turns {R : Room} {o : Op} (hI : Inv R) (ok : Ok R o) (sv : Value) : Inv (turns R o sv).2 := by
  obtain ⟨kd, p, n, q, nm, ss⟩ := o
  obtain ⟨hk, hp, hj, ht, hs, hpub, his, habt⟩ := ok
  dsimp only at *
  obtain ⟨p, rfl⟩ := Int.eq_ofNat_of_zero_le (show 0 ≤ p by omega)
  by_cases k2 : kd = 2
  · subst k2
    obtain ⟨h1, h2, h3⟩ := join_ok (hj rfl)
    show Inv (R.setName p nm)
    refine inv_join hI (p := p) (by omega) ?_ h2 h3
    rw [Bool.eq_false_iff, ne_eq, joined_nat] at h1
    exact Classical.not_not.1 fun e => h1 ⟨by omega, by omega, e⟩
  have hjp := joined_nat.1 (ht k2)
  by_cases k3 : kd = 3
  · subst k3; show Inv (leave R p).2; exact inv_leave hI p
  obtain ⟨n, rfl⟩ := Int.eq_ofNat_of_zero_le (show 0 ≤ n by have := hs (by omega); omega)
  have hn := hs (by omega)
  by_cases k4 : kd = 4
  · subst k4
    obtain ⟨h1, h2, h3, h4, h5, h6⟩ := pub_ok (hpub rfl)
    show Inv (R.setSrc n ⟨true, n, p, sv, ss, false⟩)
    exact inv_publish hI (by omega) (ht k2) h4 h1 h2 h3 h5 h6
  have his := his (by omega)
  have his' : (R.src n).there = true := by rw [Int.toNat_natCast] at his; exact his
  have habt := habt (by omega)
  have hbase : (R.sub n p).there = true → 1 ≤ n ∧ n < 9 ∧ 1 ≤ p ∧ p < 9 ∧ (R.src n).there = true ∧ R.names p ≠ [] ∧ (R.src n).own ≠ p ∧ 0 ≤ (R.sub n p).want ∧ (R.sub n p).want < (R.src n).ss.length := hI.subAt n p
  by_cases k5 : kd = 5
  · subst k5; show Inv (gone R n).2; exact inv_gone hI n
  by_cases k6 : kd = 6
  · subst k6
    obtain ⟨h1, h2, h3⟩ := about_sub habt rfl
    have h4 := layer_ok h3
    show Inv (R.setSub n p ⟨true, false, q⟩)
    exact inv_sub hI fun _ => ⟨by omega, by omega, by omega, by omega, his', hjp.2.2, h1, h4.1, h4.2⟩
  by_cases k7 : kd = 7
  · subst k7; show Inv (R.setSub n p noSub); exact inv_end hI n p
  by_cases k8 : kd = 8
  · subst k8; show Inv (R.setSrc n { R.src n with muted := true }); exact inv_muted hI n true
  by_cases k9 : kd = 9
  · subst k9; show Inv (R.setSrc n { R.src n with muted := false }); exact inv_muted hI n false
  obtain ⟨h1, _, _, h4⟩ := about_hear habt (by right; show 10 ≤ kd; omega)
  have hb := hbase h1
  by_cases k10 : kd = 10
  · subst k10; show Inv (R.setSub n p { R.sub n p with paused := true }); exact inv_sub hI fun _ => hb
  by_cases k11 : kd = 11
  · subst k11; show Inv (R.setSub n p { R.sub n p with paused := false }); exact inv_sub hI fun _ => hb
  have k12 : kd = 12 := by omega
  subst k12
  have h5 := layer_ok (h4 rfl).1
  show Inv (R.setSub n p { R.sub n p with want := q })
  exact inv_sub hI fun _ => ⟨hb.1, hb.2.1, hb.2.2.1, hb.2.2.2.1, hb.2.2.2.2.1, hb.2.2.2.2.2.1, hb.2.2.2.2.2.2.1, h5.1, h5.2⟩
theorem inv_doo {R : Room} (hI : Inv R) (o : Op) (sv : Value) : Inv (doo R o sv).1.2 := by
  unfold doo
  by_cases h : wrong R o = 0
  · rw [if_neg (by simpa using h)]; exact inv_turns hI (wrong_ok h) sv
  · rw [if_pos h]; exact hI
theorem inv_goneOp {R : Room} (hI : Inv R) (p x : Int) : Inv (goneOp R p x).1.2 := by
  unfold goneOp
  split
  · exact hI
  · exact inv_gone hI _
end Go.Proofs.Rm
