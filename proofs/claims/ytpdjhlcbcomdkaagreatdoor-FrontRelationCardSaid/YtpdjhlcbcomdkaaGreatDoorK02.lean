/- Several texts in one: The plain room: an operation that may be done keeps what holds of every room. The plain room: the slice values beside the sources' lists of SSRCs change nothing. No program in sight. Frames and rows: which blocks a call may change; what a slice's cells are. Over any program. Bytes as a list, in memory and as numbers. No program in sight, but the type numbers of a row. Append to a slice of the call's own, whatever slice is appended (nil too); with whole rows of cells. Over any program. Slices of slices: what is cut off in front and behind, as rows of cells. Over any program. Slices of slices: a piece out of the middle, as a row of cells. Over any program. -/
import Derived.WalkKit
import Derived.Lib.Hide
import Derived.Laws.AppendOwn
import Derived.Laws.OwnMore
import Derived.Laws.BitsAllLaws
import Derived.Laws.AppendOwnNone
import Derived.OwnWalk
import Derived.Laws.Slices
import Derived.Test.YtpdjhlcbcomdkaaGreatDoorK01
namespace Go.Proofs.Rm
open Go.Proofs.Lab (may key)
structure Ok (R : Room) (o : Op) : Prop where
  kind : 2 ≤ o.kind ∧ o.kind ≤ 12
  peer : 1 ≤ o.peer ∧ o.peer < 9
  join : o.kind = 2 → joins R o = 0
  there : o.kind ≠ 2 → joined R o.peer = true
  src : 4 ≤ o.kind → 1 ≤ o.source ∧ o.source < 9
  pub : o.kind = 4 → publishes R o = 0
  is : 5 ≤ o.kind → (R.src o.source.toNat).there = true
  abt : 5 ≤ o.kind → about R o = 0
theorem inn_iff' (n k : Int) : inn n k = true ↔ 1 ≤ n ∧ n < k := by unfold inn; simp
theorem wrong_ok {R : Room} {o : Op} (h : wrong R o = 0) : Ok R o := by
  unfold wrong at h
  by_cases h1 : o.kind < 2 ∨ 12 < o.kind
  · rw [if_pos h1] at h; exact absurd h (by decide)
  rw [if_neg h1] at h
  by_cases h2 : inn o.peer 9 = true
  rotate_left
  · simp [h2] at h
  simp only [h2, Bool.not_true, Bool.false_eq_true, if_false] at h
  have hp := (inn_iff' _ _).1 h2
  by_cases h3 : o.kind = 2
  · rw [if_pos h3] at h
    exact ⟨by omega, hp, fun _ => h, fun e => absurd h3 e, by omega, by omega, by omega, by omega⟩
  rw [if_neg h3] at h
  by_cases h4 : joined R o.peer = true
  rotate_left
  · simp [h4] at h
  simp only [h4, Bool.not_true, Bool.false_eq_true, if_false] at h
  by_cases h5 : o.kind = 3
  · exact ⟨by omega, hp, by omega, fun _ => h4, by omega, by omega, by omega, by omega⟩
  rw [if_neg h5] at h
  by_cases h6 : inn o.source 9 = true
  rotate_left
  · simp [h6] at h
  simp only [h6, Bool.not_true, Bool.false_eq_true, if_false] at h
  have hs := (inn_iff' _ _).1 h6
  by_cases h7 : o.kind = 4
  · rw [if_pos h7] at h
    exact ⟨by omega, hp, by omega, fun _ => h4, fun _ => hs, fun _ => h, by omega, by omega⟩
  rw [if_neg h7] at h
  by_cases h8 : (R.src o.source.toNat).there = true
  rotate_left
  · simp [h8] at h
  simp only [h8, Bool.not_true, Bool.false_eq_true, if_false] at h
  exact ⟨by omega, hp, by omega, fun _ => h4, fun _ => hs, by omega, fun _ => h8, fun _ => h⟩
theorem layer_ok {R : Room} {o : Op} (h : layer R o = 0) : 0 ≤ o.layer ∧ o.layer < (R.src o.source.toNat).ss.length := by
  unfold layer at h
  by_cases h1 : o.layer < 0 ∨ ((R.src o.source.toNat).ss.length : Int) ≤ o.layer
  · rw [if_pos h1] at h; exact absurd h (by decide)
  · omega
theorem about_own {R : Room} {o : Op} (h : about R o = 0) (hk : o.kind = 5 ∨ o.kind = 8 ∨ o.kind = 9) : (R.src o.source.toNat).own = o.peer ∧ (o.kind = 8 → (R.src o.source.toNat).muted = false) ∧ (o.kind = 9 → (R.src o.source.toNat).muted = true) := by
  unfold about at h
  dsimp only at h
  rw [if_pos hk] at h
  by_cases h1 : (R.src o.source.toNat).own = o.peer
  rotate_left
  · rw [if_pos h1] at h; exact absurd h (by decide)
  rw [if_neg (by simpa using h1)] at h
  refine ⟨h1, ?_, ?_⟩
  · intro h8
    cases hm : (R.src o.source.toNat).muted
    · rfl
    · rw [if_pos ⟨h8, hm⟩] at h; exact absurd h (by decide)
  · intro h9
    rw [if_neg (by omega)] at h
    cases hm : (R.src o.source.toNat).muted
    · rw [if_pos ⟨h9, hm⟩] at h; exact absurd h (by decide)
    · rfl
theorem about_sub {R : Room} {o : Op} (h : about R o = 0) (hk : o.kind = 6) : (R.src o.source.toNat).own ≠ o.peer ∧ (R.sub o.source.toNat o.peer.toNat).there = false ∧ layer R o = 0 := by
  unfold about at h
  dsimp only at h
  rw [if_neg (by omega), if_pos hk] at h
  by_cases h1 : (R.src o.source.toNat).own = o.peer
  · rw [if_pos h1] at h; exact absurd h (by decide)
  rw [if_neg h1] at h
  cases ht : (R.sub o.source.toNat o.peer.toNat).there
  · rw [ht] at h; exact ⟨h1, rfl, h⟩
  · rw [ht] at h; simp at h
theorem about_hear {R : Room} {o : Op} (h : about R o = 0) (hk : o.kind = 7 ∨ 10 ≤ o.kind) :
    (R.sub o.source.toNat o.peer.toNat).there = true ∧ (o.kind = 10 → (R.sub o.source.toNat o.peer.toNat).paused = false) ∧ (o.kind = 11 → (R.sub o.source.toNat o.peer.toNat).paused = true) ∧ (o.kind = 12 → layer R o = 0 ∧ (R.sub o.source.toNat o.peer.toNat).want ≠ o.layer) := by
  unfold about at h
  dsimp only at h
  rw [if_neg (by omega), if_neg (by omega)] at h
  unfold heard at h
  dsimp only at h
  cases ht : (R.sub o.source.toNat o.peer.toNat).there
  · rw [ht] at h; simp at h
  rw [ht] at h
  simp only [Bool.not_true, Bool.false_eq_true, if_false] at h
  refine ⟨rfl, ?_, ?_, ?_⟩
  · intro h10
    cases hm : (R.sub o.source.toNat o.peer.toNat).paused
    · rfl
    · rw [if_pos ⟨h10, hm⟩] at h; exact absurd h (by decide)
  · intro h11
    rw [if_neg (by omega)] at h
    cases hm : (R.sub o.source.toNat o.peer.toNat).paused
    · rw [if_pos ⟨h11, hm⟩] at h; exact absurd h (by decide)
    · rfl
  · intro h12
    rw [if_neg (by omega), if_neg (by omega), if_neg (by omega)] at h
    by_cases hl : layer R o = 0
    · rw [if_neg (by omega)] at h
      refine ⟨hl, fun e => ?_⟩
      rw [if_pos e] at h; exact absurd h (by decide)
    · rw [if_pos hl] at h; exact absurd h hl
theorem index_mem (l : List Int) (x : Int) : 0 ≤ index l x ↔ x ∈ l := by
  unfold index
  cases h : l.findIdx? (fun y => y == x) with
  | none =>
    have := List.findIdx?_eq_none_iff.1 h
    constructor
    · intro h; exact absurd h (by decide)
    · intro hx; have := this x hx; simp at this
  | some i =>
    obtain ⟨hi, h1, _⟩ := List.findIdx?_eq_some_iff_getElem.1 h
    have h1 : l[i] = x := by simpa using h1
    exact ⟨fun _ => by rw [← h1]; exact List.getElem_mem hi, fun _ => Int.natCast_nonneg _⟩
theorem ofGo_none (R : Room) (x : Int) : ∀ k n, (ofGo R x k n).2.2 = false ↔ ∀ m, n ≤ m → m < n + k → (R.src m).there = true → x ∉ (R.src m).ss
  | 0, n => by simp [ofGo]; omega
  | k + 1, n => by
    unfold ofGo
    by_cases hc : ((R.src n).there && decide (0 ≤ index (R.src n).ss x)) = true
    · rw [if_pos hc]
      rw [Bool.and_eq_true, decide_eq_true_eq, index_mem] at hc
      constructor
      · intro h; cases h
      · intro h; exact absurd hc.2 (h n (Nat.le_refl _) (by omega) hc.1)
    · rw [if_neg hc, ofGo_none R x k (n + 1)]
      rw [Bool.and_eq_true, decide_eq_true_eq, index_mem] at hc
      constructor
      · intro h m h1 h2 h3 h4
        by_cases e : m = n
        · subst e; exact hc ⟨h3, h4⟩
        · exact h m (by omega) (by omega) h3 h4
      · intro h m h1 h2; exact h m (by omega) (by omega)
theorem of_none {R : Room} {x : Int} : (of R x).2.2 = false ↔ ∀ m, m < 9 → (R.src m).there = true → x ∉ (R.src m).ss := by
  unfold of
  rw [ofGo_none]
  exact ⟨fun h m hm => h m (Nat.zero_le _) (by omega), fun h m _ hm => h m (by omega)⟩
theorem ofGo_some (R : Room) (x : Int) : ∀ k n, (ofGo R x k n).2.2 = true → ∃ m : Nat, n ≤ m ∧ m < n + k ∧ (R.src m).there = true ∧ x ∈ (R.src m).ss ∧ ofGo R x k n = ((m : Int), index (R.src m).ss x, true)
  | 0, n, h => by simp [ofGo] at h
  | k + 1, n, h => by
    unfold ofGo at h ⊢
    by_cases hc : ((R.src n).there && decide (0 ≤ index (R.src n).ss x)) = true
    · rw [if_pos hc] at h ⊢
      rw [Bool.and_eq_true, decide_eq_true_eq, index_mem] at hc
      exact ⟨n, Nat.le_refl _, by omega, hc.1, hc.2, rfl⟩
    · rw [if_neg hc] at h ⊢
      obtain ⟨m, h1, h2, h3⟩ := ofGo_some R x k (n + 1) h
      exact ⟨m, by omega, by omega, h3⟩
theorem of_some {R : Room} {x : Int} (h : (of R x).2.2 = true) : ∃ m : Nat, m < 9 ∧ (R.src m).there = true ∧ x ∈ (R.src m).ss ∧ of R x = ((m : Int), index (R.src m).ss x, true) := by
  obtain ⟨m, _, h2, h3⟩ := ofGo_some R x 9 0 h
  exact ⟨m, by omega, h3⟩
theorem nodup_of_twice (l : List Int) (h : ∀ i, i < l.length → (l.take i).contains (l.getD i 0) = false) : l.Nodup := by
  unfold List.Nodup
  rw [List.pairwise_iff_getElem]
  intro i j hi hj hij e
  have := h j hj
  rw [List.getD_eq_getElem?_getD, List.getElem?_eq_getElem hj, Option.getD_some] at this
  rw [← e] at this
  have hm : l[i] ∈ l.take j := by
    rw [List.mem_iff_getElem]
    exact ⟨i, by rw [List.length_take]; omega, by rw [List.getElem_take]⟩
  rw [List.contains_iff_mem.2 hm] at this
  cases this
theorem pub_ok {R : Room} {o : Op} (h : publishes R o = 0) : 1 ≤ o.ssrcs.length ∧ o.ssrcs.length ≤ 3 ∧ (∀ s ∈ o.ssrcs, 2 ≤ s ∧ s < 3221225472) ∧ (R.src o.source.toNat).there = false ∧ o.ssrcs.Nodup ∧ ∀ m x, m < 9 → (R.src m).there = true → x ∈ o.ssrcs → x ∉ (R.src m).ss := by
  unfold publishes at h
  by_cases h1 : o.ssrcs.length < 1 ∨ 3 < o.ssrcs.length
  · rw [if_pos h1] at h; exact absurd h (by decide)
  rw [if_neg h1] at h
  by_cases h2 : o.ssrcs.any (fun s => decide (s < 2) || decide (3221225472 ≤ s)) = true
  · rw [if_pos h2] at h; exact absurd h (by decide)
  rw [if_neg h2] at h
  by_cases h3 : (R.src o.source.toNat).there = true
  · rw [if_pos h3] at h; exact absurd h (by decide)
  rw [if_neg h3] at h
  by_cases h4 : (List.range o.ssrcs.length).any (twice R o.ssrcs) = true
  · rw [if_pos h4] at h; exact absurd h (by decide)
  have h5 : ∀ i, i < o.ssrcs.length → (of R (o.ssrcs.getD i 0)).2.2 = false ∧ (o.ssrcs.take i).contains (o.ssrcs.getD i 0) = false := by
    intro i hi
    have : ¬ twice R o.ssrcs i = true := fun e => h4 (List.any_eq_true.2 ⟨i, by simpa using hi, e⟩)
    unfold twice at this
    rw [Bool.or_eq_true] at this
    exact ⟨Bool.eq_false_iff.2 fun e => this (Or.inl e), Bool.eq_false_iff.2 fun e => this (Or.inr e)⟩
  refine ⟨by omega, by omega, ?_, by simpa using h3, nodup_of_twice _ fun i hi => (h5 i hi).2, ?_⟩
  · intro s hs
    have : ¬ (decide (s < 2) || decide (3221225472 ≤ s)) = true := fun e => h2 (List.any_eq_true.2 ⟨s, hs, e⟩)
    simp at this; omega
  · intro m x hm ht hx
    obtain ⟨i, hi, rfl⟩ := List.getElem_of_mem hx
    have := (h5 i hi).1
    rw [List.getD_eq_getElem?_getD, List.getElem?_eq_getElem hi, Option.getD_some, of_none] at this
    exact this m hm ht
theorem join_ok {R : Room} {o : Op} (h : joins R o = 0) : joined R o.peer = false ∧ may o.name = true ∧ ∀ q, q < 9 → R.names q ≠ [] → key (R.names q) ≠ key o.name := by
  unfold joins at h
  cases h1 : joined R o.peer
  rotate_left
  · rw [h1] at h; simp at h
  rw [h1] at h
  cases h2 : may o.name
  · rw [h2] at h; simp at h
  rw [h2] at h
  simp only [Bool.false_eq_true, if_false, Bool.not_true] at h
  by_cases h3 : (List.range 9).any (sameKey R o) = true
  · rw [if_pos h3] at h; exact absurd h (by decide)
  refine ⟨rfl, rfl, fun q hq hn e => h3 (List.any_eq_true.2 ⟨q, by simpa using hq, ?_⟩)⟩
  unfold sameKey
  simp [hn, e]
theorem may_ne {l : List UInt8} (h : may l = true) : l ≠ [] := by rintro rfl; cases h
theorem inv_empty : Inv empty := by
  refine ⟨⟨rfl, rfl⟩, ?_, ?_, ?_, ?_, ?_⟩
  · intro n p h; cases h
  · intro n h; cases h
  · intro n m x h; cases h
  · intro p h; exact absurd rfl h
  · intro p q h; exact absurd rfl h
theorem inv_join {R : Room} (hI : Inv R) {p : Nat} {nm : List UInt8} (hp : 1 ≤ p ∧ p < 9) (h0 : R.names p = []) (hm : may nm = true) (hk : ∀ q, q < 9 → R.names q ≠ [] → key (R.names q) ≠ key nm) : Inv (R.setName p nm) := by
  have hjoin : ∀ q, joined R q = true → joined (R.setName p nm) q = true := by
    intro q h
    unfold joined at h ⊢
    rw [Bool.and_eq_true] at h ⊢
    refine ⟨h.1, ?_⟩
    rw [setName_names]
    split
    · have := may_ne hm
      simp [this]
    · exact h.2
  refine ⟨⟨?_, hI.none0.2⟩, ?_, ?_, hI.apart, ?_, ?_⟩
  · rw [setName_names, if_neg (by omega)]; exact hI.none0.1
  · intro n q h
    have := hI.subAt n q h
    have hq : q ≠ p := by rintro rfl; exact this.2.2.2.2.2.1 h0
    rw [setName_names, if_neg hq]
    exact this
  · intro n h
    obtain ⟨h1, h2, h3, h4, h5⟩ := hI.srcAt n h
    exact ⟨h1, h2, h3, hjoin _ h4, h5⟩
  · intro q h
    rw [setName_names] at h ⊢
    by_cases hq : q = p
    · rw [if_pos hq]; exact ⟨by omega, hm⟩
    · rw [if_neg hq] at h ⊢; exact hI.nameAt q h
  · intro q r h e
    rw [setName_names] at h
    rw [setName_names, setName_names] at e
    by_cases hq : q = p
    · rw [if_pos hq] at e
      by_cases hr : r = p
      · omega
      · rw [if_neg hr] at e
        by_cases hn : R.names r = []
        · rw [hn] at e; exact absurd e (key_ne_nil hm)
        · exact absurd e.symm (hk r (hI.nameAt r hn).1 hn)
    · rw [if_neg hq] at h e
      by_cases hr : r = p
      · rw [if_pos hr] at e
        exact absurd e (hk q (hI.nameAt q h).1 h)
      · rw [if_neg hr] at e; exact hI.keys q r h e
theorem inv_publish {R : Room} (hI : Inv R) {n p : Nat} {sv : Value} {ss : List Int} (hn : 1 ≤ n ∧ n < 9) (hp : joined R p = true) (h0 : (R.src n).there = false) (h1 : 1 ≤ ss.length) (h3 : ss.length ≤ 3) (hr : ∀ s ∈ ss, 2 ≤ s ∧ s < 3221225472) (hd : ss.Nodup) (hx : ∀ m x, m < 9 → (R.src m).there = true → x ∈ ss → x ∉ (R.src m).ss) :
    Inv (R.setSrc n ⟨true, n, p, sv, ss, false⟩) := by
  refine ⟨⟨hI.none0.1, ?_⟩, ?_, ?_, ?_, hI.nameAt, hI.keys⟩
  · rw [setSrc_src, if_neg (by omega)]; exact hI.none0.2
  · intro m q h
    have := hI.subAt m q h
    have hm : m ≠ n := by rintro rfl; rw [h0] at this; exact absurd this.2.2.2.2.1 (by decide)
    rw [setSrc_src, if_neg hm]
    exact this
  · intro m h
    rw [setSrc_src] at h ⊢
    by_cases hm : m = n
    · rw [if_pos hm]
      exact ⟨by omega, by omega, by rw [hm], hp, h1, h3, hd, hr⟩
    · rw [if_neg hm] at h ⊢; exact hI.srcAt m h
  · intro m k x a b c d
    rw [setSrc_src] at a b c d
    by_cases hm : m = n
    · by_cases hk : k = n
      · omega
      · rw [if_neg hk] at b d; rw [if_pos hm] at c
        exact absurd d (hx k x (hI.srcAt k b).2.1 b c)
    · rw [if_neg hm] at a c
      by_cases hk : k = n
      · rw [if_pos hk] at d
        exact absurd c (hx m x (hI.srcAt m a).2.1 a d)
      · rw [if_neg hk] at b d; exact hI.apart m k x a b c d
theorem inv_sub {R : Room} (hI : Inv R) {n p : Nat} {x : Sub} (h : x.there = true → 1 ≤ n ∧ n < 9 ∧ 1 ≤ p ∧ p < 9 ∧ (R.src n).there = true ∧ R.names p ≠ [] ∧ (R.src n).own ≠ p ∧ 0 ≤ x.want ∧ x.want < (R.src n).ss.length) : Inv (R.setSub n p x) := by
  refine ⟨hI.none0, ?_, hI.srcAt, hI.apart, hI.nameAt, hI.keys⟩
  intro m q ht
  rw [setSub_sub] at ht ⊢
  by_cases h1 : m = n ∧ q = p
  · rw [if_pos h1] at ht ⊢
    rw [h1.1, h1.2]
    exact h ht
  · rw [if_neg h1] at ht ⊢; exact hI.subAt m q ht
theorem inv_muted {R : Room} (hI : Inv R) (n : Nat) (on : Bool) : Inv (R.setSrc n { R.src n with muted := on }) := by
  have key : ∀ m, ((R.setSrc n { R.src n with muted := on }).src m).there = (R.src m).there ∧ ((R.setSrc n { R.src n with muted := on }).src m).ss = (R.src m).ss ∧ ((R.setSrc n { R.src n with muted := on }).src m).own = (R.src m).own ∧ ((R.setSrc n { R.src n with muted := on }).src m).num = (R.src m).num := by
    intro m
    rw [setSrc_src]
    split
    · rename_i h; subst h; exact ⟨rfl, rfl, rfl, rfl⟩
    · exact ⟨rfl, rfl, rfl, rfl⟩
  refine ⟨⟨hI.none0.1, ?_⟩, ?_, ?_, ?_, hI.nameAt, hI.keys⟩
  · rw [(key 0).1]; exact hI.none0.2
  · intro m q h
    rw [(key m).1, (key m).2.1, (key m).2.2.1]
    exact hI.subAt m q h
  · intro m h
    rw [(key m).1] at h
    rw [(key m).2.1, (key m).2.2.1, (key m).2.2.2]
    exact hI.srcAt m h
  · intro m k x a b c d
    rw [(key m).1] at a; rw [(key k).1] at b; rw [(key m).2.1] at c; rw [(key k).2.1] at d
    exact hI.apart m k x a b c d
set_option maxHeartbeats 1000000 in
theorem inv_turns {R : Room} {o : Op} (hI : Inv R) (ok : Ok R o) (sv : Value) : Inv (turns R o sv).2 := by
  obtain ⟨kd, p, n, q, nm, ss⟩ := o
  obtain ⟨hk, hp, hj, ht, hs, hpub, his, habt⟩ := ok
  dsimp only at *
  obtain ⟨p, rfl⟩ := Int.eq_ofNat_of_zero_le (show 0 ≤ p by omega)
  by_cases k2 : kd = 2
  · subst k2
    obtain ⟨h1, h2, h3⟩ := join_ok (hj rfl)
    show Inv (R.setName p nm)
    refine inv_join hI (p := p) (by omega) ?_ h2 h3
    rw [Bool.eq_false_iff, ne_eq, joined_nat] at h1
    exact Classical.not_not.1 fun e => h1 ⟨by omega, by omega, e⟩
  have hjp := joined_nat.1 (ht k2)
  by_cases k3 : kd = 3
  · subst k3; show Inv (leave R p).2; exact inv_leave hI p
  obtain ⟨n, rfl⟩ := Int.eq_ofNat_of_zero_le (show 0 ≤ n by have := hs (by omega); omega)
  have hn := hs (by omega)
  by_cases k4 : kd = 4
  · subst k4
    obtain ⟨h1, h2, h3, h4, h5, h6⟩ := pub_ok (hpub rfl)
    show Inv (R.setSrc n ⟨true, n, p, sv, ss, false⟩)
    exact inv_publish hI (by omega) (ht k2) h4 h1 h2 h3 h5 h6
  have his := his (by omega)
  have his' : (R.src n).there = true := by rw [Int.toNat_natCast] at his; exact his
  have habt := habt (by omega)
  have hbase : (R.sub n p).there = true → 1 ≤ n ∧ n < 9 ∧ 1 ≤ p ∧ p < 9 ∧ (R.src n).there = true ∧ R.names p ≠ [] ∧ (R.src n).own ≠ p ∧ 0 ≤ (R.sub n p).want ∧ (R.sub n p).want < (R.src n).ss.length := hI.subAt n p
  by_cases k5 : kd = 5
  · subst k5; show Inv (gone R n).2; exact inv_gone hI n
  by_cases k6 : kd = 6
  · subst k6
    obtain ⟨h1, h2, h3⟩ := about_sub habt rfl
    have h4 := layer_ok h3
    show Inv (R.setSub n p ⟨true, false, q⟩)
    exact inv_sub hI fun _ => ⟨by omega, by omega, by omega, by omega, his', hjp.2.2, h1, h4.1, h4.2⟩
  by_cases k7 : kd = 7
  · subst k7; show Inv (R.setSub n p noSub); exact inv_end hI n p
  by_cases k8 : kd = 8
  · subst k8; show Inv (R.setSrc n { R.src n with muted := true }); exact inv_muted hI n true
  by_cases k9 : kd = 9
  · subst k9; show Inv (R.setSrc n { R.src n with muted := false }); exact inv_muted hI n false
  obtain ⟨h1, _, _, h4⟩ := about_hear habt (by right; show 10 ≤ kd; omega)
  have hb := hbase h1
  by_cases k10 : kd = 10
  · subst k10; show Inv (R.setSub n p { R.sub n p with paused := true }); exact inv_sub hI fun _ => hb
  by_cases k11 : kd = 11
  · subst k11; show Inv (R.setSub n p { R.sub n p with paused := false }); exact inv_sub hI fun _ => hb
  have k12 : kd = 12 := by omega
  subst k12
  have h5 := layer_ok (h4 rfl).1
  show Inv (R.setSub n p { R.sub n p with want := q })
  exact inv_sub hI fun _ => ⟨hb.1, hb.2.1, hb.2.2.1, hb.2.2.2.1, hb.2.2.2.2.1, hb.2.2.2.2.2.1, hb.2.2.2.2.2.2.1, h5.1, h5.2⟩
theorem inv_doo {R : Room} (hI : Inv R) (o : Op) (sv : Value) : Inv (doo R o sv).1.2 := by
  unfold doo
  by_cases h : wrong R o = 0
  · rw [if_neg (by simpa using h)]; exact inv_turns hI (wrong_ok h) sv
  · rw [if_pos h]; exact hI
theorem inv_goneOp {R : Room} (hI : Inv R) (p x : Int) : Inv (goneOp R p x).1.2 := by
  unfold goneOp
  split
  · exact hI
  · exact inv_gone hI _
end Go.Proofs.Rm
namespace Go.Proofs.Rm
open Go.Proofs.Lab (may key)
def Src.bare (s : Src) : Src := { s with sv := .slice none 0 0 }
def Room.bare (R : Room) : Room := ⟨R.names, fun n => (R.src n).bare, R.sub⟩
theorem ofGo_bare (R : Room) (x : Int) : ∀ k n, ofGo R.bare x k n = ofGo R x k n
  | 0, _ => rfl
  | k + 1, n => by
    show (if (R.src n).there && decide (0 ≤ index (R.src n).ss x) then ((n : Int), index (R.src n).ss x, true) else ofGo R.bare x k (n + 1)) = _
    rw [ofGo_bare R x k (n + 1)]
    rfl
theorem of_bare (R : Room) (x : Int) : of R.bare x = of R x := ofGo_bare R x 9 0
theorem twice_bare (R : Room) (l : List Int) : twice R.bare l = twice R l := by
  funext i
  unfold twice
  rw [of_bare]
theorem publishes_bare (R : Room) (o : Op) : publishes R.bare o = publishes R o := by
  unfold publishes
  rw [twice_bare]
  rfl
theorem wrong_bare (R : Room) (o : Op) : wrong R.bare o = wrong R o := by
  unfold wrong
  rw [publishes_bare]
  rfl
theorem bare_setSrc (R : Room) (n : Nat) (x : Src) : (R.setSrc n x).bare = R.bare.setSrc n x.bare := by
  unfold Room.setSrc Room.bare
  congr 1
  funext m
  dsimp only
  split <;> rfl
theorem goneGo_bare (n : Nat) : ∀ l R, goneGo n l R.bare = ((goneGo n l R).1, (goneGo n l R).2.bare)
  | [], R => rfl
  | p :: l, R => by
    have ih := goneGo_bare n l (R.setSub n p noSub)
    show ((⟨3, p, n, 0, 0⟩ : Turn) :: ⟨2, p, n, 0, 0⟩ :: (goneGo n l (R.setSub n p noSub).bare).1, (goneGo n l (R.setSub n p noSub).bare).2) = _
    rw [ih]
    rfl
theorem gone_bare (R : Room) (n : Nat) : gone R.bare n = ((gone R n).1, (gone R n).2.bare) := by
  unfold gone
  dsimp only
  rw [show subs R.bare n = subs R n from rfl, goneGo_bare, bare_setSrc]
  rfl
theorem leave1_bare (p : Nat) (R : Room) : ∀ k, leave1 p R.bare k = ((leave1 p R k).1, (leave1 p R k).2.bare)
  | 0 => rfl
  | k + 1 => by
    have ih := leave1_bare p R k
    unfold leave1
    dsimp only
    rw [ih]
    dsimp only
    show (if ((leave1 p R k).2.sub k p).there = true then _ else _) = _
    split <;> rfl
theorem leave2_bare (R : Room) (p : Nat) : ∀ k, leave2 R.bare p k = ((leave2 R p k).1, (leave2 R p k).2.bare)
  | 0 => rfl
  | k + 1 => by
    have ih := leave2_bare R p k
    unfold leave2
    dsimp only
    rw [ih]
    dsimp only
    rw [gone_bare]
    show (if ((R.src k).there && decide ((R.src k).own = p)) = true then _ else _) = _
    split <;> rfl
theorem leave_bare (R : Room) (p : Nat) : leave R.bare p = ((leave R p).1, (leave R p).2.bare) := by
  unfold leave
  rw [leave1_bare, leave2_bare]
  rfl
theorem begin_bare (R : Room) (o : Op) : begin R.bare o = ((begin R o).1, (begin R o).2.bare) := rfl
theorem mute_bare (R : Room) (n : Nat) (on : Bool) : mute R.bare n on = ((mute R n on).1, (mute R n on).2.bare) := by
  have h : R.bare.setSrc n { R.bare.src n with muted := on } = (R.setSrc n { R.src n with muted := on }).bare := by rw [bare_setSrc]; rfl
  unfold mute
  dsimp only
  rw [h]
  rfl
theorem turns_bare (R : Room) (o : Op) (sv sv' : Value) : (turns R.bare o sv').1 = (turns R o sv).1 ∧ (turns R.bare o sv').2.bare = (turns R o sv).2.bare := by
  have bb : ∀ Q : Room, Q.bare.bare = Q.bare := fun _ => rfl
  unfold turns
  dsimp only
  by_cases k2 : o.kind = 2
  · rw [if_pos k2, if_pos k2]; exact ⟨rfl, rfl⟩
  rw [if_neg k2, if_neg k2]
  by_cases k3 : o.kind = 3
  · rw [if_pos k3, if_pos k3, leave_bare]; exact ⟨rfl, rfl⟩
  rw [if_neg k3, if_neg k3]
  by_cases k4 : o.kind = 4
  · rw [if_pos k4, if_pos k4]; exact ⟨rfl, by rw [bare_setSrc, bare_setSrc]; rfl⟩
  rw [if_neg k4, if_neg k4]
  by_cases k5 : o.kind = 5
  · rw [if_pos k5, if_pos k5, gone_bare]; exact ⟨rfl, rfl⟩
  rw [if_neg k5, if_neg k5]
  by_cases k6 : o.kind = 6
  · rw [if_pos k6, if_pos k6, begin_bare]; exact ⟨rfl, rfl⟩
  rw [if_neg k6, if_neg k6]
  by_cases k7 : o.kind = 7
  · rw [if_pos k7, if_pos k7]; exact ⟨rfl, rfl⟩
  rw [if_neg k7, if_neg k7]
  by_cases k8 : o.kind = 8
  · rw [if_pos k8, if_pos k8, mute_bare]; exact ⟨rfl, rfl⟩
  rw [if_neg k8, if_neg k8]
  by_cases k9 : o.kind = 9
  · rw [if_pos k9, if_pos k9, mute_bare]; exact ⟨rfl, rfl⟩
  rw [if_neg k9, if_neg k9]
  by_cases k10 : o.kind = 10
  · rw [if_pos k10, if_pos k10]; exact ⟨rfl, rfl⟩
  rw [if_neg k10, if_neg k10]
  by_cases k11 : o.kind = 11
  · rw [if_pos k11, if_pos k11]; exact ⟨rfl, rfl⟩
  rw [if_neg k11, if_neg k11]
  by_cases k12 : o.kind = 12
  · rw [if_pos k12, if_pos k12]; exact ⟨rfl, rfl⟩
  rw [if_neg k12, if_neg k12]
  exact ⟨rfl, rfl⟩
theorem doo_bare (R : Room) (o : Op) (sv sv' : Value) : (doo R.bare o sv').1.1 = (doo R o sv).1.1 ∧ (doo R.bare o sv').2 = (doo R o sv).2 ∧ (doo R.bare o sv').1.2.bare = (doo R o sv).1.2.bare := by
  unfold doo
  rw [wrong_bare]
  by_cases h : wrong R o = 0
  · rw [if_neg (by simpa using h), if_neg (by simpa using h)]
    obtain ⟨h1, h2⟩ := turns_bare R o sv sv'
    exact ⟨h1, rfl, h2⟩
  · rw [if_pos h, if_pos h]
    exact ⟨rfl, rfl, rfl⟩
theorem doo_eqv {R R' : Room} (h : R.bare = R'.bare) (o : Op) (sv sv' : Value) : (doo R o sv).1.1 = (doo R' o sv').1.1 ∧ (doo R o sv).2 = (doo R' o sv').2 ∧ (doo R o sv).1.2.bare = (doo R' o sv').1.2.bare := by
  obtain ⟨a, b, c⟩ := doo_bare R o sv sv'
  obtain ⟨d, e, f⟩ := doo_bare R' o sv' sv'
  rw [h] at a b c
  exact ⟨a.symm.trans d, b.symm.trans e, c.symm.trans f⟩
theorem gone_eqv {R R' : Room} (h : R.bare = R'.bare) (n : Nat) : (gone R n).1 = (gone R' n).1 ∧ (gone R n).2.bare = (gone R' n).2.bare := by
  have a := gone_bare R n
  have b := gone_bare R' n
  rw [h] at a
  have := a.symm.trans b
  rw [Prod.mk.injEq] at this
  exact this
/-- A farewell with an SSRC of a source does what its owner does who unpublishes it. -/
theorem goneOp_doo {R : Room} (hI : Inv R) {p x : Int} (h1 : (of R x).2.2 = true) (h2 : (R.src (of R x).1.toNat).own = p) (sv : Value) : goneOp R p x = (gone R (of R x).1.toNat, 0) ∧ doo R ⟨5, p, (of R x).1, 0, [], []⟩ sv = (gone R (of R x).1.toNat, 0) := by
  obtain ⟨m, hm, ht, _, ho⟩ := of_some h1
  have hn : (of R x).1.toNat = m := by rw [ho]; rfl
  have hI' := hI.srcAt m ht
  rw [hn] at h2 ⊢
  have hj : joined R p = true := by rw [← h2]; exact hI'.2.2.2.1
  constructor
  · unfold goneOp
    rw [hn, h1, hj, h2]
    simp
  · have hw : wrong R ⟨5, p, (of R x).1, 0, [], []⟩ = 0 := by
      have hjj := hj
      unfold joined at hjj
      rw [Bool.and_eq_true] at hjj
      have hi : inn ((of R x).1) 9 = true := by rw [ho]; exact inn_nat.2 ⟨hI'.1, by omega⟩
      unfold wrong
      rw [if_neg (by dsimp only; omega)]
      dsimp only
      rw [hjj.1, hj, hi, hn, ht]
      unfold about
      dsimp only
      rw [hn, h2]
      simp
    unfold doo
    rw [hw, if_neg (by simp)]
    show (gone R (of R x).1.toNat, (0 : Int)) = _
    rw [hn]
theorem goneOp_none {R : Room} {p x : Int} (h : (of R x).2.2 = false ∨ (R.src (of R x).1.toNat).own ≠ p) : goneOp R p x = (([], R), 8) := by
  unfold goneOp
  rcases h with h | h
  · rw [h]; simp
  · simp [h]
end Go.Proofs.Rm
namespace Go.Proofs.Heap
open Go.RowKit
/-- Below block number B, but for the blocks of S, the world is as it was. -/
structure Fr (B : Nat) (S : Nat → Prop) (w w' : World) : Prop where
  os : w'.os = w.os
  tape : w'.tape = w.tape
  output : w'.output = w.output
  size : w.heap.size ≤ w'.heap.size
  block : ∀ k, k < B → ¬ S k → w'.heap[k]? = w.heap[k]?
def NoB : Nat → Prop := fun _ => False
theorem Fr.of_below {B : Nat} {w w' : World} (S : Nat → Prop) (h : Below B w w') : Fr B S w w' := ⟨h.os, h.tape, h.output, h.size, fun k hk _ => h.block k hk⟩
theorem Fr.below {B : Nat} {w w' : World} (h : Fr B NoB w w') : Below B w w' := ⟨h.os, h.tape, h.output, h.size, fun k hk => h.block k hk (fun x => x)⟩
theorem Fr.refl (B : Nat) (S : Nat → Prop) (w : World) : Fr B S w w := ⟨rfl, rfl, rfl, Nat.le_refl _, fun _ _ _ => rfl⟩
theorem Fr.trans {B : Nat} {S : Nat → Prop} {a b c : World} (h : Fr B S a b) (k : Fr B S b c) : Fr B S a c :=
  ⟨k.os.trans h.os, k.tape.trans h.tape, k.output.trans h.output, Nat.le_trans h.size k.size, fun i hi hs => (k.block i hi hs).trans (h.block i hi hs)⟩
theorem Fr.mono {B B' : Nat} {S S' : Nat → Prop} {w w' : World} (h : Fr B S w w') (hB : B' ≤ B) (hS : ∀ k, k < B' → S k → S' k) : Fr B' S' w w' :=
  ⟨h.os, h.tape, h.output, h.size, fun k hk hs => h.block k (Nat.lt_of_lt_of_le hk hB) (fun x => hs (hS k hk x))⟩
theorem Fr.drew {B : Nat} {S : Nat → Prop} {a w : World} (h : Fr B S a w) : Fr B S a w.drew := ⟨h.os, h.tape, h.output, h.size, h.block⟩
theorem Fr.alloc {B : Nat} {S : Nat → Prop} {a w : World} (h : Fr B S a w) (hB : B ≤ w.heap.size) (o : Obj) : Fr B S a (w.alloc o) :=
  h.trans ⟨rfl, rfl, rfl, by simp, fun k hk _ => Below.heap_alloc _ _ _ (by omega)⟩
theorem Fr.setCell {B : Nat} {S : Nat → Prop} {a w : World} (h : Fr B S a w) {p : Addr} (hp : B ≤ p.block ∨ S p.block) (u : Value) : Fr B S a (w.setCell p u) :=
  h.trans ⟨rfl, rfl, rfl, by simp [World.setCell], fun k hk hs => Below.heap_setCell _ _ _ _ (fun e => by subst e; rcases hp with h | h; omega; exact hs h)⟩
theorem Fr.grown {B : Nat} {S : Nat → Prop} {a w w' : World} {row : Option Nat} (h : Fr B S a w) (hg : w.grownBy w' row) (hB : B ≤ w.heap.size) (hr : ∀ k, row = some k → B ≤ k) : Fr B S a w' :=
  h.trans ⟨hg.os, hg.tape, hg.output, hg.size, fun k hk _ => hg.block k (by omega) (fun e => by have := hr k e.symm; omega)⟩
theorem Fr.cell {B : Nat} {S : Nat → Prop} {w w' : World} (h : Fr B S w w') {p : Addr} (hp : p.block < B) (hs : ¬ S p.block) : w'.cell? p = w.cell? p := World.cell?_of_block (w := w) (h.block p.block hp hs)
theorem Fr.frozen {B : Nat} {S : Nat → Prop} {w w' : World} (h : Fr B S w w') {p : Addr} (hp : p.block < B) (hs : ¬ S p.block) : w'.frozen? p = w.frozen? p := World.frozen?_of_block (w := w) (h.block p.block hp hs)
/-- The two rules that a walk uses behind a call. -/
theorem Fr.rules {W w1 : World} {S : Nat → Prop} (h : Fr W.heap.size S W w1) : (∀ b o, b < W.heap.size → ¬ S b → w1.cell? ⟨b, o, none⟩ = W.cell? ⟨b, o, none⟩) ∧ (∀ b o, b < W.heap.size → ¬ S b → w1.frozen? ⟨b, o, none⟩ = W.frozen? ⟨b, o, none⟩) :=
  ⟨fun b o h1 h2 => h.cell (p := ⟨b, o, none⟩) h1 h2, fun b o h1 h2 => h.frozen (p := ⟨b, o, none⟩) h1 h2⟩
theorem bcell {W w1 : World} (hb : Below W.heap.size W w1) : (∀ b o, b < W.heap.size → w1.cell? ⟨b, o, none⟩ = W.cell? ⟨b, o, none⟩) ∧ (∀ b o, b < W.heap.size → w1.frozen? ⟨b, o, none⟩ = W.frozen? ⟨b, o, none⟩) :=
  ⟨fun b o h => hb.cell (p := ⟨b, o, none⟩) h, fun b o h => hb.frozen (p := ⟨b, o, none⟩) h⟩
theorem Fr.setAt {B b : Nat} {a w : World} (h : Fr B (· = b) a w) (o : Nat) (u : Value) : Fr B (· = b) a (w.setCell ⟨b, o, none⟩ u) := h.setCell (p := ⟨b, o, none⟩) (Or.inr rfl) u
theorem below_alloc (w : World) (o : Obj) : Below w.heap.size w (w.alloc o) := (Below.refl _ _).alloc (Nat.le_refl _) _
theorem size_setCell (w : World) (a : Addr) (v : Value) : (w.setCell a v).heap.size = w.heap.size := by simp [World.setCell]
theorem size_alloc (w : World) (o : Obj) : (w.alloc o).heap.size = w.heap.size + 1 := by simp
/-- A slice value of n elements of type e, whose cells are xs. -/
def Row (w : World) (e : TypeId) (v : Value) (n : Nat) (xs : List Value) : Prop :=
  ∃ a cap, v = .slice a n cap ∧ n ≤ cap ∧ cap ≤ maxLen ∧ (a = none → n = 0 ∧ cap = 0) ∧ (xs = [] ∨ ∃ b off c fr, a = some ⟨b, off, none⟩ ∧ w.heap[b]? = some (.cells c e fr) ∧ ∀ j, j < xs.length → c[off + j]? = xs[j]?)
theorem Row.fr {B : Nat} {S : Nat → Prop} {w w' : World} {e : TypeId} {v : Value} {n : Nat} {xs : List Value} (h : Row w e v n xs) (hf : Fr B S w w') (hB : w.heap.size ≤ B) (hS : ∀ k c fr, S k → w.heap[k]? ≠ some (.cells c e fr)) : Row w' e v n xs := by
  obtain ⟨a, cap, hv, h1, h2, h0, h3⟩ := h
  refine ⟨a, cap, hv, h1, h2, h0, ?_⟩
  rcases h3 with h3 | ⟨b, off, c, fr, ha, hb, hc⟩
  · exact Or.inl h3
  · have hlt : b < w.heap.size := by
      rcases Nat.lt_or_ge b w.heap.size with h | h
      · exact h
      · rw [Array.getElem?_eq_none h] at hb; cases hb
    exact Or.inr ⟨b, off, c, fr, ha, by rw [hf.block b (by omega) (fun hs => hS b c fr hs hb)]; exact hb, hc⟩
theorem Row.below {w w' : World} {e : TypeId} {v : Value} {n : Nat} {xs : List Value} (h : Row w e v n xs) (hb : Below w.heap.size w w') : Row w' e v n xs :=
  h.fr (Fr.of_below NoB hb) (Nat.le_refl _) (fun _ _ _ h => h.elim)
theorem Row.setCell {w : World} {e : TypeId} {v : Value} {n : Nat} {xs : List Value} (h : Row w e v n xs) {p : Addr} {c : Array Value} {e2 : TypeId} {f : Nat × Nat} (hp : w.heap[p.block]? = some (.cells c e2 f)) (hne : e ≠ e2) (u : Value) : Row (w.setCell p u) e v n xs :=
  h.fr ((Fr.refl w.heap.size (· = p.block) w).setCell (Or.inr rfl) u) (Nat.le_refl _) (fun k c' fr hk he => by subst hk; rw [hp] at he; injection he with he; injection he with _ he _; exact hne he.symm)
theorem heap_new (w : World) (o : Obj) : (w.alloc o).heap[w.heap.size]? = some o := by show (w.heap.push o)[w.heap.size]? = _; simp
theorem two_new (w : World) (A B : Obj) : ((w.alloc A).alloc B).heap[w.heap.size]? = some A ∧ ((w.alloc A).alloc B).heap[w.heap.size + 1]? = some B := by
  constructor
  · rw [Below.heap_alloc _ _ _ (by simp)]; exact heap_new w A
  · have := heap_new (w.alloc A) B
    rwa [World.size_alloc] at this
theorem cells_ne {c c' : Array Value} {e e' : TypeId} {f f' : Nat × Nat} (h : e ≠ e') : some (Obj.cells c e f) ≠ some (Obj.cells c' e' f') := by
  intro he; injection he with he; injection he with _ he _; exact h he
theorem Row.nil (w : World) (e : TypeId) : Row w e (.slice none 0 0) 0 [] := ⟨none, 0, rfl, Nat.le_refl _, Nat.zero_le _, fun _ => ⟨rfl, rfl⟩, Or.inl rfl⟩
theorem Row.of_owns {w : World} {base : Nat} {e : TypeId} {size : Nat} {v : Value} {n : Nat} {xs : List Value} (h : w.ownsRow base e size v n xs) : Row w e v n xs := by
  obtain ⟨hl, h⟩ := h
  rcases h with ⟨hv, hn⟩ | ⟨g, cap, cur, hv, _, hh, h1, h2, h3, h4⟩
  · subst hn
    have : xs = [] := List.eq_nil_of_length_eq_zero (by omega)
    subst this
    exact ⟨none, 0, hv, Nat.le_refl _, Nat.zero_le _, fun _ => ⟨rfl, rfl⟩, Or.inl rfl⟩
  · refine ⟨some ⟨g, 0, none⟩, cap, hv, h1, h2, (fun h => by cases h), Or.inr ⟨g, 0, cur, _, rfl, hh, fun j hj => ?_⟩⟩
    rw [Nat.zero_add, ← h4, List.getElem?_take_of_lt (by omega)]
    simp
theorem owns_empty (w : World) (e : TypeId) (size : Nat) : (w.alloc (.cells #[] e)).ownsRow w.heap.size e size (.slice (some ⟨w.heap.size, 0, none⟩) 0 0) 0 [] :=
  ⟨by simp, .inr ⟨w.heap.size, 0, #[], rfl, Nat.le_refl _, (by show (w.heap.push _)[w.heap.size]? = _; simp), Nat.le_refl _, Nat.zero_le _, by simp, by simp⟩⟩
/-- What a walk reads: the address and the cells, where there is any. -/
theorem Row.open {w : World} {e : TypeId} {v : Value} {n : Nat} {xs : List Value} (h : Row w e v n xs) (hne : 0 < xs.length) : ∃ b off cap, v = .slice (some ⟨b, off, none⟩) n cap ∧ n ≤ cap ∧ cap ≤ maxLen ∧ b < w.heap.size ∧ ∀ j, j < xs.length → w.cell? ⟨b, off + j, none⟩ = xs[j]? := by
  obtain ⟨a, cap, hv, h1, h2, _, h3⟩ := h
  rcases h3 with h3 | ⟨b, off, c, fr, ha, hb, hc⟩
  · subst h3; simp at hne
  · subst ha
    have hlt : b < w.heap.size := by
      rcases Nat.lt_or_ge b w.heap.size with h | h
      · exact h
      · rw [Array.getElem?_eq_none h] at hb; cases hb
    refine ⟨b, off, cap, hv, h1, h2, hlt, fun j hj => ?_⟩
    simp only [World.cell?, hb]
    exact hc j hj
theorem Row.len {w : World} {e : TypeId} {v : Value} {n : Nat} {xs : List Value} (h : Row w e v n xs) : n ≤ 9223372036854775807 := by
  obtain ⟨a, cap, _, h1, h2, _, _⟩ := h
  unfold maxLen at h2; omega
/-- A slice value of n elements that reads as the cells xs, wherever they lie. -/
def RRow (w : World) (v : Value) (n : Nat) (xs : List Value) : Prop :=
  ∃ a cap, v = .slice a n cap ∧ n ≤ cap ∧ cap ≤ maxLen ∧ (a = none → n = 0 ∧ cap = 0) ∧ (xs = [] ∨ ∃ b off, a = some ⟨b, off, none⟩ ∧ b < w.heap.size ∧ ∀ j, j < xs.length → w.cell? ⟨b, off + j, none⟩ = xs[j]?)
theorem RRow.below {w w' : World} {v : Value} {n : Nat} {xs : List Value} (h : RRow w v n xs) (hb : Below w.heap.size w w') : RRow w' v n xs := by
  obtain ⟨a, cap, hv, h1, h2, h0, h3⟩ := h
  refine ⟨a, cap, hv, h1, h2, h0, ?_⟩
  rcases h3 with h3 | ⟨b, off, ha, hlt, hc⟩
  · exact Or.inl h3
  · exact Or.inr ⟨b, off, ha, Nat.lt_of_lt_of_le hlt hb.size, fun j hj => (hb.cell (p := ⟨b, off + j, none⟩) hlt).trans (hc j hj)⟩
theorem RRow.len {w : World} {v : Value} {n : Nat} {xs : List Value} (h : RRow w v n xs) : n ≤ 9223372036854775807 := by
  obtain ⟨a, cap, _, h1, h2, _, _⟩ := h
  unfold maxLen at h2; omega
theorem RRow.open {w : World} {v : Value} {n : Nat} {xs : List Value} (h : RRow w v n xs) (hne : 0 < xs.length) : ∃ b off cap, v = .slice (some ⟨b, off, none⟩) n cap ∧ n ≤ cap ∧ cap ≤ maxLen ∧ b < w.heap.size ∧ ∀ j, j < xs.length → w.cell? ⟨b, off + j, none⟩ = xs[j]? := by
  obtain ⟨a, cap, hv, h1, h2, _, h3⟩ := h
  rcases h3 with h3 | ⟨b, off, ha, hlt, hc⟩
  · subst h3; simp at hne
  · subst ha; exact ⟨b, off, cap, hv, h1, h2, hlt, hc⟩
theorem Row.r {w : World} {e : TypeId} {v : Value} {n : Nat} {xs : List Value} (h : Row w e v n xs) : RRow w v n xs := by
  obtain ⟨a, cap, hv, h1, h2, h0, h3⟩ := h
  refine ⟨a, cap, hv, h1, h2, h0, ?_⟩
  rcases h3 with h3 | ⟨b, off, c, fr, ha, hb, hc⟩
  · exact Or.inl h3
  · refine Or.inr ⟨b, off, ha, ?_, fun j hj => ?_⟩
    · rcases Nat.lt_or_ge b w.heap.size with h | h
      · exact h
      · rw [Array.getElem?_eq_none h] at hb; cases hb
    · simp only [World.cell?, hb]
      exact hc j hj
theorem RRow.nil (w : World) : RRow w (.slice none 0 0) 0 [] := ⟨none, 0, rfl, Nat.le_refl _, Nat.zero_le _, fun _ => ⟨rfl, rfl⟩, Or.inl rfl⟩
/-- Cells of a list of elements, all of one width. -/
theorem flat_at {α : Type} (f : α → List Value) (k : Nat) (hk : ∀ x, (f x).length = k) : ∀ (l : List α) (i j : Nat) (x : α), l[i]? = some x → j < k → (l.flatMap f)[i * k + j]? = (f x)[j]?
  | [], _, _, _, h, _ => by simp at h
  | y :: l, 0, j, x, h, hj => by
    simp only [List.getElem?_cons_zero, Option.some.injEq] at h
    subst h
    rw [List.flatMap_cons, Nat.zero_mul, Nat.zero_add, List.getElem?_append_left (by rw [hk]; exact hj)]
  | y :: l, i + 1, j, x, h, hj => by
    rw [List.getElem?_cons_succ] at h
    rw [List.flatMap_cons, List.getElem?_append_right (by rw [hk, Nat.succ_mul]; omega), hk, show (i + 1) * k + j - k = i * k + j by rw [Nat.succ_mul]; omega]
    exact flat_at f k hk l i j x h hj
theorem flat_length {α : Type} (f : α → List Value) (k : Nat) (hk : ∀ x, (f x).length = k) (l : List α) : (l.flatMap f).length = l.length * k := by
  induction l with
  | nil => simp
  | cons y l ih => rw [List.flatMap_cons, List.length_append, hk, ih, List.length_cons, Nat.succ_mul]; omega
end Go.Proofs.Heap
namespace Go.Proofs.By
open Go.RowKit Go.Proofs.Heap
/-- The cells of bytes. -/
def bys (l : List UInt8) : List Value := l.map fun b => Value.int .u8 (b.toNat : Int)
theorem bys_length (l : List UInt8) : (bys l).length = l.length := List.length_map _
theorem bys_append (a b : List UInt8) : bys (a ++ b) = bys a ++ bys b := List.map_append
theorem bys_take (l : List UInt8) (k : Nat) : (bys l).take k = bys (l.take k) := (List.map_take).symm
theorem bys_drop (l : List UInt8) (k : Nat) : (bys l).drop k = bys (l.drop k) := (List.map_drop).symm
theorem bys_one (l : List UInt8) : ∀ u ∈ bys l, u.oneCell' = true := by
  intro u hu
  obtain ⟨b, _, rfl⟩ := List.mem_map.1 hu
  rfl
/-- The number that bytes spell, the highest first. -/
def be (l : List UInt8) : Nat := l.foldl (fun n x => n * 256 + x.toNat) 0
theorem be_snoc (l : List UInt8) (x : UInt8) : be (l ++ [x]) = be l * 256 + x.toNat := by unfold be; rw [List.foldl_append]; rfl
theorem be_go : ∀ (l : List UInt8) (n : Nat), l.foldl (fun n x => n * 256 + x.toNat) n < (n + 1) * 256 ^ l.length
  | [], n => by simp
  | x :: l, n => by
    have ih := be_go l (n * 256 + x.toNat)
    have hx := x.toNat_lt
    rw [List.foldl_cons, List.length_cons, Nat.pow_succ, Nat.mul_comm (256 ^ l.length), ← Nat.mul_assoc]
    exact Nat.lt_of_lt_of_le ih (Nat.mul_le_mul_right _ (by omega))
theorem be_lt (l : List UInt8) : be l < 256 ^ l.length := by
  have := be_go l 0
  rw [Nat.zero_add, Nat.one_mul] at this
  exact this
theorem be_lt8 {l : List UInt8} (h : l.length ≤ 8) : be l < 18446744073709551616 :=
  Nat.lt_of_lt_of_le (be_lt l) (Nat.le_trans (Nat.pow_le_pow_right (by decide) h) (by decide))
theorem be_lt7 {l : List UInt8} (h : l.length ≤ 7) : be l < 72057594037927936 :=
  Nat.lt_of_lt_of_le (be_lt l) (Nat.le_trans (Nat.pow_le_pow_right (by decide) h) (by decide))
theorem be_lt4 {l : List UInt8} (h : l.length ≤ 4) : be l < 4294967296 :=
  Nat.lt_of_lt_of_le (be_lt l) (Nat.le_trans (Nat.pow_le_pow_right (by decide) h) (by decide))
theorem be_lt3 {l : List UInt8} (h : l.length ≤ 3) : be l < 16777216 :=
  Nat.lt_of_lt_of_le (be_lt l) (Nat.le_trans (Nat.pow_le_pow_right (by decide) h) (by decide))
theorem be_lt2 {l : List UInt8} (h : l.length ≤ 2) : be l < 65536 :=
  Nat.lt_of_lt_of_le (be_lt l) (Nat.le_trans (Nat.pow_le_pow_right (by decide) h) (by decide))
/-- A byte more behind a number: by shifting and joining, as the program does. -/
theorem or_byte (n : Nat) (x : UInt8) (h : n < 72057594037927936) : bits .or .u64 ((n : Int) * 256) (x.toNat : Int) = ((n * 256 + x.toNat : Nat) : Int) := by
  have hx := x.toNat_lt
  have e : ((n : Int) * 256) = ((n * 256 : Nat) : Int) := by omega
  rw [e, u64_or_nat (n * 256) x.toNat (by omega) (by omega), nat_join 8 (n * 256) x.toNat (by omega) (by omega)]
/-- Do so many bytes stand there? -/
def within (len : Nat) (at' size : Int) : Bool := decide (1 ≤ size) && decide (size ≤ 8) && decide (0 ≤ at') && decide (at' ≤ (len : Int) - size)
theorem within_iff {len : Nat} {at' size : Int} : within len at' size = true ↔ 1 ≤ size ∧ size ≤ 8 ∧ 0 ≤ at' ∧ at' + size ≤ len := by
  unfold within
  simp only [Bool.and_eq_true, decide_eq_true_eq]
  omega
/-- A number that is read; 0: it is not there. -/
def get (b : List UInt8) (at' size : Int) : Nat := if within b.length at' size then be ((b.drop at'.toNat).take size.toNat) else 0
end Go.Proofs.By
namespace Go.Proofs.Heap
open Go Go.RowKit
section
variable {P : Program}
/-- The facts on a slice type t of elements e: so many cells and bytes each. -/
structure Elem (P : Program) (t e : TypeId) (size bytes : Nat) : Prop where
  ht : P.underlying t = some (.slice e)
  info : ∃ z, (P.info? e).map (fun i => (i.zero, i.size, i.bytes)) = some (some z, size, bytes) ∧ z.cells.size = size
  pos : 0 < size
theorem wpList_app {ops : Array Oper} {rest : List Oper} {o : Oper} {a : Act} {w : World} {Q : Exit → Act → World → Prop} (hgd : o.guard = none) (s x : Operand) (t : TypeId)
    (ho : o.op = .call { callee := .builtin .append, args := #[s, x], argTypes := #[t, t] })
    (base : Nat) {e : TypeId} {size bytes : Nat} (E : Elem P t e size bytes)
    (v : Value) (n : Nat) (xs : List Value) (hs : a.eval s = v) (hown : w.ownsRow base e size v n xs)
    (vx : Value) (m : Nat) (news : List Value) (hx : a.eval x = vx) (hrow : Row w e vx m news) (hl : news.length = m * size) (h1 : ∀ u ∈ news, u.oneCell' = true)
    (hbytes : (n + m) * bytes ≤ 140737488355328) (h63 : n + m ≤ 9223372036854775807) (hbase : base ≤ w.heap.size)
    (h : ∀ v' w', Hid (w'.ownsRow base e size v' (n + m) (xs ++ news)) → Hid (w.grownBy w' v.ownBlock) → wpList P ops Q rest (a.put o.dst v') w') : wpList P ops Q (o :: rest) a w := by
  obtain ⟨z, hinfo, hzs⟩ := E.info
  obtain ⟨i, hi, hz, hsize, hby⟩ := info_parts hinfo
  obtain ⟨ad, cap, hv, _, _, h0, hr⟩ := hrow
  subst hv
  have h63' : n + m ≤ maxLen := by unfold maxLen; omega
  cases ad with
  | none =>
    obtain ⟨rfl, rfl⟩ := h0 rfl
    have : news = [] := List.eq_nil_of_length_eq_zero (by rw [hl, Nat.zero_mul])
    subst this
    refine wpList_append_own_none hgd s x t ho base e i size E.ht hi v n xs hs hown hx (h v w ?_ ?_)
    · show World.ownsRow _ _ _ _ _ _ _; rw [List.append_nil]; exact hown
    · exact ⟨rfl, rfl, rfl, Nat.le_refl _, fun _ _ _ => rfl⟩
  | some ad =>
    refine wpList_append_own w hgd s x t ho base e i z size bytes E.ht hi hz hsize hby hzs E.pos v n xs hs hown ad m cap news hx hl ?_ h1 h63' hbytes hbase (fun v' w' h2 h3 _ => h v' w' h2 h3)
    intro j u hu
    rcases hr with hr | ⟨b, off, c, fr, hab, hb, hc⟩
    · subst hr; simp at hu
    · cases hab
      have hj : j < news.length := (List.getElem?_eq_some_iff.1 hu).1
      have := hc j hj
      have hadd : (⟨b, off, none⟩ : Addr).add j = ⟨b, off + j, none⟩ := by unfold Addr.add; split <;> simp_all
      rw [hadd]
      simp only [World.cell?, hb]
      simpa [hu] using this
theorem wpList_appR {ops : Array Oper} {rest : List Oper} {o : Oper} {a : Act} {w : World} {Q : Exit → Act → World → Prop} (hgd : o.guard = none) (s x : Operand) (t : TypeId)
    (ho : o.op = .call { callee := .builtin .append, args := #[s, x], argTypes := #[t, t] })
    (base : Nat) {e : TypeId} {size bytes : Nat} (E : Elem P t e size bytes)
    (v : Value) (n : Nat) (xs : List Value) (hs : a.eval s = v) (hown : w.ownsRow base e size v n xs)
    (vx : Value) (m : Nat) (news : List Value) (hx : a.eval x = vx) (hrow : RRow w vx m news) (hl : news.length = m * size) (h1 : ∀ u ∈ news, u.oneCell' = true)
    (hbytes : (n + m) * bytes ≤ 140737488355328) (h63 : n + m ≤ 9223372036854775807) (hbase : base ≤ w.heap.size)
    (h : ∀ v' w', Hid (w'.ownsRow base e size v' (n + m) (xs ++ news)) → Hid (w.grownBy w' v.ownBlock) → wpList P ops Q rest (a.put o.dst v') w') : wpList P ops Q (o :: rest) a w := by
  obtain ⟨z, hinfo, hzs⟩ := E.info
  obtain ⟨i, hi, hz, hsize, hby⟩ := info_parts hinfo
  obtain ⟨ad, cap, hv, _, _, h0, hr⟩ := hrow
  subst hv
  have h63' : n + m ≤ maxLen := by unfold maxLen; omega
  cases ad with
  | none =>
    obtain ⟨rfl, rfl⟩ := h0 rfl
    have : news = [] := List.eq_nil_of_length_eq_zero (by rw [hl, Nat.zero_mul])
    subst this
    refine wpList_append_own_none hgd s x t ho base e i size E.ht hi v n xs hs hown hx (h v w ?_ ?_)
    · show World.ownsRow _ _ _ _ _ _ _; rw [List.append_nil]; exact hown
    · exact ⟨rfl, rfl, rfl, Nat.le_refl _, fun _ _ _ => rfl⟩
  | some ad =>
    refine wpList_append_own w hgd s x t ho base e i z size bytes E.ht hi hz hsize hby hzs E.pos v n xs hs hown ad m cap news hx hl ?_ h1 h63' hbytes hbase (fun v' w' h2 h3 _ => h v' w' h2 h3)
    intro j u hu
    rcases hr with hr | ⟨b, off, hab, hlt, hc⟩
    · subst hr; simp at hu
    · cases hab
      have hj : j < news.length := (List.getElem?_eq_some_iff.1 hu).1
      have := hc j hj
      have hadd : (⟨b, off, none⟩ : Addr).add j = ⟨b, off + j, none⟩ := by unfold Addr.add; split <;> simp_all
      rw [hadd, this]
      exact hu
end
end Go.Proofs.Heap
namespace Go.Proofs.Heap
open Go Go.RowKit
section
variable {P : Program}
theorem Elem.sizeRun {t e : TypeId} {size bytes : Nat} (E : Elem P t e size bytes) (w : World) : (sizeOf (P.elem t)).run P w = .ok size w := by
  obtain ⟨z, hinfo, _⟩ := E.info
  obtain ⟨i, hi, _, hsize, _⟩ := info_parts hinfo
  have he : P.elem t = e := by simp [Program.elem, E.ht]
  rw [he]
  simp [sizeOf, typeInfo, hi, hsize]
theorem Elem.under {t e : TypeId} {size bytes : Nat} (E : Elem P t e size bytes) : P.underlying t = some (.slice (P.elem t)) := by
  have he : P.elem t = e := by simp [Program.elem, E.ht]
  rw [he]; exact E.ht
/-- What is cut off in front: the first k elements. -/
theorem slice_to {t e : TypeId} {size bytes : Nat} (E : Elem P t e size bytes) (a : Option Addr) (n cap k : Nat) (hk : k ≤ cap) :
    ∃ a', (∀ w, (Instr.slice t (.slice a n cap) none (some (.int .i64 (k : Int))) none).run P w = .ok (.slice a' k cap) w) ∧
      (∀ w xs, k ≤ n → xs.length = n * size → Row w e (.slice a n cap) n xs → Row w e (.slice a' k cap) k (xs.take (k * size))) ∧
      (∀ w xs, k ≤ n → xs.length = n * size → RRow w (.slice a n cap) n xs → RRow w (.slice a' k cap) k (xs.take (k * size))) := by
  have hadd : ∀ (b off : Nat), (⟨b, off, none⟩ : Addr).add (0 * size) = ⟨b, off, none⟩ := fun b off => by simp [Addr.add]
  have ha : ∀ b off : Nat, a = some ⟨b, off, none⟩ → (if cap = 0 then a else a.map (·.add (0 * size))) = some ⟨b, off, none⟩ := fun b off h => by
    subst h
    split
    · rfl
    · simp [Addr.add]
  refine ⟨if cap = 0 then a else a.map (·.add (0 * size)), fun w => ?_, ?_, ?_⟩
  · rw [run_slice_h w t a n cap E.under .i64 (k : Int) (by omega) (by omega), E.sizeRun]
    simp [Result.andThen, sliced]
  · rintro w xs hkn hl ⟨a2, cap2, hv, h1, h2, h0, h3⟩
    cases hv
    refine ⟨_, cap, rfl, hk, h2, ?_, ?_⟩
    · intro h
      have : a = none := by
        split at h
        · exact h
        · simpa using h
      have := h0 this
      omega
    · rcases h3 with h3 | ⟨b, off, c, fr, hab, hb, hc⟩
      · subst h3; simp
      · refine Or.inr ⟨b, off, c, fr, ha b off hab, hb, fun j hj => ?_⟩
        rw [List.length_take] at hj
        rw [hc j (by omega), List.getElem?_take_of_lt (by omega)]
  · rintro w xs hkn hl ⟨a2, cap2, hv, h1, h2, h0, h3⟩
    cases hv
    refine ⟨_, cap, rfl, hk, h2, ?_, ?_⟩
    · intro h
      have : a = none := by
        split at h
        · exact h
        · simpa using h
      have := h0 this
      omega
    · rcases h3 with h3 | ⟨b, off, hab, hb, hc⟩
      · subst h3; simp
      · refine Or.inr ⟨b, off, ha b off hab, hb, fun j hj => ?_⟩
        rw [List.length_take] at hj
        rw [hc j (by omega), List.getElem?_take_of_lt (by omega)]
/-- What is left behind the first k elements. -/
theorem slice_from {t e : TypeId} {size bytes : Nat} (E : Elem P t e size bytes) (a : Option Addr) (n cap k : Nat) (hk : k ≤ n) (hn : n ≤ cap) :
    ∃ a', (∀ w, (Instr.slice t (.slice a n cap) (some (.int .i64 (k : Int))) none none).run P w = .ok (.slice a' (n - k) (cap - k)) w) ∧
      (∀ w xs, xs.length = n * size → Row w e (.slice a n cap) n xs → Row w e (.slice a' (n - k) (cap - k)) (n - k) (xs.drop (k * size))) ∧
      (∀ w xs, xs.length = n * size → RRow w (.slice a n cap) n xs → RRow w (.slice a' (n - k) (cap - k)) (n - k) (xs.drop (k * size))) := by
  have hadd : ∀ (b off d : Nat), (⟨b, off, none⟩ : Addr).add d = ⟨b, off + d, none⟩ := fun b off d => by unfold Addr.add; split <;> simp_all
  refine ⟨if cap = k then a else a.map (·.add (k * size)), fun w => ?_, ?_, ?_⟩
  · rw [run_slice_l w t a n cap E.under .i64 (k : Int) (by omega) (by omega), E.sizeRun]
    simp [Result.andThen, sliced]
  · rintro w xs hl ⟨a2, cap2, hv, h1, h2, h0, h3⟩
    cases hv
    refine ⟨_, cap - k, rfl, by omega, by unfold maxLen at *; omega, ?_, ?_⟩
    · intro h
      have : a = none := by
        split at h
        · exact h
        · simpa using h
      have := h0 this
      omega
    · rcases h3 with h3 | ⟨b, off, c, fr, hab, hb, hc⟩
      · subst h3; simp
      · by_cases hck : cap = k
        · obtain rfl : n = k := by omega
          left; rw [← hl]; simp
        · refine Or.inr ⟨b, off + k * size, c, fr, by rw [if_neg hck, hab]; simp [hadd], hb, fun j hj => ?_⟩
          rw [List.length_drop] at hj
          rw [Nat.add_assoc, hc _ (by omega), List.getElem?_drop]
  · rintro w xs hl ⟨a2, cap2, hv, h1, h2, h0, h3⟩
    cases hv
    refine ⟨_, cap - k, rfl, by omega, by unfold maxLen at *; omega, ?_, ?_⟩
    · intro h
      have : a = none := by
        split at h
        · exact h
        · simpa using h
      have := h0 this
      omega
    · rcases h3 with h3 | ⟨b, off, hab, hb, hc⟩
      · subst h3; simp
      · by_cases hck : cap = k
        · obtain rfl : n = k := by omega
          left; rw [← hl]; simp
        · refine Or.inr ⟨b, off + k * size, by rw [if_neg hck, hab]; simp [hadd], hb, fun j hj => ?_⟩
          rw [List.length_drop] at hj
          rw [Nat.add_assoc, hc _ (by omega), List.getElem?_drop]
end
end Go.Proofs.Heap
namespace Go.Proofs.Heap
open Go Go.RowKit
section
variable {P : Program}
/-- What stands from l on, ahead of h. -/
theorem slice_mid {t e : TypeId} {size bytes : Nat} (E : Elem P t e size bytes) (a : Option Addr) (n cap l h : Nat) (hl : l ≤ h) (hh : h ≤ n) (hn : n ≤ cap) :
    ∃ a', (∀ w, (Instr.slice t (.slice a n cap) (some (.int .i64 (l : Int))) (some (.int .i64 (h : Int))) none).run P w = .ok (.slice a' (h - l) (cap - l)) w) ∧
      (∀ w xs, xs.length = n * size → RRow w (.slice a n cap) n xs → RRow w (.slice a' (h - l) (cap - l)) (h - l) ((xs.drop (l * size)).take ((h - l) * size))) := by
  have hadd : ∀ (b off d : Nat), (⟨b, off, none⟩ : Addr).add d = ⟨b, off + d, none⟩ := fun b off d => by unfold Addr.add; split <;> simp_all
  refine ⟨if cap = l then a else a.map (·.add (l * size)), fun w => ?_, ?_⟩
  · rw [run_slice_lh w t a n cap E.under .i64 .i64 (l : Int) (h : Int) (by omega) (by omega) (by omega), E.sizeRun]
    simp [Result.andThen, sliced]
  · rintro w xs hxl ⟨a2, cap2, hv, h1, h2, h0, h3⟩
    cases hv
    refine ⟨_, cap - l, rfl, by omega, by unfold maxLen at *; omega, ?_, ?_⟩
    · intro hnone
      have : a = none := by
        split at hnone
        · exact hnone
        · simpa using hnone
      have := h0 this
      omega
    · rcases h3 with h3 | ⟨b, off, hab, hb, hc⟩
      · subst h3; simp
      · by_cases hck : cap = l
        · left
          have : h - l = 0 := by omega
          rw [this]; simp
        · refine Or.inr ⟨b, off + l * size, by rw [if_neg hck, hab]; simp [hadd], hb, fun j hj => ?_⟩
          rw [List.length_take, List.length_drop] at hj
          rw [Nat.add_assoc, hc _ (by omega), List.getElem?_take_of_lt (by omega), List.getElem?_drop]
end
end Go.Proofs.Heap
