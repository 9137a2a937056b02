/- The plain room: what a row of turns does to the set of the subscriptions that are open; when all have left there is nothing. No program in sight. -/
import Derived.Test.YthlamfoldfeocaaDoorP18
import Derived.Test.YthlamfoldfeocaaDoorP02
import Derived.Test.YthlamfoldfeocaaDoorP04
namespace Go.Proofs.Rm
abbrev Open := Int × Int → Bool
def key2 (t : Turn) : Int × Int := (t.peer, t.source)
/-- Is a turn as it may be? -/
def chk (S : Open) (t : Turn) : Bool := (decide (t.kind = 9) || (inn t.peer 9 && inn t.source 9)) && if t.kind = 1 then !S (key2 t) else if t.kind = 2 then S (key2 t) else if t.kind = 9 then true else S (key2 t)
theorem chk_of {S : Open} {t : Turn} {p n : Nat} (hp : t.peer = p) (hn : t.source = n) (h1 : 1 ≤ p) (h2 : p < 9) (h3 : 1 ≤ n) (h4 : n < 9) (h : (if t.kind = 1 then !S (key2 t) else if t.kind = 2 then S (key2 t) else if t.kind = 9 then true else S (key2 t)) = true) : chk S t = true := by
  unfold chk
  rw [h, hp, hn, (inn_iff' _ _).2 ⟨by omega, by omega⟩, (inn_iff' _ _).2 ⟨by omega, by omega⟩]
  simp
/-- What is open behind a turn. -/
def nextS (S : Open) (t : Turn) : Open := if t.kind = 1 then fun x => decide (x = key2 t) || S x else if t.kind = 2 then fun x => !decide (x = key2 t) && S x else S
def allChk (S : Open) : List Turn → Prop
  | [] => True
  | t :: l => chk S t = true ∧ allChk (nextS S t) l
def Good (S : Open) (l : List Turn) (S' : Open) : Prop := allChk S l ∧ l.foldl nextS S = S'
theorem Good.nil (S : Open) : Good S [] S := ⟨trivial, rfl⟩
theorem Good.cons {S S1 S' : Open} {t : Turn} {l : List Turn} (h : chk S t = true) (h1 : nextS S t = S1) (hl : Good S1 l S') : Good S (t :: l) S' := by
  subst h1
  exact ⟨⟨h, hl.1⟩, hl.2⟩
theorem allChk_append : ∀ (a : List Turn) (S : Open) (b : List Turn), allChk S a → allChk (a.foldl nextS S) b → allChk S (a ++ b)
  | [], _, _, _, h => h
  | t :: a, S, b, h1, h2 => ⟨h1.1, allChk_append a (nextS S t) b h1.2 h2⟩
theorem Good.append {S S1 S' : Open} {a b : List Turn} (h1 : Good S a S1) (h2 : Good S1 b S') : Good S (a ++ b) S' := by
  obtain ⟨h1, rfl⟩ := h1
  exact ⟨allChk_append a S b h1 h2.1, by rw [List.foldl_append]; exact h2.2⟩
theorem allChk_at : ∀ (l : List Turn) (S : Open), allChk S l → ∀ (i : Nat) (h : i < l.length), chk ((l.take i).foldl nextS S) l[i] = true
  | t :: l, S, h, 0, _ => h.1
  | t :: l, S, h, i + 1, hi => allChk_at l (nextS S t) h.2 i (by simpa using hi)
theorem Good.step {S S' : Open} {l : List Turn} (h : Good S l S') (i : Nat) (hi : i < l.length) : chk ((l.take i).foldl nextS S) l[i] = true ∧ (l.take (i + 1)).foldl nextS S = nextS ((l.take i).foldl nextS S) l[i] :=
  ⟨allChk_at l S h.1 i hi, by rw [List.take_succ_eq_append_getElem hi, List.foldl_append]; rfl⟩
/-- Turns that only speak of what is open. -/
theorem good_const {S : Open} : ∀ (l : List Turn), (∀ t ∈ l, t.kind ≠ 1 ∧ t.kind ≠ 2 ∧ (t.kind = 9 ∨ (S (key2 t) = true ∧ inn t.peer 9 = true ∧ inn t.source 9 = true))) → Good S l S
  | [], _ => Good.nil S
  | t :: l, h => by
    obtain ⟨h1, h2, h3⟩ := h t (by simp)
    refine Good.cons ?_ (by unfold nextS; rw [if_neg h1, if_neg h2]) (good_const l fun x hx => h x (by simp [hx]))
    unfold chk
    rw [if_neg h1, if_neg h2]
    rcases h3 with h9 | ⟨a, b, c⟩
    · rw [if_pos h9, decide_eq_true h9]; rfl
    · rw [a, b, c]
      split <;> simp
/-- The subscriptions that are there. -/
def opens (R : Room) : Open := fun x => hears R x.1 x.2
theorem opens_iff {R : Room} {x : Int × Int} : opens R x = true ↔ ∃ p n : Nat, x = ((p : Int), (n : Int)) ∧ 1 ≤ p ∧ p < 9 ∧ 1 ≤ n ∧ n < 9 ∧ (R.sub n p).there = true := by
  obtain ⟨a, b⟩ := x
  unfold opens hears
  simp only [Bool.and_eq_true, inn_iff']
  constructor
  · rintro ⟨⟨h1, h2⟩, h3⟩
    exact ⟨a.toNat, b.toNat, by rw [Int.toNat_of_nonneg (by omega), Int.toNat_of_nonneg (by omega)], by omega, by omega, by omega, by omega, h3⟩
  · rintro ⟨p, n, e, h1, h2, h3, h4, h5⟩
    simp only [Prod.mk.injEq] at e
    obtain ⟨rfl, rfl⟩ := e
    rw [Int.toNat_natCast, Int.toNat_natCast]
    exact ⟨⟨⟨by omega, by omega⟩, by omega, by omega⟩, h5⟩
theorem opens_at {R : Room} {p n : Nat} (h1 : 1 ≤ p) (h2 : p < 9) (h3 : 1 ≤ n) (h4 : n < 9) : opens R ((p : Int), (n : Int)) = (R.sub n p).there := by
  show hears R p n = _
  unfold hears
  rw [(inn_iff' _ _).2 ⟨by omega, by omega⟩, (inn_iff' _ _).2 ⟨by omega, by omega⟩, Int.toNat_natCast, Int.toNat_natCast]
  simp
theorem opens_ext {R' : Room} {f : Int × Int → Bool} (h : ∀ p n : Nat, 1 ≤ p → p < 9 → 1 ≤ n → n < 9 → (R'.sub n p).there = f ((p : Int), (n : Int))) (h0 : ∀ x, f x = true → ∃ p n : Nat, x = ((p : Int), (n : Int)) ∧ 1 ≤ p ∧ p < 9 ∧ 1 ≤ n ∧ n < 9) : opens R' = f := by
  funext x
  rw [Bool.eq_iff_iff]
  constructor
  · intro hx
    obtain ⟨p, n, rfl, h1, h2, h3, h4, h5⟩ := opens_iff.1 hx
    rw [← h p n h1 h2 h3 h4]; exact h5
  · intro hx
    obtain ⟨p, n, rfl, h1, h2, h3, h4⟩ := h0 x hx
    rw [opens_iff]
    exact ⟨p, n, rfl, h1, h2, h3, h4, by rw [h p n h1 h2 h3 h4]; exact hx⟩
theorem opens_bd {R : Room} {x : Int × Int} (h : opens R x = true) : ∃ p n : Nat, x = ((p : Int), (n : Int)) ∧ 1 ≤ p ∧ p < 9 ∧ 1 ≤ n ∧ n < 9 := by
  obtain ⟨p, n, e, h1, h2, h3, h4, _⟩ := opens_iff.1 h
  exact ⟨p, n, e, h1, h2, h3, h4⟩
theorem pair_eq (p q n m : Nat) : decide (((p : Int), (n : Int)) = ((q : Int), (m : Int))) = (decide (n = m) && decide (p = q)) := by
  rw [Bool.eq_iff_iff]
  simp
  omega
theorem opens_end (R : Room) (n p : Nat) : opens (R.setSub n p noSub) = fun x => !decide (x = ((p : Int), (n : Int))) && opens R x := by
  refine opens_ext (fun q m h1 h2 h3 h4 => ?_) (fun x hx => opens_bd (Bool.and_eq_true_iff.1 hx).2)
  show _ = (!decide (((q : Int), (m : Int)) = ((p : Int), (n : Int))) && opens R ((q : Int), (m : Int)))
  rw [pair_eq, opens_at h1 h2 h3 h4, setSub_sub]
  by_cases e : m = n ∧ q = p
  · rw [if_pos e, decide_eq_true e.1, decide_eq_true e.2]; rfl
  · rw [if_neg e]
    have : (decide (m = n) && decide (q = p)) = false := by
      rw [Bool.eq_false_iff]; intro h; simp only [Bool.and_eq_true, decide_eq_true_eq] at h; exact e h
    rw [this]; rfl
theorem opens_begin (R : Room) {n p : Nat} (x : Sub) (hx : x.there = true) (h1 : 1 ≤ p) (h2 : p < 9) (h3 : 1 ≤ n) (h4 : n < 9) : opens (R.setSub n p x) = fun y => decide (y = ((p : Int), (n : Int))) || opens R y := by
  refine opens_ext (fun q m a1 a2 a3 a4 => ?_) (fun y hy => ?_)
  · show _ = (decide (((q : Int), (m : Int)) = ((p : Int), (n : Int))) || opens R ((q : Int), (m : Int)))
    rw [pair_eq, opens_at a1 a2 a3 a4, setSub_sub]
    by_cases e : m = n ∧ q = p
    · rw [if_pos e, decide_eq_true e.1, decide_eq_true e.2, hx]; rfl
    · rw [if_neg e]
      have : (decide (m = n) && decide (q = p)) = false := by
        rw [Bool.eq_false_iff]; intro h; simp only [Bool.and_eq_true, decide_eq_true_eq] at h; exact e h
      rw [this]; rfl
  · rcases Bool.or_eq_true_iff.1 hy with h | h
    · exact ⟨p, n, of_decide_eq_true h, h1, h2, h3, h4⟩
    · exact opens_bd (R := R) h
theorem opens_same {R R' : Room} (h : ∀ n p, (R'.sub n p).there = (R.sub n p).there) : opens R' = opens R := by
  funext x
  unfold opens hears
  rw [h]
theorem opens_keep (R : Room) (n p : Nat) (x : Sub) (hx : x.there = (R.sub n p).there) : opens (R.setSub n p x) = opens R := by
  refine opens_same fun m q => ?_
  rw [setSub_sub]
  split
  · rename_i e; rw [e.1, e.2]; exact hx
  · rfl
theorem goneGo_good (n : Nat) (hn : 1 ≤ n ∧ n < 9) : ∀ (l : List Nat) (R : Room), l.Nodup → (∀ p ∈ l, 1 ≤ p ∧ p < 9 ∧ (R.sub n p).there = true) → Good (opens R) (goneGo n l R).1 (opens (goneGo n l R).2)
  | [], R, _, _ => Good.nil _
  | p :: l, R, hd, hl => by
    obtain ⟨h1, h2, h3⟩ := hl p (by simp)
    have ho : opens R ((p : Int), (n : Int)) = true := by rw [opens_at h1 h2 hn.1 hn.2]; exact h3
    obtain ⟨hd1, hd2⟩ := List.nodup_cons.1 hd
    refine Good.cons (S1 := opens R) (chk_of (p := p) (n := n) rfl rfl h1 h2 hn.1 hn.2 ho) rfl (Good.cons (S1 := opens (R.setSub n p noSub)) (chk_of (p := p) (n := n) rfl rfl h1 h2 hn.1 hn.2 ho) (by rw [opens_end]; rfl) (goneGo_good n hn l _ hd2 fun q hq => ?_))
    obtain ⟨a1, a2, a3⟩ := hl q (by simp [hq])
    refine ⟨a1, a2, ?_⟩
    rw [setSub_sub, if_neg (fun e : n = n ∧ q = p => hd1 (e.2 ▸ hq))]
    exact a3
theorem subs_nodup (R : Room) (n : Int) : (subs R n).Nodup := List.Pairwise.filter _ List.nodup_range
theorem gone_good (R : Room) {n : Nat} (hn : 1 ≤ n ∧ n < 9) : Good (opens R) (gone R n).1 (opens (gone R n).2) := by
  have h := goneGo_good n hn (subs R n) R (subs_nodup R n) (fun p hp => by
    obtain ⟨h1, h2, _, _, h5⟩ := mem_subs.1 hp
    exact ⟨h1, h2, h5⟩)
  exact h
theorem leave1_good (R : Room) (hI : Inv R) (p : Nat) (hp : 1 ≤ p ∧ p < 9) : ∀ k, Good (opens R) (leave1 p R k).1 (opens (leave1 p R k).2)
  | 0 => Good.nil _
  | k + 1 => by
    have ih := leave1_good R hI p hp k
    unfold leave1
    dsimp only
    split
    · rename_i ht
      have hk := (inv_leave1 hI p k).subAt k p ht
      refine ih.append (Good.cons ?_ ?_ (Good.nil _))
      · refine chk_of (p := p) (n := k) rfl rfl hp.1 hp.2 hk.1 hk.2.1 ?_
        show opens (leave1 p R k).2 ((p : Int), (k : Int)) = true
        rw [opens_at hp.1 hp.2 hk.1 hk.2.1]; exact ht
      · rw [opens_end]; rfl
    · exact ih
theorem leave2_good (R : Room) (hI : Inv R) (p : Nat) : ∀ k, Good (opens R) (leave2 R p k).1 (opens (leave2 R p k).2)
  | 0 => Good.nil _
  | k + 1 => by
    have ih := leave2_good R hI p k
    unfold leave2
    dsimp only
    split
    · rename_i ht
      have hk := hI.srcAt k (Bool.and_eq_true_iff.1 ht).1
      exact ih.append (gone_good _ ⟨hk.1, hk.2.1⟩)
    · exact ih
theorem leave_good (R : Room) (hI : Inv R) (p : Nat) (hp : 1 ≤ p ∧ p < 9) : Good (opens R) (leave R p).1 (opens (leave R p).2) :=
  (leave1_good R hI p hp 9).append (leave2_good _ (inv_leave1 hI p 9) p 9)
theorem waits_const {R : Room} {S : Open} {n p : Nat} : ∀ t ∈ waits R p n, t.kind ≠ 1 ∧ t.kind ≠ 2 ∧ (t.kind = 9 ∨ (S (key2 t) = true ∧ inn t.peer 9 = true ∧ inn t.source 9 = true)) := by
  intro t ht
  unfold waits at ht
  split at ht
  · cases ht
  · rw [List.mem_singleton] at ht
    subst ht
    exact ⟨by simp [asks], by simp [asks], Or.inl rfl⟩
theorem mute_good (R : Room) {n : Nat} (on : Bool) : Good (opens R) (mute R n on).1 (opens (mute R n on).2) := by
  have e : opens (mute R n on).2 = opens R := rfl
  rw [e]
  refine good_const _ fun t ht => ?_
  obtain ⟨p, hp, ht⟩ := List.mem_flatMap.1 ht
  obtain ⟨h1, h2, h3, h4, h5⟩ := mem_subs.1 hp
  have ho : opens R ((p : Int), (n : Int)) = true := by
    rw [← e, opens_iff]
    exact ⟨p, n, rfl, h1, h2, h3, h4, h5⟩
  have ho : opens R ((p : Int), (n : Int)) = true ∧ inn (p : Int) 9 = true ∧ inn (n : Int) 9 = true := ⟨ho, (inn_iff' _ _).2 ⟨by omega, by omega⟩, (inn_iff' _ _).2 ⟨by omega, by omega⟩⟩
  unfold muteTurns at ht
  split at ht
  · rw [List.mem_singleton] at ht
    subst ht
    exact ⟨by simp, by simp, Or.inr ho⟩
  · rcases List.mem_cons.1 ht with rfl | ht
    · exact ⟨by simp, by simp, Or.inr ho⟩
    · exact waits_const t ht
theorem turns_good {R : Room} {o : Op} (hI : Inv R) (ok : Ok R o) (sv : Value) : Good (opens R) (turns R o sv).1 (opens (turns R o sv).2) := by
  obtain ⟨p, hp⟩ := Int.eq_ofNat_of_zero_le (show 0 ≤ o.peer by have := ok.peer; omega)
  have hp1 : 1 ≤ p ∧ p < 9 := by have := ok.peer; omega
  have ep : o.peer.toNat = p := by rw [hp]; rfl
  unfold turns
  dsimp only
  by_cases k2 : o.kind = 2
  · rw [if_pos k2]; exact Good.nil _
  rw [if_neg k2]
  by_cases k3 : o.kind = 3
  · rw [if_pos k3, ep]; exact leave_good R hI p hp1
  rw [if_neg k3]
  have k4' : 4 ≤ o.kind := by have := ok.kind; omega
  obtain ⟨n, hn⟩ := Int.eq_ofNat_of_zero_le (show 0 ≤ o.source by have := ok.src k4'; omega)
  have hn1 : 1 ≤ n ∧ n < 9 := by have := ok.src k4'; omega
  have en : o.source.toNat = n := by rw [hn]; rfl
  have hip : inn o.peer 9 = true := (inn_iff' _ _).2 ⟨by omega, by omega⟩
  have hin : inn o.source 9 = true := (inn_iff' _ _).2 ⟨by omega, by omega⟩
  rw [ep, en]
  by_cases k4 : o.kind = 4
  · rw [if_pos k4]; exact Good.nil _
  rw [if_neg k4]
  have k5' : 5 ≤ o.kind := by omega
  by_cases k5 : o.kind = 5
  · rw [if_pos k5]; exact gone_good R hn1
  rw [if_neg k5]
  by_cases k6 : o.kind = 6
  · rw [if_pos k6]
    have hs := (about_sub (ok.abt k5') k6).2.1
    rw [ep, en] at hs
    have e1 := opens_begin R (n := n) (p := p) ⟨true, false, o.layer⟩ rfl hp1.1 hp1.2 hn1.1 hn1.2
    unfold begin
    dsimp only
    rw [ep, en]
    refine Good.cons (S1 := opens (R.setSub n p ⟨true, false, o.layer⟩)) ?_ ?_ (good_const _ fun t ht => ?_)
    · refine chk_of (p := p) (n := n) hp hn hp1.1 hp1.2 hn1.1 hn1.2 ?_
      show (!opens R (o.peer, o.source)) = true
      rw [hp, hn, opens_at hp1.1 hp1.2 hn1.1 hn1.2, hs]; rfl
    · rw [e1]
      unfold nextS key2
      rw [if_pos rfl]
      dsimp only
      rw [hp, hn]
    · split at ht
      · rw [List.mem_singleton] at ht
        subst ht
        refine ⟨by simp, by simp, Or.inr ⟨?_, hip, hin⟩⟩
        show opens _ (o.peer, o.source) = true
        rw [hp, hn, opens_at hp1.1 hp1.2 hn1.1 hn1.2, setSub_sub, if_pos ⟨rfl, rfl⟩]
      · rw [List.mem_singleton] at ht
        subst ht
        exact ⟨by simp [asks], by simp [asks], Or.inl rfl⟩
  rw [if_neg k6]
  by_cases k7 : o.kind = 7
  · rw [if_pos k7]
    have hs := (about_hear (ok.abt k5') (Or.inl k7)).1
    rw [ep, en] at hs
    refine Good.cons ?_ ?_ (Good.nil _)
    · refine chk_of (p := p) (n := n) hp hn hp1.1 hp1.2 hn1.1 hn1.2 ?_
      show opens R (o.peer, o.source) = true
      rw [hp, hn, opens_at hp1.1 hp1.2 hn1.1 hn1.2]; exact hs
    · rw [opens_end]
      unfold nextS key2
      rw [if_neg (show ¬ (2 : Int) = 1 by decide), if_pos rfl]
      dsimp only
      rw [hp, hn]
  rw [if_neg k7]
  by_cases k8 : o.kind = 8
  · rw [if_pos k8]; exact mute_good R true
  rw [if_neg k8]
  by_cases k9 : o.kind = 9
  · rw [if_pos k9]; exact mute_good R false
  rw [if_neg k9]
  have hs := (about_hear (ok.abt k5') (Or.inr (by omega))).1
  rw [ep, en] at hs
  have ho : opens R (o.peer, o.source) = true ∧ inn o.peer 9 = true ∧ inn o.source 9 = true := ⟨by rw [hp, hn, opens_at hp1.1 hp1.2 hn1.1 hn1.2]; exact hs, hip, hin⟩
  by_cases k10 : o.kind = 10
  · rw [if_pos k10]
    dsimp only
    rw [opens_keep R n p ⟨(R.sub n p).there, true, (R.sub n p).want⟩ rfl]
    refine good_const _ fun t ht => ?_
    rw [List.mem_singleton] at ht
    subst ht
    exact ⟨by simp, by simp, Or.inr ho⟩
  rw [if_neg k10]
  by_cases k11 : o.kind = 11
  · rw [if_pos k11]
    dsimp only
    rw [opens_keep R n p ⟨(R.sub n p).there, false, (R.sub n p).want⟩ rfl]
    refine good_const _ fun t ht => ?_
    rcases List.mem_cons.1 ht with rfl | ht
    · exact ⟨by simp, by simp, Or.inr ho⟩
    · exact waits_const t ht
  rw [if_neg k11]
  by_cases k12 : o.kind = 12
  · rw [if_pos k12]
    dsimp only
    rw [opens_keep R n p ⟨(R.sub n p).there, (R.sub n p).paused, o.layer⟩ rfl]
    refine good_const _ fun t ht => ?_
    rcases List.mem_cons.1 ht with rfl | ht
    · exact ⟨by simp, by simp, Or.inr ho⟩
    · exact waits_const t ht
  rw [if_neg k12]
  exact Good.nil _
theorem doo_good {R : Room} (hI : Inv R) (o : Op) (sv : Value) : Good (opens R) (doo R o sv).1.1 (opens (doo R o sv).1.2) := by
  unfold doo
  by_cases h0 : wrong R o = 0
  · rw [if_neg (by simpa using h0)]; exact turns_good hI (wrong_ok h0) sv
  · rw [if_pos h0]; exact Good.nil _
theorem doo_len (R : Room) (o : Op) (sv : Value) : (doo R o sv).1.1.length ≤ 200 := by
  have hw : ∀ R p n, (waits R p n).length ≤ 1 := fun R p n => by unfold waits; split <;> simp
  unfold doo
  by_cases h0 : wrong R o ≠ 0
  · rw [if_pos h0]; exact Nat.zero_le _
  rw [if_neg h0]
  unfold turns
  dsimp only
  by_cases k2 : o.kind = 2
  · rw [if_pos k2]; exact Nat.zero_le _
  rw [if_neg k2]
  by_cases k3 : o.kind = 3
  · rw [if_pos k3]
    show (leave R o.peer.toNat).1.length ≤ 200
    unfold leave
    rw [List.length_append]
    have h1 := leave1_len o.peer.toNat R 9
    have h2 := leave2_len o.peer.toNat (leave1 o.peer.toNat R 9).2 9
    omega
  rw [if_neg k3]
  by_cases k4 : o.kind = 4
  · rw [if_pos k4]; exact Nat.zero_le _
  rw [if_neg k4]
  by_cases k5 : o.kind = 5
  · rw [if_pos k5]
    have := gone_len R o.source.toNat; omega
  rw [if_neg k5]
  by_cases k6 : o.kind = 6
  · rw [if_pos k6]
    show (_ :: _ : List Turn).length ≤ 200
    rw [List.length_cons]
    split <;> exact of_decide_eq_true rfl
  rw [if_neg k6]
  by_cases k7 : o.kind = 7
  · rw [if_pos k7]; exact of_decide_eq_true rfl
  rw [if_neg k7]
  have hm : ∀ on, (mute R o.source.toNat on).1.length ≤ 200 := fun on => by
    have h1 := muteAll_len (R.setSrc o.source.toNat { R.src o.source.toNat with muted := on }) o.source.toNat on (subs (R.setSrc o.source.toNat { R.src o.source.toNat with muted := on }) o.source.toNat)
    have h2 := subs_len (R.setSrc o.source.toNat { R.src o.source.toNat with muted := on }) o.source.toNat
    show (List.flatMap _ _).length ≤ 200
    omega
  by_cases k8 : o.kind = 8
  · rw [if_pos k8]; exact hm true
  rw [if_neg k8]
  by_cases k9 : o.kind = 9
  · rw [if_pos k9]; exact hm false
  rw [if_neg k9]
  by_cases k10 : o.kind = 10
  · rw [if_pos k10]; exact of_decide_eq_true rfl
  rw [if_neg k10]
  by_cases k11 : o.kind = 11
  · rw [if_pos k11]
    show (_ :: waits _ _ _ : List Turn).length ≤ 200
    rw [List.length_cons]
    exact Nat.le_trans (Nat.succ_le_succ (hw _ _ _)) (by decide)
  rw [if_neg k11]
  by_cases k12 : o.kind = 12
  · rw [if_pos k12]
    show (_ :: waits _ _ _ : List Turn).length ≤ 200
    rw [List.length_cons]
    exact Nat.le_trans (Nat.succ_le_succ (hw _ _ _)) (by decide)
  rw [if_neg k12]
  exact Nat.zero_le _
theorem opens_empty : opens empty = fun _ => false := by
  funext x
  rw [Bool.eq_false_iff]
  intro h
  obtain ⟨p, n, _, _, _, _, _, h5⟩ := opens_iff.1 h
  cases h5
/-! ### all leave -/
def leaveOp (p : Int) : Op := ⟨3, p, 0, 0, [], []⟩
/-- The peers from 1 to k are not there. -/
def Left (R : Room) (k : Nat) : Prop := ∀ p, 1 ≤ p → p ≤ k → R.names p = []
theorem leave_names (R : Room) (p q : Nat) : (leave R p).2.names q = if q = p then [] else R.names q := by
  show ((leave2 (leave1 p R 9).2 p 9).2.setName p []).names q = _
  rw [setName_names, leave2_names, (leave1_names R p 9).1]
theorem left_doo {R : Room} {k : Nat} (hk : k < 8) (h : Left R k) (sv : Value) : Left (doo R (leaveOp (k + 1 : Nat)) sv).1.2 (k + 1) := by
  unfold doo
  by_cases h0 : wrong R (leaveOp (k + 1 : Nat)) = 0
  · rw [if_neg (by simpa using h0)]
    show Left (turns R (leaveOp (k + 1 : Nat)) sv).2 (k + 1)
    have e : turns R (leaveOp (k + 1 : Nat)) sv = leave R (k + 1) := by
      unfold turns leaveOp
      dsimp only
      rw [if_neg (by decide), if_pos rfl, Int.toNat_natCast]
    rw [e]
    intro p h1 h2
    rw [leave_names]
    split
    · rfl
    · exact h p h1 (by omega)
  · rw [if_pos h0]
    show Left R (k + 1)
    intro p h1 h2
    by_cases hp : p = k + 1
    · subst hp
      have hj : joined R ((k + 1 : Nat) : Int) = false := by
        cases hj : joined R ((k + 1 : Nat) : Int)
        · rfl
        · exfalso
          apply h0
          unfold wrong leaveOp
          dsimp only
          rw [if_neg (by omega), if_neg (by rw [(inn_iff' _ _).2 ⟨by omega, by omega⟩]; decide), if_neg (by decide), if_neg (by rw [hj]; decide), if_pos rfl]
      rw [Bool.eq_false_iff] at hj
      cases hn : R.names (k + 1) with
      | nil => rfl
      | cons a b => exact absurd (joined_nat.2 ⟨by omega, by omega, by rw [hn]; simp⟩) hj
    · exact h p h1 (by omega)
theorem left_joined {R : Room} (h : Left R 8) (p : Int) : joined R p = false := by
  rw [Bool.eq_false_iff]
  intro hj
  unfold joined at hj
  rw [Bool.and_eq_true, inn_iff'] at hj
  rw [h p.toNat (by omega) (by omega)] at hj
  exact absurd hj.2 (by decide)
theorem left_all {R : Room} (hI : Inv R) (h : Left R 8) : table R = ⟨[], [], []⟩ ∧ opens R = fun _ => false := by
  have hs : ∀ n, (R.src n).there = false := fun n => by
    rw [Bool.eq_false_iff]
    intro ht
    have := (hI.srcAt n ht).2.2.2.1
    rw [left_joined h] at this
    cases this
  have hu : ∀ n p, (R.sub n p).there = false := fun n p => by
    rw [Bool.eq_false_iff]
    intro ht
    have := (hI.subAt n p ht).2.2.2.2.1
    rw [hs n] at this
    cases this
  refine ⟨?_, ?_⟩
  · have e1 : tPeers R 9 = [] := by
      unfold tPeers
      rw [List.map_eq_nil_iff, List.filter_eq_nil_iff]
      intro p _
      rw [left_joined h]; decide
    have e2 : tSrcs R 9 = [] := by
      unfold tSrcs
      rw [List.map_eq_nil_iff, List.filter_eq_nil_iff]
      intro n _
      unfold hasSrc
      rw [hs n]; simp
    have e3 : tSubs R 9 = [] := by
      unfold tSubs
      rw [List.flatMap_eq_nil_iff]
      intro n _
      unfold tSubs1
      rw [List.map_eq_nil_iff, List.eq_nil_iff_forall_not_mem]
      intro p hp
      have := (mem_subs.1 hp).2.2.2.2
      rw [hu n p] at this
      cases this
    unfold table
    rw [e1, e2, e3]
  · funext x
    rw [Bool.eq_false_iff]
    intro hx
    obtain ⟨p, n, _, _, _, _, _, h5⟩ := opens_iff.1 hx
    rw [hu n p] at h5
    cases h5
end Go.Proofs.Rm
