/- Several texts in one: The plain room: the slice values beside the sources' lists of SSRCs change nothing. No program in sight. The walk of the law RoomGone, out of the contracts. -/
import Derived.StillTailTactics
import Derived.Deep.RegionHeld3
import Derived.Test.YtpdjhlcbcomdkaaGreatDoorF14
import Derived.Test.YtpdjhlcbcomdkaaGreatDoorF15
import Derived.Test.YtpdjhlcbcomdkaaGreatDoorF18
namespace Go.Proofs.Rm
open Go.Proofs.Lab (may key)
def Src.bare (s : Src) : Src := { s with sv := .slice none 0 0 }
def Room.bare (R : Room) : Room := ⟨R.names, fun n => (R.src n).bare, R.sub⟩
theorem ofGo_bare (R : Room) (x : Int) : ∀ k n, ofGo R.bare x k n = ofGo R x k n
  | 0, _ => rfl
  | k + 1, n => by
    show (if (R.src n).there && decide (0 ≤ index (R.src n).ss x) then ((n : Int), index (R.src n).ss x, true) else ofGo R.bare x k (n + 1)) = _
    rw [ofGo_bare R x k (n + 1)]
    rfl
theorem of_bare (R : Room) (x : Int) : of R.bare x = of R x := ofGo_bare R x 9 0
theorem twice_bare (R : Room) (l : List Int) : twice R.bare l = twice R l := by
  funext i
  unfold twice
  rw [of_bare]
theorem publishes_bare (R : Room) (o : Op) : publishes R.bare o = publishes R o := by
  unfold publishes
  rw [twice_bare]
  rfl
theorem wrong_bare (R : Room) (o : Op) : wrong R.bare o = wrong R o := by
  unfold wrong
  rw [publishes_bare]
  rfl
theorem bare_setSrc (R : Room) (n : Nat) (x : Src) : (R.setSrc n x).bare = R.bare.setSrc n x.bare := by
  unfold Room.setSrc Room.bare
  congr 1
  funext m
  dsimp only
  split <;> rfl
theorem goneGo_bare (n : Nat) : ∀ l R, goneGo n l R.bare = ((goneGo n l R).1, (goneGo n l R).2.bare)
  | [], R => rfl
  | p :: l, R => by
    have ih := goneGo_bare n l (R.setSub n p noSub)
    show ((⟨3, p, n, 0, 0⟩ : Turn) :: ⟨2, p, n, 0, 0⟩ :: (goneGo n l (R.setSub n p noSub).bare).1, (goneGo n l (R.setSub n p noSub).bare).2) = _
    rw [ih]
    rfl
theorem gone_bare (R : Room) (n : Nat) : gone R.bare n = ((gone R n).1, (gone R n).2.bare) := by
  unfold gone
  dsimp only
  rw [show subs R.bare n = subs R n from rfl, goneGo_bare, bare_setSrc]
  rfl
theorem leave1_bare (p : Nat) (R : Room) : ∀ k, leave1 p R.bare k = ((leave1 p R k).1, (leave1 p R k).2.bare)
  | 0 => rfl
  | k + 1 => by
    have ih := leave1_bare p R k
    unfold leave1
    dsimp only
    rw [ih]
    dsimp only
    show (if ((leave1 p R k).2.sub k p).there = true then _ else _) = _
    split <;> rfl
theorem leave2_bare (R : Room) (p : Nat) : ∀ k, leave2 R.bare p k = ((leave2 R p k).1, (leave2 R p k).2.bare)
  | 0 => rfl
  | k + 1 => by
    have ih := leave2_bare R p k
    unfold leave2
    dsimp only
    rw [ih]
    dsimp only
    rw [gone_bare]
    show (if ((R.src k).there && decide ((R.src k).own = p)) = true then _ else _) = _
    split <;> rfl
theorem leave_bare (R : Room) (p : Nat) : leave R.bare p = ((leave R p).1, (leave R p).2.bare) := by
  unfold leave
  rw [leave1_bare, leave2_bare]
  rfl
theorem begin_bare (R : Room) (o : Op) : begin R.bare o = ((begin R o).1, (begin R o).2.bare) := rfl
theorem mute_bare (R : Room) (n : Nat) (on : Bool) : mute R.bare n on = ((mute R n on).1, (mute R n on).2.bare) := by
  have h : R.bare.setSrc n { R.bare.src n with muted := on } = (R.setSrc n { R.src n with muted := on }).bare := by rw [bare_setSrc]; rfl
  unfold mute
  dsimp only
  rw [h]
  rfl
theorem turns_bare (R : Room) (o : Op) (sv sv' : Value) : (turns R.bare o sv').1 = (turns R o sv).1 ∧ (turns R.bare o sv').2.bare = (turns R o sv).2.bare := by
  have bb : ∀ Q : Room, Q.bare.bare = Q.bare := fun _ => rfl
  unfold turns
  dsimp only
  by_cases k2 : o.kind = 2
  · rw [if_pos k2, if_pos k2]; exact ⟨rfl, rfl⟩
  rw [if_neg k2, if_neg k2]
  by_cases k3 : o.kind = 3
  · rw [if_pos k3, if_pos k3, leave_bare]; exact ⟨rfl, rfl⟩
  rw [if_neg k3, if_neg k3]
  by_cases k4 : o.kind = 4
  · rw [if_pos k4, if_pos k4]; exact ⟨rfl, by rw [bare_setSrc, bare_setSrc]; rfl⟩
  rw [if_neg k4, if_neg k4]
  by_cases k5 : o.kind = 5
  · rw [if_pos k5, if_pos k5, gone_bare]; exact ⟨rfl, rfl⟩
  rw [if_neg k5, if_neg k5]
  by_cases k6 : o.kind = 6
  · rw [if_pos k6, if_pos k6, begin_bare]; exact ⟨rfl, rfl⟩
  rw [if_neg k6, if_neg k6]
  by_cases k7 : o.kind = 7
  · rw [if_pos k7, if_pos k7]; exact ⟨rfl, rfl⟩
  rw [if_neg k7, if_neg k7]
  by_cases k8 : o.kind = 8
  · rw [if_pos k8, if_pos k8, mute_bare]; exact ⟨rfl, rfl⟩
  rw [if_neg k8, if_neg k8]
  by_cases k9 : o.kind = 9
  · rw [if_pos k9, if_pos k9, mute_bare]; exact ⟨rfl, rfl⟩
  rw [if_neg k9, if_neg k9]
  by_cases k10 : o.kind = 10
  · rw [if_pos k10, if_pos k10]; exact ⟨rfl, rfl⟩
  rw [if_neg k10, if_neg k10]
  by_cases k11 : o.kind = 11
  · rw [if_pos k11, if_pos k11]; exact ⟨rfl, rfl⟩
  rw [if_neg k11, if_neg k11]
  by_cases k12 : o.kind = 12
  · rw [if_pos k12, if_pos k12]; exact ⟨rfl, rfl⟩
  rw [if_neg k12, if_neg k12]
  exact ⟨rfl, rfl⟩
theorem doo_bare (R : Room) (o : Op) (sv sv' : Value) : (doo R.bare o sv').1.1 = (doo R o sv).1.1 ∧ (doo R.bare o sv').2 = (doo R o sv).2 ∧ (doo R.bare o sv').1.2.bare = (doo R o sv).1.2.bare := by
  unfold doo
  rw [wrong_bare]
  by_cases h : wrong R o = 0
  · rw [if_neg (by simpa using h), if_neg (by simpa using h)]
    obtain ⟨h1, h2⟩ := turns_bare R o sv sv'
    exact ⟨h1, rfl, h2⟩
  · rw [if_pos h, if_pos h]
    exact ⟨rfl, rfl, rfl⟩
theorem doo_eqv {R R' : Room} (h : R.bare = R'.bare) (o : Op) (sv sv' : Value) : (doo R o sv).1.1 = (doo R' o sv').1.1 ∧ (doo R o sv).2 = (doo R' o sv').2 ∧ (doo R o sv).1.2.bare = (doo R' o sv').1.2.bare := by
  obtain ⟨a, b, c⟩ := doo_bare R o sv sv'
  obtain ⟨d, e, f⟩ := doo_bare R' o sv' sv'
  rw [h] at a b c
  exact ⟨a.symm.trans d, b.symm.trans e, c.symm.trans f⟩
theorem gone_eqv {R R' : Room} (h : R.bare = R'.bare) (n : Nat) : (gone R n).1 = (gone R' n).1 ∧ (gone R n).2.bare = (gone R' n).2.bare := by
  have a := gone_bare R n
  have b := gone_bare R' n
  rw [h] at a
  have := a.symm.trans b
  rw [Prod.mk.injEq] at this
  exact this
/-- A farewell with an SSRC of a source does what its owner does who unpublishes it. -/
theorem goneOp_doo {R : Room} (hI : Inv R) {p x : Int} (h1 : (of R x).2.2 = true) (h2 : (R.src (of R x).1.toNat).own = p) (sv : Value) : goneOp R p x = (gone R (of R x).1.toNat, 0) ∧ doo R ⟨5, p, (of R x).1, 0, [], []⟩ sv = (gone R (of R x).1.toNat, 0) := by
  obtain ⟨m, hm, ht, _, ho⟩ := of_some h1
  have hn : (of R x).1.toNat = m := by rw [ho]; rfl
  have hI' := hI.srcAt m ht
  rw [hn] at h2 ⊢
  have hj : joined R p = true := by rw [← h2]; exact hI'.2.2.2.1
  constructor
  · unfold goneOp
    rw [hn, h1, hj, h2]
    simp
  · have hw : wrong R ⟨5, p, (of R x).1, 0, [], []⟩ = 0 := by
      have hjj := hj
      unfold joined at hjj
      rw [Bool.and_eq_true] at hjj
      have hi : inn ((of R x).1) 9 = true := by rw [ho]; exact inn_nat.2 ⟨hI'.1, by omega⟩
      unfold wrong
      rw [if_neg (by dsimp only; omega)]
      dsimp only
      rw [hjj.1, hj, hi, hn, ht]
      unfold about
      dsimp only
      rw [hn, h2]
      simp
    unfold doo
    rw [hw, if_neg (by simp)]
    show (gone R (of R x).1.toNat, (0 : Int)) = _
    rw [hn]
theorem goneOp_none {R : Room} {p x : Int} (h : (of R x).2.2 = false ∨ (R.src (of R x).1.toNat).own ≠ p) : goneOp R p x = (([], R), 8) := by
  unfold goneOp
  rcases h with h | h
  · rw [h]; simp
  · simp [h]
end Go.Proofs.Rm
namespace Go.Proofs.Rm
open Go.RowKit Go.Proofs.Heap Go.Proofs.Mem
open Go.Proofs.Lab (may key Tabs)
theorem ofGo_no (R : Room) (x : Int) : ∀ k n, (ofGo R x k n).2.2 = false → ofGo R x k n = (0, 0, false)
  | 0, _, _ => rfl
  | k + 1, n, h => by
    unfold ofGo at h ⊢
    by_cases hc : ((R.src n).there && decide (0 ≤ index (R.src n).ss x)) = true
    · rw [if_pos hc] at h; cases h
    · rw [if_neg hc] at h ⊢; exact ofGo_no R x k (n + 1) h
theorem of_no {R : Room} {x : Int} (h : (of R x).2.2 = false) : of R x = (0, 0, false) := ofGo_no R x 9 0 h
theorem table_eqv {R R' : Room} (h : R.bare = R'.bare) : table R = table R' := by
  have a : table R.bare = table R := rfl
  have b : table R'.bare = table R' := rfl
  rw [← a, ← b, h]
/-- What 'Source' leaves, whatever the number. -/
theorem Source_any (b : Nat) (R : Room) (n : Nat) (w : World) (hR : RoomAt w b R) (hI : Inv R) (hl : ∀ n, (R.src n).ss.length ≤ 1000000) :
    Calls Tryz.prog 81 #[.pointer (some ⟨b, 0, none⟩), .int .i64 n] w fun e w' =>
      (∃ (nm ow : Int) (a : Option Addr) (k c : Nat) (mu has : Bool), e = .returned (.tuple #[.agg #[.int .i64 nm, .int .i64 ow, .slice a k c, .bool mu], .bool has]) ∧ has = (R.src n).there ∧ (has = true → ow = (R.src n).own)) ∧ Below w.heap.size w w' := by
  cases ht : (R.src n).there
  · refine (Source_no b R n w hR ?_).mono ?_
    · rw [Int.toNat_natCast, ht, Bool.and_false]
    · rintro e w' ⟨rfl, hb⟩
      exact ⟨⟨_, _, _, _, _, _, _, rfl, rfl, fun h => by cases h⟩, hb⟩
  · have hs := hI.srcAt n ht
    refine (Source_yes b R n w hR ⟨hs.1, hs.2.1⟩ ht (hl n)).mono ?_
    rintro e w' ⟨⟨v', rfl, ⟨a, c, rfl, _⟩⟩, hb⟩
    exact ⟨⟨_, _, _, _, _, _, _, rfl, rfl, fun _ => rfl⟩, hb⟩
end Go.Proofs.Rm
