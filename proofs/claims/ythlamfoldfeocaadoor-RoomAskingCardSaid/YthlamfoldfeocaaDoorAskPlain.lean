/- The plain room: a key frame is asked for of a source's owner, of a layer that a subscriber wants who is not paused, of a source that is not muted. No program in sight. -/
import Derived.Test.YthlamfoldfeocaaDoorRoomPlain2
namespace Go.Proofs.Rm
def AskOk (R : Room) (t : Turn) : Prop :=
  ∃ n p : Nat, t.source = n ∧ 1 ≤ n ∧ n < 9 ∧ (R.src n).there = true ∧ (R.src n).own = t.peer ∧ (R.src n).muted = false ∧ of R t.ssrc = ((n : Int), (R.sub n p).want, true) ∧ p ∈ subs R n ∧ (R.sub n p).paused = false
theorem index_nodup {l : List Int} (h : l.Nodup) {k : Nat} (hk : k < l.length) : index l (l.getD k 0) = k := by
  have hx : l.getD k 0 = l[k] := by rw [List.getD_eq_getElem?_getD, List.getElem?_eq_getElem hk]; rfl
  rw [hx]
  unfold index
  have : l.findIdx? (fun y => y == l[k]) = some k := by
    rw [List.findIdx?_eq_some_iff_getElem]
    refine ⟨hk, by simp, fun j hj => ?_⟩
    have := List.pairwise_iff_getElem.1 h j k (by omega) hk hj
    simpa using this
  rw [this]
theorem of_at {R : Room} (hI : Inv R) {n k : Nat} (ht : (R.src n).there = true) (hk : k < (R.src n).ss.length) : of R ((R.src n).ss.getD k 0) = ((n : Int), (k : Int), true) := by
  have hn := hI.srcAt n ht
  have hx : (R.src n).ss.getD k 0 ∈ (R.src n).ss := by
    rw [List.getD_eq_getElem?_getD, List.getElem?_eq_getElem hk]; exact List.getElem_mem hk
  have hs : (of R ((R.src n).ss.getD k 0)).2.2 = true := by
    cases h : (of R ((R.src n).ss.getD k 0)).2.2
    · exact absurd hx (of_none.1 h n hn.2.1 ht)
    · rfl
  obtain ⟨m, hm, htm, hxm, ho⟩ := of_some hs
  obtain rfl : n = m := hI.apart n m _ ht htm hx hxm
  rw [ho, index_nodup hn.2.2.2.2.2.2.1 hk]
theorem ask_ok {R : Room} (hI : Inv R) {n p : Nat} (ht : (R.sub n p).there = true) (hp : (R.sub n p).paused = false) (hm : (R.src n).muted = false) : AskOk R (asks R p n) := by
  have hs := hI.subAt n p ht
  obtain ⟨k, hk⟩ := Int.eq_ofNat_of_zero_le hs.2.2.2.2.2.2.2.1
  have hw := hs.2.2.2.2.2.2.2.2
  rw [hk] at hw
  refine ⟨n, p, rfl, hs.1, hs.2.1, hs.2.2.2.2.1, rfl, hm, ?_, hI.mem_subs.2 ht, hp⟩
  show of R ((R.src n).ss.getD (R.sub n p).want.toNat 0) = _
  rw [hk, Int.toNat_natCast, of_at hI hs.2.2.2.2.1 (by omega)]
theorem waits_ok {R : Room} (hI : Inv R) {n p : Nat} (ht : (R.sub n p).there = true) {t : Turn} (h : t ∈ waits R p n) : AskOk R t := by
  unfold waits at h
  cases h1 : (R.sub n p).paused
  · cases h2 : (R.src n).muted
    · rw [h1, h2] at h
      have h : t ∈ [asks R p n] := h
      rw [List.mem_singleton] at h
      subst h
      exact ask_ok hI ht h1 h2
    · rw [h2] at h; simp at h
  · rw [h1] at h; simp at h
theorem goneGo_kind (n : Nat) : ∀ l R, ∀ t ∈ (goneGo n l R).1, t.kind ≠ 9
  | [], _, t, h => by simp [goneGo] at h
  | p :: l, R, t, h => by
    have h : t ∈ (⟨3, p, n, 0, 0⟩ : Turn) :: ⟨2, p, n, 0, 0⟩ :: (goneGo n l (R.setSub n p noSub)).1 := h
    rcases List.mem_cons.1 h with rfl | h
    · simp
    rcases List.mem_cons.1 h with rfl | h
    · simp
    exact goneGo_kind n l _ t h
theorem gone_kind (R : Room) (n : Nat) : ∀ t ∈ (gone R n).1, t.kind ≠ 9 := goneGo_kind n _ _
theorem leave1_kind (p : Nat) (R : Room) : ∀ k, ∀ t ∈ (leave1 p R k).1, t.kind ≠ 9
  | 0, t, h => by simp [leave1] at h
  | k + 1, t, h => by
    unfold leave1 at h
    dsimp only at h
    split at h
    · rcases List.mem_append.1 h with h | h
      · exact leave1_kind p R k t h
      · rw [List.mem_singleton] at h; subst h; simp
    · exact leave1_kind p R k t h
theorem leave2_kind (p : Nat) (R : Room) : ∀ k, ∀ t ∈ (leave2 R p k).1, t.kind ≠ 9
  | 0, t, h => by simp [leave2] at h
  | k + 1, t, h => by
    unfold leave2 at h
    dsimp only at h
    split at h
    · rcases List.mem_append.1 h with h | h
      · exact leave2_kind p R k t h
      · exact gone_kind _ _ t h
    · exact leave2_kind p R k t h
theorem turns_ask {R : Room} {o : Op} (hI : Inv R) (ok : Ok R o) (sv : Value) : ∀ t ∈ (turns R o sv).1, t.kind = 9 → AskOk (turns R o sv).2 t := by
  have hI2 := inv_turns hI ok sv
  obtain ⟨kd, p, n, q, nm, ss⟩ := o
  obtain ⟨hk, hp, hj, ht, hs, hpub, his, habt⟩ := ok
  dsimp only at *
  obtain ⟨p, rfl⟩ := Int.eq_ofNat_of_zero_le (show 0 ≤ p by omega)
  intro t h h9
  by_cases k2 : kd = 2
  · subst k2; have h : t ∈ ([] : List Turn) := h; simp at h
  by_cases k3 : kd = 3
  · subst k3
    have h : t ∈ (leave1 p R 9).1 ++ (leave2 (leave1 p R 9).2 p 9).1 := h
    rcases List.mem_append.1 h with h | h
    · exact absurd h9 (leave1_kind p R 9 t h)
    · exact absurd h9 (leave2_kind p _ 9 t h)
  obtain ⟨n, rfl⟩ := Int.eq_ofNat_of_zero_le (show 0 ≤ n by have := hs (by omega); omega)
  by_cases k4 : kd = 4
  · subst k4; have h : t ∈ ([] : List Turn) := h; simp at h
  have habt := habt (by omega)
  by_cases k5 : kd = 5
  · subst k5; exact absurd h9 (gone_kind R n t h)
  by_cases k6 : kd = 6
  · subst k6
    have hI3 : Inv (R.setSub n p ⟨true, false, q⟩) := hI2
    have h : t ∈ (⟨1, p, n, q, 0⟩ : Turn) :: (if (R.src n).muted then [⟨6, p, n, 0, 0⟩] else [asks (R.setSub n p ⟨true, false, q⟩) p n]) := h
    show AskOk (R.setSub n p ⟨true, false, q⟩) t
    rcases List.mem_cons.1 h with rfl | h
    · exact absurd h9 (by simp)
    cases hm : (R.src n).muted
    · rw [hm] at h
      have h : t ∈ [asks (R.setSub n p ⟨true, false, q⟩) p n] := h
      rw [List.mem_singleton] at h
      subst h
      exact ask_ok hI3 (by rw [setSub_sub, if_pos ⟨rfl, rfl⟩]) (by rw [setSub_sub, if_pos ⟨rfl, rfl⟩]) hm
    · rw [hm] at h
      have h : t ∈ [(⟨6, p, n, 0, 0⟩ : Turn)] := h
      rw [List.mem_singleton] at h
      subst h
      exact absurd h9 (by simp)
  by_cases k7 : kd = 7
  · subst k7
    have h : t ∈ [(⟨2, p, n, 0, 0⟩ : Turn)] := h
    rw [List.mem_singleton] at h
    subst h
    exact absurd h9 (by simp)
  by_cases k8 : kd = 8
  · subst k8
    have h : t ∈ (subs (R.setSrc n { R.src n with muted := true }) n).flatMap (muteTurns (R.setSrc n { R.src n with muted := true }) n true) := h
    obtain ⟨p', _, h⟩ := List.mem_flatMap.1 h
    have h : t ∈ [(⟨6, p', n, 0, 0⟩ : Turn)] := h
    rw [List.mem_singleton] at h
    subst h
    exact absurd h9 (by simp)
  by_cases k9 : kd = 9
  · subst k9
    have hI3 : Inv (R.setSrc n { R.src n with muted := false }) := hI2
    show AskOk (R.setSrc n { R.src n with muted := false }) t
    have h : t ∈ (subs (R.setSrc n { R.src n with muted := false }) n).flatMap (muteTurns (R.setSrc n { R.src n with muted := false }) n false) := h
    obtain ⟨p', hp', h⟩ := List.mem_flatMap.1 h
    have h : t ∈ (⟨7, p', n, 0, 0⟩ : Turn) :: waits (R.setSrc n { R.src n with muted := false }) p' n := h
    rcases List.mem_cons.1 h with rfl | h
    · exact absurd h9 (by simp)
    · exact waits_ok hI3 (hI3.mem_subs.1 hp') h
  obtain ⟨h1, _, _, _⟩ := about_hear habt (by right; show 10 ≤ kd; omega)
  have h1 : (R.sub n p).there = true := h1
  by_cases k10 : kd = 10
  · subst k10
    have h : t ∈ [(⟨4, p, n, 0, 0⟩ : Turn)] := h
    rw [List.mem_singleton] at h
    subst h
    exact absurd h9 (by simp)
  by_cases k11 : kd = 11
  · subst k11
    have hI3 : Inv (R.setSub n p { R.sub n p with paused := false }) := hI2
    show AskOk (R.setSub n p { R.sub n p with paused := false }) t
    have h : t ∈ (⟨5, p, n, 0, 0⟩ : Turn) :: waits (R.setSub n p { R.sub n p with paused := false }) p n := h
    rcases List.mem_cons.1 h with rfl | h
    · exact absurd h9 (by simp)
    · exact waits_ok hI3 (by rw [setSub_sub, if_pos ⟨rfl, rfl⟩]; exact h1) h
  obtain rfl : kd = 12 := by omega
  have hI3 : Inv (R.setSub n p { R.sub n p with want := q }) := hI2
  show AskOk (R.setSub n p { R.sub n p with want := q }) t
  have h : t ∈ (⟨8, p, n, q, 0⟩ : Turn) :: waits (R.setSub n p { R.sub n p with want := q }) p n := h
  rcases List.mem_cons.1 h with rfl | h
  · exact absurd h9 (by simp)
  · exact waits_ok hI3 (by rw [setSub_sub, if_pos ⟨rfl, rfl⟩]; exact h1) h
theorem doo_ask {R : Room} (hI : Inv R) (o : Op) (sv : Value) : ∀ t ∈ (doo R o sv).1.1, t.kind = 9 → AskOk (doo R o sv).1.2 t := by
  unfold doo
  by_cases h : wrong R o = 0
  · rw [if_neg (by simpa using h)]; exact turns_ask hI (wrong_ok h) sv
  · rw [if_pos h]; intro t ht; simp at ht
end Go.Proofs.Rm
