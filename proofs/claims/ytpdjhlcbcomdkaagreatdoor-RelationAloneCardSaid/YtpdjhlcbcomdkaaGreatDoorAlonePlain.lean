/- Packets of other sources change nothing of what is sent of one. Plain. -/
import Derived.Test.YtpdjhlcbcomdkaaGreatDoorW28
import Derived.Test.YtpdjhlcbcomdkaaGreatDoorW26
set_option linter.unusedSimpArgs false
set_option linter.unusedVariables false
namespace Go.Proofs.By
open Go.Proofs.Rm (Room Turn)
theorem take_media (R : Room) (ep : Int) (o : Rm.Op) (b : List UInt8) (sv : Value) (h : (take R ep o b sv).1.1.adm.kind = 1) : (take R ep o b sv).1.1.turns = [] ∧ (take R ep o b sv).1.2 = R ∧ (take R ep o b sv).2 = ep := by
  revert h
  unfold take
  split
  · unfold datagram
    split
    · exact fun _ => ⟨rfl, rfl, rfl⟩
    split
    · exact fun _ => ⟨rfl, rfl, rfl⟩
    split
    · next p d _ =>
      intro _
      refine ⟨?_, rfl, rfl⟩
      show (mediaT R ep o.peer p d).turns = []
      unfold mediaT
      split <;> rfl
    · exact fun h => absurd h (by decide : ¬ (2 : Int) = 1)
    · exact fun h => absurd h (by decide : ¬ (2 : Int) = 1)
  · split
    · exact fun _ => ⟨rfl, rfl, rfl⟩
    · exact fun h => absurd h (by decide : ¬ (2 : Int) = 1)
/-- What stays: all but the packets of other sources. -/
def keepS (L : List OpB) (s : Int) (k : Nat) : Bool := !decide ((takenAt L k).adm.kind = 1) || decide ((takenAt L k).adm.source = s)
def kIdx (L : List OpB) (s : Int) (k : Nat) : List Nat := (List.range k).filter (keepS L s)
def rk (L : List OpB) (s : Int) (k : Nat) : Nat := (kIdx L s k).length
theorem kIdx_succ (L : List OpB) (s : Int) (k : Nat) : kIdx L s (k + 1) = kIdx L s k ++ if keepS L s k then [k] else [] := by
  unfold kIdx
  rw [List.range_succ, List.filter_append]
  cases h : keepS L s k <;> simp [h]
theorem rk_keep {L : List OpB} {s : Int} {k : Nat} (h : keepS L s k = true) : rk L s (k + 1) = rk L s k + 1 := by unfold rk; rw [kIdx_succ, if_pos h, List.length_append]; rfl
theorem rk_skip {L : List OpB} {s : Int} {k : Nat} (h : ¬ keepS L s k = true) : rk L s (k + 1) = rk L s k := by unfold rk; rw [kIdx_succ, if_neg h, List.append_nil]
theorem kIdx_pre (L : List OpB) (s : Int) (k : Nat) : ∀ d, ∃ r, kIdx L s (k + d) = kIdx L s k ++ r
  | 0 => ⟨[], (List.append_nil _).symm⟩
  | d + 1 => by
    obtain ⟨r, hr⟩ := kIdx_pre L s k d
    exact ⟨r ++ if keepS L s (k + d) then [k + d] else [], by rw [← List.append_assoc, ← hr]; exact kIdx_succ L s (k + d)⟩
theorem rk_mono (L : List OpB) (s : Int) {k n : Nat} (h : k ≤ n) : rk L s k ≤ rk L s n := by
  obtain ⟨r, hr⟩ := kIdx_pre L s k (n - k)
  rw [show k + (n - k) = n by omega] at hr
  unfold rk
  rw [hr, List.length_append]
  omega
theorem rk_lt {L : List OpB} {s : Int} {k n : Nat} (hk : keepS L s k = true) (h : k < n) : rk L s k < rk L s n := by
  have := rk_mono L s (show k + 1 ≤ n from h)
  rw [rk_keep hk] at this
  omega
theorem rk_le (L : List OpB) (s : Int) (k : Nat) : rk L s k ≤ k := by
  unfold rk kIdx
  have := List.length_filter_le (keepS L s) (List.range k)
  rwa [List.length_range] at this
theorem kIdx_at {L : List OpB} {s : Int} {k n : Nat} (hk : k < n) (ha : keepS L s k = true) : (kIdx L s n)[rk L s k]? = some k := by
  obtain ⟨r, hr⟩ := kIdx_pre L s (k + 1) (n - (k + 1))
  rw [show k + 1 + (n - (k + 1)) = n by omega, kIdx_succ, if_pos ha] at hr
  unfold rk
  rw [hr, List.append_assoc, List.getElem?_append_right (Nat.le_refl _), Nat.sub_self]
  rfl
def ownOps (L : List OpB) (s : Int) (k : Nat) : List OpB := (kIdx L s k).map fun i => L.getD i noOpB
theorem ownOps_succ (L : List OpB) (s : Int) (k : Nat) : ownOps L s (k + 1) = ownOps L s k ++ if keepS L s k then [L.getD k noOpB] else [] := by
  unfold ownOps
  rw [kIdx_succ, List.map_append]
  cases keepS L s k <;> rfl
theorem ownOps_len (L : List OpB) (s : Int) (k : Nat) : (ownOps L s k).length = rk L s k := by unfold ownOps rk; rw [List.length_map]
theorem ownOps_at {L : List OpB} {s : Int} {k : Nat} (hk : k < L.length) (ha : keepS L s k = true) : (ownOps L s L.length)[rk L s k]? = some L[k] := by
  unfold ownOps
  rw [List.getElem?_map, kIdx_at hk ha]
  show some (L.getD k noOpB) = _
  rw [List.getD_eq_getElem?_getD, List.getElem?_eq_getElem hk]
  rfl
/-- A place, a life, a packet, numbered anew. -/
def ren (L : List OpB) (s : Int) (i : Int) : Int := rk L s i.toNat
def renL (L : List OpB) (s : Int) (z : Life) : Life := ⟨z.peer, z.source, ren L s z.bgn, ren L s z.fin⟩
def renE (L : List OpB) (s : Int) (e : Emi) : Emi := { e with event := ren L s e.event }
theorem endGo_ren (L : List OpB) (q : Int) (p s at' : Int) (ls : List Life) : ∀ k, k ≤ ls.length → endGo p s (ren L q at') (ls.map (renL L q)) k = (endGo p s at' ls k).map (renL L q)
  | 0, _ => rfl
  | k + 1, hk => by
    have e1 : (ls.map (renL L q)).getD k noLife = renL L q (ls.getD k noLife) := by
      rw [List.getD_eq_getElem?_getD, List.getD_eq_getElem?_getD, List.getElem?_map, List.getElem?_eq_getElem (show k < ls.length by omega)]
      rfl
    unfold endGo
    rw [e1]
    by_cases h : (ls.getD k noLife).peer = p ∧ (ls.getD k noLife).source = s
    · rw [if_pos h, if_pos (show (renL L q (ls.getD k noLife)).peer = p ∧ (renL L q (ls.getD k noLife)).source = s from h), List.map_set]
      rfl
    · rw [if_neg h, if_neg (show ¬ ((renL L q (ls.getD k noLife)).peer = p ∧ (renL L q (ls.getD k noLife)).source = s) from h)]
      exact endGo_ren L q p s at' ls k (by omega)
theorem lifeTurn_ren (L : List OpB) (q n at' : Int) (ls : List Life) (t : Turn) : lifeTurn (ren L q n) (ren L q at') (ls.map (renL L q)) t = (lifeTurn n at' ls t).map (renL L q) := by
  unfold lifeTurn
  split
  · rw [List.map_append]; rfl
  split
  · rw [List.length_map]
    exact endGo_ren L q _ _ _ _ _ (Nat.le_refl _)
  · rfl
theorem livesOf_ren (L : List OpB) (q n at' : Int) : ∀ (ts : List Turn) (ls : List Life), livesOf (ren L q n) (ren L q at') (ls.map (renL L q)) ts = (livesOf n at' ls ts).map (renL L q)
  | [], _ => rfl
  | t :: ts, ls => by
    show livesOf _ _ (lifeTurn _ _ (ls.map (renL L q)) t) ts = (livesOf n at' (lifeTurn n at' ls t) ts).map (renL L q)
    rw [lifeTurn_ren, livesOf_ren L q n at' ts]
/-- Without the packets of other sources all goes on as before. -/
theorem own_run (L : List OpB) (s n : Int) : ∀ k, k ≤ L.length → runTo (ownOps L s L.length) (rk L s k) = runTo L k ∧ livesTo (ownOps L s L.length) (ren L s n) (rk L s k) = (livesTo L n k).map (renL L s)
  | 0, _ => ⟨rfl, rfl⟩
  | k + 1, hk => by
    have hk' : k < L.length := hk
    obtain ⟨h1, h3⟩ := own_run L s n k (by omega)
    have hy : L[k]? = some L[k] := List.getElem?_eq_getElem hk'
    obtain ⟨e1, e2⟩ := run_at hy
    have hlv : livesTo L n (k + 1) = livesOf n k (livesTo L n k) (takenAt L k).turns := rfl
    by_cases ha : keepS L s k = true
    · rw [rk_keep ha]
      obtain ⟨f1, f2⟩ := run_at (ownOps_at hk' ha)
      have e3 : takenAt (ownOps L s L.length) (rk L s k) = takenAt L k := by rw [f1, e1, h1]
      refine ⟨by rw [f2, e2, h1], ?_⟩
      have hl2 : livesTo (ownOps L s L.length) (ren L s n) (rk L s k + 1) = livesOf (ren L s n) (rk L s k) (livesTo (ownOps L s L.length) (ren L s n) (rk L s k)) (takenAt (ownOps L s L.length) (rk L s k)).turns := rfl
      rw [hl2, hlv, h3, e3, ← livesOf_ren]
      rfl
    · rw [rk_skip ha]
      have hn : (takenAt L k).adm.kind = 1 := by
        unfold keepS at ha
        simp at ha
        exact ha.1
      rw [e1] at hn
      obtain ⟨t1, t2, t3⟩ := take_media _ _ _ _ _ hn
      rw [← e1] at t1
      refine ⟨by rw [h1, e2, t2, t3, run_bare], ?_⟩
      rw [h3, hlv, t1]; rfl
theorem own_taken {L : List OpB} {s : Int} {k : Nat} (hk : k < L.length) (ha : keepS L s k = true) : takenAt (ownOps L s L.length) (rk L s k) = takenAt L k ∧ opAt (ownOps L s L.length) (rk L s k) = opAt L k := by
  have hy : L[k]? = some L[k] := List.getElem?_eq_getElem hk
  have hy2 := ownOps_at hk ha
  refine ⟨by rw [(run_at hy2).1, (run_at hy).1, (own_run L s 0 k (by omega)).1], ?_⟩
  unfold opAt
  rw [hy2, hy]
theorem endGo_bgn (p s at' : Int) (ls : List Life) : ∀ k, ∀ z ∈ endGo p s at' ls k, ∃ y, y ∈ ls ∧ y.bgn = z.bgn
  | 0, z, hz => ⟨z, hz, rfl⟩
  | k + 1, z, hz => by
    unfold endGo at hz
    split at hz
    · rcases List.mem_or_eq_of_mem_set hz with h | h
      · exact ⟨z, h, rfl⟩
      · by_cases hk : k < ls.length
        · refine ⟨ls.getD k noLife, ?_, by rw [h]⟩
          rw [List.getD_eq_getElem?_getD, List.getElem?_eq_getElem hk]
          exact List.getElem_mem hk
        · rw [List.set_eq_of_length_le (by omega)] at hz
          exact ⟨z, hz, rfl⟩
    · exact endGo_bgn p s at' ls k z hz
theorem lifeTurn_bgn (n at' : Int) (ls : List Life) (t : Turn) : ∀ z ∈ lifeTurn n at' ls t, (∃ y, y ∈ ls ∧ y.bgn = z.bgn) ∨ z.bgn = at' := by
  intro z hz
  unfold lifeTurn at hz
  split at hz
  · rcases List.mem_append.1 hz with h | h
    · exact Or.inl ⟨z, h, rfl⟩
    · rw [List.mem_singleton] at h; exact Or.inr (by rw [h])
  split at hz
  · exact Or.inl (endGo_bgn _ _ _ _ _ z hz)
  · exact Or.inl ⟨z, hz, rfl⟩
theorem livesOf_bgn (n at' : Int) : ∀ (ts : List Turn) (ls : List Life), ∀ z ∈ livesOf n at' ls ts, (∃ y, y ∈ ls ∧ y.bgn = z.bgn) ∨ (z.bgn = at' ∧ ts ≠ [])
  | [], ls, z, hz => Or.inl ⟨z, hz, rfl⟩
  | t :: ts, ls, z, hz => by
    rcases livesOf_bgn n at' ts _ z hz with ⟨y, h1, h2⟩ | ⟨h1, _⟩
    · rcases lifeTurn_bgn n at' ls t y h1 with ⟨u, h3, h4⟩ | h3
      · exact Or.inl ⟨u, h3, by rw [h4, h2]⟩
      · exact Or.inr ⟨by rw [← h2, h3], by simp⟩
    · exact Or.inr ⟨h1, by simp⟩
theorem lives_keep (L : List OpB) (s n : Int) : ∀ k, k ≤ L.length → ∀ z ∈ livesTo L n k, 0 ≤ z.bgn ∧ z.bgn.toNat < k ∧ keepS L s z.bgn.toNat = true
  | 0, _, z, hz => by cases hz
  | k + 1, hk, z, hz => by
    rcases livesOf_bgn n k _ _ z hz with ⟨y, h1, h2⟩ | ⟨h1, h2⟩
    · have h := lives_keep L s n k (by omega) y h1
      rw [h2] at h
      exact ⟨h.1, by omega, h.2.2⟩
    · rw [h1]
      refine ⟨by omega, by omega, ?_⟩
      show keepS L s k = true
      have hy : L[k]? = some (L[k]'(by omega)) := List.getElem?_eq_getElem (by omega)
      have e1 := (run_at hy).1
      unfold keepS
      by_cases hn : (takenAt L k).adm.kind = 1
      · rw [e1] at hn
        have := (take_media _ _ _ _ _ hn).1
        rw [← e1] at this
        exact absurd this h2
      · rw [decide_eq_false hn]; rfl
section
variable {L : List OpB} {s : Int} {x : Life}
theorem lies_ren (h0 : 0 ≤ x.bgn) (hb : keepS L s x.bgn.toNat = true) {k : Nat} (hk : keepS L s k = true) : lies (renL L s x) (rk L s k : Nat) = lies x k := by
  unfold lies
  congr 1
  · rw [Bool.eq_iff_iff, decide_eq_true_eq, decide_eq_true_eq]
    show ((rk L s x.bgn.toNat : Nat) : Int) < _ ↔ _
    constructor
    · intro h
      by_cases h2 : x.bgn < (k : Int)
      · exact h2
      · have := rk_mono L s (show k ≤ x.bgn.toNat by omega); omega
    · intro h
      have := rk_lt hb (show x.bgn.toNat < k by omega); omega
  · rw [Bool.eq_iff_iff, decide_eq_true_eq, decide_eq_true_eq]
    show _ < ((rk L s x.fin.toNat : Nat) : Int) ↔ _
    constructor
    · intro h
      by_cases h2 : (k : Int) < x.fin
      · exact h2
      · have := rk_mono L s (show x.fin.toNat ≤ k by omega); omega
    · intro h
      have := rk_lt hk (show k < x.fin.toNat by omega); omega
theorem packet_ren (h0 : 0 ≤ x.bgn) (hb : keepS L s x.bgn.toNat = true) {k : Nat} (hkl : k < L.length) (hk : keepS L s k = true) : packetAt (ownOps L s L.length) (renL L s x) (rk L s k) = packetAt L x k := by
  unfold packetAt
  rw [lies_ren h0 hb hk, (own_taken hkl hk).1]
  rfl
theorem packet_skip (hx : x.source = s) {k : Nat} (hk : ¬ keepS L s k = true) : packetAt L x k = false := by
  unfold packetAt
  unfold keepS at hk
  have h2 : ¬ (takenAt L k).adm.source = s := fun e => hk (by rw [decide_eq_true e, Bool.or_true])
  rw [hx, decide_eq_false h2, Bool.and_false]
theorem opK_skip {k : Nat} (hk : ¬ keepS L s k = true) : opK L k = 0 := by
  unfold keepS at hk
  have h2 : (takenAt L k).adm.kind = 1 := by
    by_cases h : (takenAt L k).adm.kind = 1
    · exact h
    · exact absurd (by rw [decide_eq_false h]; rfl) hk
  unfold opK
  rw [if_pos (Or.inl (by rw [h2]; decide))]
theorem state_ren (hx : x.source = s) (h0 : 0 ≤ x.bgn) (hbl : x.bgn.toNat < L.length) (hb : keepS L s x.bgn.toNat = true) : ∀ k, k ≤ L.length → stateV (ownOps L s L.length) (renL L s x) (rk L s k) = stateV L x k
  | 0, _ => by
    show VS.mk (opAt (ownOps L s L.length) (ren L s x.bgn).toNat).layer _ _ _ = VS.mk (opAt L x.bgn.toNat).layer _ _ _
    rw [show (ren L s x.bgn).toNat = rk L s x.bgn.toNat from Int.toNat_natCast _, (own_taken hbl hb).2]
  | k + 1, hk => by
    have ih := state_ren hx h0 hbl hb k (by omega)
    have hkl : k < L.length := hk
    by_cases ha : keepS L s k = true
    · rw [rk_keep ha]
      show nextV _ _ (stateV _ _ (rk L s k)) (rk L s k) = nextV L x (stateV L x k) k
      rw [ih]
      obtain ⟨e1, e2⟩ := own_taken hkl ha
      have e3 : opK (ownOps L s L.length) (rk L s k) = opK L k := by unfold opK; rw [e1, e2]
      have e4 : ctrlV (ownOps L s L.length) (renL L s x) (stateV L x k) (rk L s k) = ctrlV L x (stateV L x k) k := by
        unfold ctrlV
        rw [e2, e3, lies_ren h0 hb ha]
        rfl
      unfold nextV
      rw [packet_ren h0 hb hkl ha, e1, e4]
    · rw [rk_skip ha, ih]
      show _ = nextV L x (stateV L x k) k
      unfold nextV
      rw [packet_skip hx ha, Bool.false_and, if_neg (by decide)]
      unfold ctrlV
      rw [opK_skip ha]
      split
      · split <;> rfl
      · rfl
/-- What was sent so far, here and there. -/
structure RelS (L : List OpB) (s : Int) (k : Nat) (z z' : Snd) : Prop where
  out : z'.out = z.out.map (renE L s)
  bg : z'.begin = z.begin
  st : z'.starts = z.starts
  ev : ∀ e ∈ z.out, 0 ≤ e.event ∧ e.event.toNat < k ∧ keepS L s e.event.toNat = true
  opn : z.out ≠ [] → z'.opn = ren L s z.opn ∧ 0 ≤ z.opn ∧ z.opn.toNat < k ∧ keepS L s z.opn.toNat = true
theorem RelS.more {k : Nat} {z z' : Snd} (h : RelS L s k z z') : RelS L s (k + 1) z z' := ⟨h.out, h.bg, h.st, fun e he => by have := h.ev e he; exact ⟨this.1, by omega, this.2.2⟩, fun hn => by have := h.opn hn; exact ⟨this.1, this.2.1, by omega, this.2.2.2⟩⟩
theorem last_ren {l : List Emi} (h : l ≠ []) : lastE (l.map (renE L s)) = renE L s (lastE l) ∧ lastE l ∈ l := by
  have hl : l.length - 1 < l.length := by have := List.length_pos_iff.2 h; omega
  unfold lastE
  rw [List.length_map, List.getD_eq_getElem?_getD, List.getD_eq_getElem?_getD, List.getElem?_map, List.getElem?_eq_getElem hl]
  exact ⟨rfl, List.getElem_mem hl⟩
theorem step_ren (hx : x.source = s) (h0 : 0 ≤ x.bgn) (hb : keepS L s x.bgn.toNat = true) {k : Nat} (hkl : k < L.length) (ha : keepS L s k = true) (v : VS) {z z' : Snd} (h : RelS L s k z z') :
    RelS L s (k + 1) (sentStep L x v z k) (sentStep (ownOps L s L.length) (renL L s x) v z' (rk L s k)) := by
  obtain ⟨e1, e2⟩ := own_taken hkl ha
  have hg : goesV (ownOps L s L.length) v z'.out (rk L s k) = goesV L v z.out k := by
    unfold goesV
    rw [e1, h.out, List.length_map]
    by_cases hz : z.out = []
    · rw [hz]; simp
    · obtain ⟨l1, l2⟩ := last_ren (L := L) (s := s) hz
      obtain ⟨v1, v2, v3⟩ := h.ev _ l2
      rw [l1, show (renE L s (lastE z.out)).event.toNat = rk L s (lastE z.out).event.toNat from Int.toNat_natCast _, (own_taken (by omega) v3).1]
  unfold sentStep
  rw [packet_ren h0 hb hkl ha, e1, hg]
  by_cases hc : (packetAt L x k && !v.quiet && (opensV v (takenAt L k).dsc || goesV L v z.out k)) = true
  · rw [if_pos hc, if_pos hc]
    have hop : opensV v (takenAt L k).dsc = false → z.out ≠ [] := by
      intro ho hz
      rw [ho] at hc
      have : goesV L v z.out k = false := by unfold goesV; rw [hz]; simp
      rw [this] at hc
      simp at hc
    unfold sendV
    rw [e1]
    generalize opensV v (takenAt L k).dsc = op at *
    have hr : (readyV z' (rk L s k) op (takenAt L k).dsc.start).begin = (readyV z k op (takenAt L k).dsc.start).begin := by
      unfold readyV
      dsimp only
      rw [h.out, h.bg, List.length_map]
      cases op
      · rfl
      · by_cases hz : 0 < z.out.length
        · rw [if_pos rfl, if_pos rfl, if_pos hz, if_pos hz, (last_ren (L := L) (s := s) (List.length_pos_iff.1 hz)).1]; rfl
        · rw [if_pos rfl, if_pos rfl, if_neg hz, if_neg hz]
    have hs : (readyV z' (rk L s k) op (takenAt L k).dsc.start).starts = (readyV z k op (takenAt L k).dsc.start).starts := by
      unfold readyV
      dsimp only
      rw [h.st]
    have ho : (readyV z' (rk L s k) op (takenAt L k).dsc.start).opn = ren L s (readyV z k op (takenAt L k).dsc.start).opn ∧ 0 ≤ (readyV z k op (takenAt L k).dsc.start).opn ∧ (readyV z k op (takenAt L k).dsc.start).opn.toNat < k + 1 ∧ keepS L s (readyV z k op (takenAt L k).dsc.start).opn.toNat = true := by
      unfold readyV
      dsimp only
      cases op
      · have := h.opn (hop rfl)
        exact ⟨this.1, this.2.1, Nat.lt_succ_of_lt this.2.2.1, this.2.2.2⟩
      · exact ⟨rfl, Int.natCast_nonneg k, Nat.lt_succ_self k, ha⟩
    have h1 : (readyV z k op (takenAt L k).dsc.start).out = z.out := rfl
    have h2 : (readyV z' (rk L s k) op (takenAt L k).dsc.start).out = z.out.map (renE L s) := h.out
    generalize readyV z k op (takenAt L k).dsc.start = r at *
    generalize readyV z' (rk L s k) op (takenAt L k).dsc.start = r' at *
    have hem : emiV (ownOps L s L.length) (renL L s x) r' (rk L s k) op = renE L s (emiV L x r k op) := by
      unfold emiV renE
      rw [e1, h1, h2, List.length_map, hr, hs, ho.1]
      have ht : (takenAt (ownOps L s L.length) (ren L s r.opn).toNat) = takenAt L r.opn.toNat := by
        rw [show (ren L s r.opn).toNat = rk L s r.opn.toNat from Int.toNat_natCast _]
        exact (own_taken (by omega) ho.2.2.2).1
      rw [ht]
      rfl
    refine ⟨?_, hr, hs, fun e he => ?_, fun _ => ho⟩
    · show r'.out ++ [_] = (r.out ++ [_]).map _
      rw [hem, h1, h2, List.map_append]
      rfl
    · have he : e ∈ r.out ++ [emiV L x r k op] := he
      rw [h1] at he
      rcases List.mem_append.1 he with h3 | h3
      · have := h.ev e h3; exact ⟨this.1, by omega, this.2.2⟩
      · rw [List.mem_singleton] at h3; subst h3; exact ⟨Int.natCast_nonneg k, Nat.lt_succ_self k, ha⟩
  · rw [if_neg hc, if_neg hc]; exact h.more
theorem sent_ren (hx : x.source = s) (h0 : 0 ≤ x.bgn) (hbl : x.bgn.toNat < L.length) (hb : keepS L s x.bgn.toNat = true) : ∀ k, k ≤ L.length → RelS L s k (sentTo L x k) (sentTo (ownOps L s L.length) (renL L s x) (rk L s k))
  | 0, _ => ⟨rfl, rfl, rfl, (fun e h => by cases h), fun h => absurd rfl h⟩
  | k + 1, hk => by
    have ih := sent_ren hx h0 hbl hb k (by omega)
    by_cases ha : keepS L s k = true
    · rw [rk_keep ha]
      show RelS L s (k + 1) (sentStep L x _ _ k) (sentStep _ _ (stateV _ _ (rk L s k)) (sentTo _ _ (rk L s k)) (rk L s k))
      rw [state_ren hx h0 hbl hb k (by omega)]
      exact step_ren hx h0 hb hk ha _ ih
    · rw [rk_skip ha]
      have e : sentTo L x (k + 1) = sentTo L x k := by
        show sentStep L x _ _ k = _
        unfold sentStep
        rw [packet_skip hx ha]
        rfl
      rw [e]; exact ih.more
end
theorem rk_own (L : List OpB) (s : Int) : (ownOps L s L.length).length = rk L s L.length ∧ ren L s L.length = (rk L s L.length : Nat) := ⟨ownOps_len L s L.length, by unfold ren; rw [Int.toNat_natCast]⟩
theorem alone_lives (L : List OpB) (s : Int) : livesTo (ownOps L s L.length) (ownOps L s L.length).length (ownOps L s L.length).length = (livesTo L L.length L.length).map (renL L s) := by
  have h := (own_run L s L.length L.length (Nat.le_refl _)).2
  rw [(rk_own L s).2] at h
  rw [(rk_own L s).1]
  exact h
theorem alone_sent (L : List OpB) {x : Life} (hx : x ∈ livesTo L L.length L.length) : RelS L x.source L.length (sentTo L x L.length) (sentTo (ownOps L x.source L.length) (renL L x.source x) (ownOps L x.source L.length).length) := by
  obtain ⟨h1, h2, h3⟩ := lives_keep L x.source L.length L.length (Nat.le_refl _) x hx
  rw [(rk_own L x.source).1]
  exact sent_ren rfl h1 h2 h3 L.length (Nat.le_refl _)
end Go.Proofs.By
