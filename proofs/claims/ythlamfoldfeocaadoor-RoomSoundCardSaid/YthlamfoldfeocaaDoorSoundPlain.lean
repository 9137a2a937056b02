/- What the law RoomSound asks of a table, of every room that was made by operations. Plain. -/
import Derived.Test.YthlamfoldfeocaaDoorP02
import Derived.Test.YthlamfoldfeocaaDoorP06
namespace Go.Proofs.Rm
open Go.Proofs.Lab (may key)
theorem key_ne_nil2 {l : List UInt8} (h : may l = true) : key l ≠ [] := by
  unfold key
  rw [if_pos h]
  intro e
  rw [List.map_eq_nil_iff] at e
  subst e
  exact absurd h (by decide)
theorem mem_take {α : Type} {L : List α} {k : Nat} {y : α} (hy : y ∈ L.take k) : ∃ (i : Nat) (_ : i < L.length), i < k ∧ L[i] = y := by
  obtain ⟨i, hi, rfl⟩ := List.mem_iff_getElem.1 hy
  rw [List.length_take] at hi
  exact ⟨i, by omega, by omega, by rw [List.getElem_take]⟩
theorem tPeers_pair {R : Room} (hI : Inv R) (k : Nat) : (tPeers R k).Pairwise fun x y => key x.name ≠ key y.name := by
  unfold tPeers
  rw [List.pairwise_map]
  have h0 : ((List.range k).filter fun p : Nat => joined R p).Pairwise (· ≠ ·) := (List.Pairwise.filter _ List.nodup_range)
  refine h0.imp_of_mem ?_
  intro a b ha _ hne e
  refine hne (hI.keys a b ?_ e)
  have ha := (List.mem_filter.1 ha).2
  unfold joined at ha
  rw [Bool.and_eq_true] at ha
  intro e
  rw [show ((a : Int)).toNat = a from Int.toNat_natCast a, e] at ha
  exact absurd ha.2 (by decide)
theorem tPeers_may {R : Room} (hI : Inv R) {k : Nat} {x : TPeer} (hx : x ∈ tPeers R k) : may x.name = true := by
  unfold tPeers at hx
  obtain ⟨p, hp, rfl⟩ := List.mem_map.1 hx
  have hp := (List.mem_filter.1 hp).2
  unfold joined at hp
  rw [Bool.and_eq_true, Int.toNat_natCast] at hp
  refine (hI.nameAt p ?_).2
  intro e
  rw [e] at hp
  exact absurd hp.2 (by decide)
/-- The table's peers, by their places. -/
theorem peers_sound {R : Room} (hI : Inv R) (k : Nat) (hk : k < (tPeers R 9).length) : key (tPeers R 9)[k].name ≠ [] ∧ (tPeers R 9)[k].name.length ≤ 32 ∧ ∀ y ∈ (tPeers R 9).take k, key y.name ≠ key (tPeers R 9)[k].name := by
  have hm := tPeers_may hI (List.getElem_mem hk)
  refine ⟨key_ne_nil2 hm, Lab.may_len hm, fun y hy => ?_⟩
  obtain ⟨i, hi, hik, rfl⟩ := mem_take hy
  exact List.pairwise_iff_getElem.1 (tPeers_pair hI 9) i k hi hk hik
theorem tSrcs_mem {R : Room} (hI : Inv R) {k : Nat} {x : TSrc} (hx : x ∈ tSrcs R k) : ∃ n : Nat, n < k ∧ (R.src n).there = true ∧ x = ⟨(R.src n).num, (R.src n).own, (R.src n).ss, (R.src n).muted⟩ := by
  unfold tSrcs at hx
  obtain ⟨n, hn, rfl⟩ := List.mem_map.1 hx
  obtain ⟨h1, h2⟩ := List.mem_filter.1 hn
  unfold hasSrc at h2
  rw [Bool.and_eq_true] at h2
  exact ⟨n, List.mem_range.1 h1, h2.2, rfl⟩
theorem tSrcs_pair {R : Room} (hI : Inv R) (k : Nat) : (tSrcs R k).Pairwise fun x y => ∀ v ∈ x.ss, v ∉ y.ss := by
  unfold tSrcs
  rw [List.pairwise_map]
  have h0 : ((List.range k).filter (hasSrc R)).Pairwise (· ≠ ·) := (List.Pairwise.filter _ List.nodup_range)
  refine h0.imp_of_mem ?_
  intro a b ha hb hne v hv hv2
  have ha := (List.mem_filter.1 ha).2
  have hb := (List.mem_filter.1 hb).2
  unfold hasSrc at ha hb
  rw [Bool.and_eq_true] at ha hb
  exact hne (hI.apart a b v ha.2 hb.2 hv hv2)
/-- The table's sources, by their places. -/
theorem srcs_sound {R : Room} (hI : Inv R) (k : Nat) (hk : k < (tSrcs R 9).length) :
    joined R (tSrcs R 9)[k].own = true ∧ 1 ≤ (tSrcs R 9)[k].ss.length ∧ (tSrcs R 9)[k].ss.length ≤ 3 ∧
    ∀ (j : Nat) (_ : j < (tSrcs R 9)[k].ss.length), (2 ≤ (tSrcs R 9)[k].ss.getD j 0 ∧ (tSrcs R 9)[k].ss.getD j 0 < 3221225472) ∧ (tSrcs R 9)[k].ss.getD j 0 ∉ ((tSrcs R 9).take k).flatMap (·.ss) ++ (tSrcs R 9)[k].ss.take j := by
  have hP := tSrcs_pair hI 9
  obtain ⟨n, hn, ht, hx⟩ := tSrcs_mem hI (List.getElem_mem hk)
  have hs := hI.srcAt n ht
  have e1 : (tSrcs R 9)[k].own = (R.src n).own := by rw [hx]
  have e2 : (tSrcs R 9)[k].ss = (R.src n).ss := by rw [hx]
  refine ⟨by rw [e1]; exact hs.2.2.2.1, by rw [e2]; exact hs.2.2.2.2.1, by rw [e2]; exact hs.2.2.2.2.2.1, fun j hj => ?_⟩
  have hj' : j < (R.src n).ss.length := by rw [← e2]; exact hj
  have eg : (tSrcs R 9)[k].ss.getD j 0 = (R.src n).ss[j] := by rw [e2, List.getD_eq_getElem?_getD, List.getElem?_eq_getElem hj']; rfl
  refine ⟨by rw [eg]; exact hs.2.2.2.2.2.2.2 _ (List.getElem_mem hj'), ?_⟩
  rw [eg, List.mem_append]
  rintro (h | h)
  · obtain ⟨y, hy, hv⟩ := List.mem_flatMap.1 h
    obtain ⟨i, hi, hik, rfl⟩ := mem_take hy
    exact List.pairwise_iff_getElem.1 hP i k hi hk hik _ hv (by rw [e2]; exact List.getElem_mem hj')
  · rw [e2] at h
    obtain ⟨i, hi, hij, e⟩ := mem_take h
    exact List.pairwise_iff_getElem.1 hs.2.2.2.2.2.2.1 i j hi hj' hij e
/-- The table's subscriptions. -/
theorem subs_sound {R : Room} (hI : Inv R) {x : TSub} (hx : x ∈ tSubs R 9) :
    ∃ n : Nat, x.source = n ∧ 1 ≤ n ∧ n < 9 ∧ (R.src n).there = true ∧ joined R x.peer = true ∧ (R.src n).own ≠ x.peer ∧ 0 ≤ x.want ∧ x.want < (R.src n).ss.length := by
  unfold tSubs at hx
  obtain ⟨n, hn, hx⟩ := List.mem_flatMap.1 hx
  unfold tSubs1 at hx
  obtain ⟨p, hp, rfl⟩ := List.mem_map.1 hx
  unfold subs at hp
  have hp := (List.mem_filter.1 hp).2
  unfold hears at hp
  rw [Bool.and_eq_true, Bool.and_eq_true, Int.toNat_natCast, Int.toNat_natCast] at hp
  obtain ⟨h1, h2, h3, h4, h5, h6, h7, h8, h9⟩ := hI.subAt n p hp.2
  refine ⟨n, rfl, h1, h2, h5, ?_, h7, h8, h9⟩
  unfold joined
  rw [hp.1.1, Bool.true_and, Int.toNat_natCast]
  show (!(R.names p).isEmpty) = true
  cases he : R.names p with
  | nil => exact absurd he h6
  | cons a b => rfl
end Go.Proofs.Rm
