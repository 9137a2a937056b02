/- Several texts in one: slices.Clone of items, blocks, numbers, pairs: the clone is a row of its own. The walk of own.Items. The walk of sift.Of: any datagram. -/
import Derived.Deep.DeepCutAuto
import Derived.Deep.CutBlock
import Derived.Test.YtpdjhlcbcomdkaaGreatDoorW03
import Derived.Test.YtpdjhlcbcomdkaaGreatDoorW12
import Derived.Test.YtpdjhlcbcomdkaaGreatDoorW13
import Derived.Test.YtpdjhlcbcomdkaaGreatDoorW15
set_option linter.unusedVariables false
set_option linter.unusedSimpArgs false
set_option linter.unusedSimpArgs false
namespace Go.Proofs.By
open Go.RowKit Go.Proofs.Heap
set_option maxHeartbeats 1000000 in
theorem ItmsClone_any (v : Value) (n : Nat) (xs : List Value) (w : World) (hv : Row w 173 v n xs) (hx : xs.length = n * 10) (h1 : ∀ u ∈ xs, u.oneCell' = true) (hl : n ≤ 1000000) :
    Calls Tryz.prog 157 #[v] w fun e w' => (∃ v', e = .returned v' ∧ w'.ownsRow w.heap.size 173 10 v' n xs) ∧ Below w.heap.size w w' := by
  obtain ⟨a, cap, rfl, hx1, hx2, hx3, hx4⟩ := id hv
  have HV := Lib.hid hv
  have HN := Lib.hid hx3
  have HXL := Lib.hid hx
  have HON := Lib.hid h1
  clear hv hx4 hx1 hx2 hx3 hx h1
  cases a with
  | none =>
    obtain ⟨h1, h2⟩ := HN.out rfl
    have HL : Hid (xs = []) := List.eq_nil_of_length_eq_zero (by rw [HXL.out, h1])
    have he := fun w => Lib.run_eql_slice_nil (P := Tryz.prog) w 82 173 none n cap 0 0 Tryz.underlying82
    have HH1 := Lib.hid h1
    clear h1 h2
    go_enter Tryz.func157, Tryz.ntmps157
    go_wp2
    go_ret
    exact ⟨⟨_, rfl, by rw [HL.out, HH1.out]; exact World.ownsRow_nil _ _ _ _⟩, Below.refl _ _⟩
  | some a =>
    have he := fun w => Lib.run_eql_slice_nil (P := Tryz.prog) w 82 173 (some a) n cap 0 0 Tryz.underlying82
    clear HN
    go_enter Tryz.func157, Tryz.ntmps157
    go_wp2_with (at_builtin; refine wpList_app rfl (.tmp 5) (.tmp 6) 82 rfl w.heap.size elemItm _ 0 [] rfl (owns_empty w 173 10) _ n xs rfl (HV.out.below (below_alloc _ _)) HXL.out HON.out (by omega) (by omega) (by simp) (fun v' w1 HO HG => ?_))
    go_ret
    have hb := ((Fr.refl w.heap.size NoB w).alloc (Nat.le_refl _) (.cells #[] 173)).grown HG.out (by simp) (by
      intro k hk
      have hk : some w.heap.size = some k := hk
      cases hk
      exact Nat.le_refl _)
    refine ⟨⟨_, rfl, ?_⟩, hb.below⟩
    have := HO.out
    rwa [Nat.zero_add, List.nil_append] at this
set_option maxHeartbeats 1000000 in
theorem BlksClone_any (v : Value) (n : Nat) (xs : List Value) (w : World) (hv : Row w 228 v n xs) (hx : xs.length = n * 7) (h1 : ∀ u ∈ xs, u.oneCell' = true) (hl : n ≤ 1000000) :
    Calls Tryz.prog 158 #[v] w fun e w' => (∃ v', e = .returned v' ∧ w'.ownsRow w.heap.size 228 7 v' n xs) ∧ Below w.heap.size w w' := by
  obtain ⟨a, cap, rfl, hx1, hx2, hx3, hx4⟩ := id hv
  have HV := Lib.hid hv
  have HN := Lib.hid hx3
  have HXL := Lib.hid hx
  have HON := Lib.hid h1
  clear hv hx4 hx1 hx2 hx3 hx h1
  cases a with
  | none =>
    obtain ⟨h1, h2⟩ := HN.out rfl
    have HL : Hid (xs = []) := List.eq_nil_of_length_eq_zero (by rw [HXL.out, h1])
    have he := fun w => Lib.run_eql_slice_nil (P := Tryz.prog) w 170 228 none n cap 0 0 Tryz.underlying170
    have HH1 := Lib.hid h1
    clear h1 h2
    go_enter Tryz.func158, Tryz.ntmps158
    go_wp2
    go_ret
    exact ⟨⟨_, rfl, by rw [HL.out, HH1.out]; exact World.ownsRow_nil _ _ _ _⟩, Below.refl _ _⟩
  | some a =>
    have he := fun w => Lib.run_eql_slice_nil (P := Tryz.prog) w 170 228 (some a) n cap 0 0 Tryz.underlying170
    clear HN
    go_enter Tryz.func158, Tryz.ntmps158
    go_wp2_with (at_builtin; refine wpList_app rfl (.tmp 5) (.tmp 6) 170 rfl w.heap.size elemBlk _ 0 [] rfl (owns_empty w 228 7) _ n xs rfl (HV.out.below (below_alloc _ _)) HXL.out HON.out (by omega) (by omega) (by simp) (fun v' w1 HO HG => ?_))
    go_ret
    have hb := ((Fr.refl w.heap.size NoB w).alloc (Nat.le_refl _) (.cells #[] 228)).grown HG.out (by simp) (by
      intro k hk
      have hk : some w.heap.size = some k := hk
      cases hk
      exact Nat.le_refl _)
    refine ⟨⟨_, rfl, ?_⟩, hb.below⟩
    have := HO.out
    rwa [Nat.zero_add, List.nil_append] at this
set_option maxHeartbeats 1000000 in
theorem U32sClone_any (v : Value) (n : Nat) (xs : List Value) (w : World) (hv : Row w 66 v n xs) (hx : xs.length = n * 1) (h1 : ∀ u ∈ xs, u.oneCell' = true) (hl : n ≤ 1000000) :
    Calls Tryz.prog 112 #[v] w fun e w' => (∃ v', e = .returned v' ∧ w'.ownsRow w.heap.size 66 1 v' n xs) ∧ Below w.heap.size w w' := by
  obtain ⟨a, cap, rfl, hx1, hx2, hx3, hx4⟩ := id hv
  have HV := Lib.hid hv
  have HN := Lib.hid hx3
  have HXL := Lib.hid hx
  have HON := Lib.hid h1
  clear hv hx4 hx1 hx2 hx3 hx h1
  cases a with
  | none =>
    obtain ⟨h1, h2⟩ := HN.out rfl
    have HL : Hid (xs = []) := List.eq_nil_of_length_eq_zero (by rw [HXL.out, h1])
    have he := fun w => Lib.run_eql_slice_nil (P := Tryz.prog) w 29 66 none n cap 0 0 Tryz.underlying29
    have HH1 := Lib.hid h1
    clear h1 h2
    go_enter Tryz.func112, Tryz.ntmps112
    go_wp2
    go_ret
    exact ⟨⟨_, rfl, by rw [HL.out, HH1.out]; exact World.ownsRow_nil _ _ _ _⟩, Below.refl _ _⟩
  | some a =>
    have he := fun w => Lib.run_eql_slice_nil (P := Tryz.prog) w 29 66 (some a) n cap 0 0 Tryz.underlying29
    clear HN
    go_enter Tryz.func112, Tryz.ntmps112
    go_wp2_with (at_builtin; refine wpList_app rfl (.tmp 5) (.tmp 6) 29 rfl w.heap.size elemU32 _ 0 [] rfl (owns_empty w 66 1) _ n xs rfl (HV.out.below (below_alloc _ _)) HXL.out HON.out (by omega) (by omega) (by simp) (fun v' w1 HO HG => ?_))
    go_ret
    have hb := ((Fr.refl w.heap.size NoB w).alloc (Nat.le_refl _) (.cells #[] 66)).grown HG.out (by simp) (by
      intro k hk
      have hk : some w.heap.size = some k := hk
      cases hk
      exact Nat.le_refl _)
    refine ⟨⟨_, rfl, ?_⟩, hb.below⟩
    have := HO.out
    rwa [Nat.zero_add, List.nil_append] at this
set_option maxHeartbeats 1000000 in
theorem ParsClone_any (v : Value) (n : Nat) (xs : List Value) (w : World) (hv : Row w 226 v n xs) (hx : xs.length = n * 2) (h1 : ∀ u ∈ xs, u.oneCell' = true) (hl : n ≤ 1000000) :
    Calls Tryz.prog 159 #[v] w fun e w' => (∃ v', e = .returned v' ∧ w'.ownsRow w.heap.size 226 2 v' n xs) ∧ Below w.heap.size w w' := by
  obtain ⟨a, cap, rfl, hx1, hx2, hx3, hx4⟩ := id hv
  have HV := Lib.hid hv
  have HN := Lib.hid hx3
  have HXL := Lib.hid hx
  have HON := Lib.hid h1
  clear hv hx4 hx1 hx2 hx3 hx h1
  cases a with
  | none =>
    obtain ⟨h1, h2⟩ := HN.out rfl
    have HL : Hid (xs = []) := List.eq_nil_of_length_eq_zero (by rw [HXL.out, h1])
    have he := fun w => Lib.run_eql_slice_nil (P := Tryz.prog) w 171 226 none n cap 0 0 Tryz.underlying171
    have HH1 := Lib.hid h1
    clear h1 h2
    go_enter Tryz.func159, Tryz.ntmps159
    go_wp2
    go_ret
    exact ⟨⟨_, rfl, by rw [HL.out, HH1.out]; exact World.ownsRow_nil _ _ _ _⟩, Below.refl _ _⟩
  | some a =>
    have he := fun w => Lib.run_eql_slice_nil (P := Tryz.prog) w 171 226 (some a) n cap 0 0 Tryz.underlying171
    clear HN
    go_enter Tryz.func159, Tryz.ntmps159
    go_wp2_with (at_builtin; refine wpList_app rfl (.tmp 5) (.tmp 6) 171 rfl w.heap.size elemPair _ 0 [] rfl (owns_empty w 226 2) _ n xs rfl (HV.out.below (below_alloc _ _)) HXL.out HON.out (by omega) (by omega) (by simp) (fun v' w1 HO HG => ?_))
    go_ret
    have hb := ((Fr.refl w.heap.size NoB w).alloc (Nat.le_refl _) (.cells #[] 226)).grown HG.out (by simp) (by
      intro k hk
      have hk : some w.heap.size = some k := hk
      cases hk
      exact Nat.le_refl _)
    refine ⟨⟨_, rfl, ?_⟩, hb.below⟩
    have := HO.out
    rwa [Nat.zero_add, List.nil_append] at this
end Go.Proofs.By
set_option linter.unusedSimpArgs false
namespace Go.Proofs.By
open Go.RowKit Go.Proofs.Heap
theorem u32s_length' (l : List Int) : (u32s l).length = l.length := List.length_map _
theorem u32s_oneI (l : List Int) : ∀ u ∈ u32s l, u.oneCell' = true := by
  intro u hu
  obtain ⟨x, _, rfl⟩ := List.mem_map.1 hu
  rfl
theorem owns_someI {w : World} {base : Nat} {e : TypeId} {size : Nat} {v : Value} {n : Nat} {xs : List Value} (h : w.ownsRow base e size v n xs) (hn : 0 < n) : ∃ g cap cur, v = .slice (some ⟨g, 0, none⟩) n cap ∧ base ≤ g ∧ w.heap[g]? = some (.cells cur e) := by
  obtain ⟨_, h⟩ := h
  rcases h with ⟨_, h⟩ | ⟨g, cap, cur, hv, hg, hh, h1, h2, h3, h4⟩
  · omega
  · exact ⟨g, cap, cur, hv, hg, hh⟩
theorem owns_setI {w : World} {base : Nat} {e : TypeId} {size : Nat} {n : Nat} {xs : List Value} {g cap : Nat} (h : w.ownsRow base e size (.slice (some ⟨g, 0, none⟩) n cap) n xs) (hn : 0 < n) (i : Nat) (u : Value) : (w.setCell ⟨g, i, none⟩ u).ownsRow base e size (.slice (some ⟨g, 0, none⟩) n cap) n (xs.set i u) := by
  obtain ⟨hl, h⟩ := h
  refine ⟨by rw [List.length_set]; exact hl, ?_⟩
  rcases h with ⟨_, h⟩ | ⟨g', cap', cur, hv, hg, hh, h1, h2, h3, h4⟩
  · omega
  · cases hv
    refine Or.inr ⟨g, cap, cur.setIfInBounds i u, rfl, hg, by simp [World.setCell, Array.getElem?_modify, hh], h1, h2, by rw [Array.size_setIfInBounds]; exact h3, ?_⟩
    rw [Array.toList_setIfInBounds, List.take_set, h4]
theorem itm_set6 (u : Value) : ∀ (Q : List ItmV) (k : Nat) (hk : k < Q.length), (Q.flatMap itmvCells).set (k * 10 + 6) u = (Q.set k { Q[k] with bv := u }).flatMap itmvCells
  | [], k, hk => by simp at hk
  | x :: Q, 0, _ => by simp [itmvCells]
  | x :: Q, k + 1, hk => by
    have ih := itm_set6 u Q k (by simpa using hk)
    rw [List.flatMap_cons, List.set_append_right _ _ (by show 10 ≤ _; omega), List.set_cons_succ, List.flatMap_cons]
    have : (k + 1) * 10 + 6 - (itmvCells x).length = k * 10 + 6 := by show _ - 10 = _; omega
    rw [this, ih]
    rfl
theorem itm_set7 (u : Value) : ∀ (Q : List ItmV) (k : Nat) (hk : k < Q.length), (Q.flatMap itmvCells).set (k * 10 + 7) u = (Q.set k { Q[k] with gv := u }).flatMap itmvCells
  | [], k, hk => by simp at hk
  | x :: Q, 0, _ => by simp [itmvCells]
  | x :: Q, k + 1, hk => by
    have ih := itm_set7 u Q k (by simpa using hk)
    rw [List.flatMap_cons, List.set_append_right _ _ (by show 10 ≤ _; omega), List.set_cons_succ, List.flatMap_cons]
    have : (k + 1) * 10 + 7 - (itmvCells x).length = k * 10 + 7 := by show _ - 10 = _; omega
    rw [this, ih]
    rfl
theorem itm_set9 (u : Value) : ∀ (Q : List ItmV) (k : Nat) (hk : k < Q.length), (Q.flatMap itmvCells).set (k * 10 + 9) u = (Q.set k { Q[k] with pv := u }).flatMap itmvCells
  | [], k, hk => by simp at hk
  | x :: Q, 0, _ => by simp [itmvCells]
  | x :: Q, k + 1, hk => by
    have ih := itm_set9 u Q k (by simpa using hk)
    rw [List.flatMap_cons, List.set_append_right _ _ (by show 10 ≤ _; omega), List.set_cons_succ, List.flatMap_cons]
    have : (k + 1) * 10 + 9 - (itmvCells x).length = k * 10 + 9 := by show _ - 10 = _; omega
    rw [this, ih]
    rfl
theorem itm_set (Q : List ItmV) (k : Nat) (hk : k < Q.length) (b g p : Value) : (((Q.flatMap itmvCells).set (k * 10 + 6) b).set (k * 10 + 7) g).set (k * 10 + 9) p = (Q.set k ⟨Q[k].i, b, g, p⟩).flatMap itmvCells := by
  rw [itm_set6 b Q k hk, itm_set7 g _ k (by rw [List.length_set]; exact hk), itm_set9 p _ k (by rw [List.length_set, List.length_set]; exact hk)]
  simp [List.set_set]
theorem itm_at {w : World} {a : Option Addr} {n c : Nat} {l : List ItmV} (h : Row w 173 (.slice a n c) n (l.flatMap itmvCells)) (hl : 0 < l.length) : ∃ g off, a = some ⟨g, off, none⟩ ∧ ∀ (i : Nat) (x : ItmV), l[i]? = some x → ∀ j, j < 10 → w.cell? ⟨g, off + i * 10 + j, none⟩ = (itmvCells x)[j]? := by
  have hfl := flat_length itmvCells 10 (fun _ => rfl) l
  obtain ⟨g, off, cap, h1, h2, h3, h4, h5⟩ := Row.open h (by rw [hfl]; omega)
  injection h1 with e1 _ _
  refine ⟨g, off, e1, fun i x hx j hj => ?_⟩
  have hi : i < l.length := (List.getElem?_eq_some_iff.1 hx).1
  rw [Nat.add_assoc, h5 (i * 10 + j) (by rw [hfl]; omega)]
  exact flat_at itmvCells 10 (fun _ => rfl) l i j x hx hj
theorem ItmR.setAt {w : World} {x : ItmV} (h : ItmR w x) {g : Nat} {c : Array Value} {f : Nat × Nat} (hg : w.heap[g]? = some (.cells c 173 f)) (o : Nat) (u : Value) : ItmR (w.setCell ⟨g, o, none⟩ u) x := by
  have hf : Fr w.heap.size (· = g) w (w.setCell ⟨g, o, none⟩ u) := (Fr.refl _ _ _).setAt _ _
  have hne : ∀ e, 173 ≠ e → ∀ k c fr, k = g → w.heap[k]? ≠ some (.cells c e fr) := by
    intro e he k c fr hk hc
    rw [hk, hg] at hc
    injection hc with hc
    injection hc with _ hc
    exact he hc
  exact h.frT hf (hne _ (by decide)) (hne _ (by decide)) (hne _ (by decide))
theorem itmv_one {x : ItmV} (h1 : ∃ a n c, x.bv = .slice a n c) (h2 : ∃ a n c, x.gv = .slice a n c) (h3 : ∃ a n c, x.pv = .slice a n c) : ∀ u ∈ itmvCells x, u.oneCell' = true := by
  obtain ⟨i, bv, gv, pv⟩ := x
  obtain ⟨_, _, _, h1⟩ := h1
  obtain ⟨_, _, _, h2⟩ := h2
  obtain ⟨_, _, _, h3⟩ := h3
  dsimp only at h1 h2 h3
  subst h1; subst h2; subst h3
  intro u hu
  simp only [itmvCells, List.mem_cons, List.mem_nil_iff, or_false] at hu
  rcases hu with rfl | rfl | rfl | rfl | rfl | rfl | rfl | rfl | rfl | rfl <;> rfl
theorem flat_one {α : Type} {f : α → List Value} {l : List α} (h : ∀ x ∈ l, ∀ u ∈ f x, u.oneCell' = true) : ∀ u ∈ l.flatMap f, u.oneCell' = true := by
  intro u hu
  obtain ⟨x, hx, hu⟩ := List.mem_flatMap.1 hu
  exact h x hx u hu
theorem blk_one (x : Blk) : ∀ u ∈ blkCells x, u.oneCell' = true := by
  intro u hu
  simp only [blkCells, List.mem_cons, List.mem_nil_iff, or_false] at hu
  rcases hu with rfl | rfl | rfl | rfl | rfl | rfl | rfl <;> rfl
theorem pair_one (x : Int × Int) : ∀ u ∈ pairCells x, u.oneCell' = true := by
  intro u hu
  simp only [pairCells, List.mem_cons, List.mem_nil_iff, or_false] at hu
  rcases hu with rfl | rfl <;> rfl
set_option maxRecDepth 100000 in
set_option maxHeartbeats 8000000 in
theorem OwnItems_any (v : Value) (l : List Itm) (w : World) (hv : ItmsRow w v l) (hok : ∀ i ∈ l, ItmOk i) (hl : l.length ≤ 1000) :
    Calls Tryz.prog 129 #[v] w fun e w' => (∃ v', e = .returned v' ∧ ItmsRow w' v' l) ∧ Below w.heap.size w w' := by
  obtain ⟨L, rfl, hrow, hits⟩ := hv
  rw [List.length_map] at hl
  have HOK : Hid (∀ Q : List ItmV, Q.map (·.i) = L.map (·.i) → ∀ x ∈ Q, ItmOk x.i) := fun Q hQ x hx => hok x.i (by rw [← hQ]; exact List.mem_map.2 ⟨x, hx, rfl⟩)
  have CC := Lib.hid (ItmsClone_any v L.length (L.flatMap itmvCells) w hrow (flat_length itmvCells 10 (fun _ => rfl) L) (flat_one fun x hx => by
    obtain ⟨_, _, h1⟩ := Row.form (hits x hx).b
    obtain ⟨_, _, h2⟩ := Row.form (hits x hx).g
    obtain ⟨_, _, h3⟩ := Row.form (hits x hx).p
    exact itmv_one ⟨_, _, _, h1⟩ ⟨_, _, _, h2⟩ ⟨_, _, _, h3⟩) (by omega))
  have HITS := Lib.hid hits
  clear hrow hits hok
  go_enter Tryz.func129, Tryz.ntmps129
  go_upto_block 3 with (go_at_call 157; refine CC.out.mono ?_; rintro e w1 ⟨⟨v1, rfl, ho1⟩, hb1⟩; obtain ⟨va, vc, hv1, -⟩ := Row.of_owns ho1; subst hv1; have HO1 := Lib.hid ho1; have HB1 := Lib.hid hb1; clear ho1 hb1)
  go_loopw [9] (fun s9 w' => ∃ (j : Nat) (Q : List ItmV), j ≤ L.length ∧ s9 = .int .i64 (j : Int) ∧ Q.map (·.i) = L.map (·.i) ∧ w'.ownsRow w.heap.size 173 10 (.slice va L.length vc) L.length (Q.flatMap itmvCells) ∧ (∀ x ∈ Q, ItmR w' x) ∧ Below w.heap.size w w') (fun s9 _ => L.length - (intOf s9).toNat)
  case atStart => exact ⟨0, L, by omega, rfl, rfl, HO1.out, fun x hx => (HITS.out x hx).below HB1.out, HB1.out⟩
  case round =>
    obtain ⟨j, Q, hj, rfl, hQ, hown, hits, hbel⟩ := hrel
    have hQl : Q.length = L.length := by have h := congrArg List.length hQ; rwa [List.length_map, List.length_map] at h
    have HQ := Lib.hid hQ
    have HBEL := Lib.hid hbel
    have HOWN := Lib.hid hown
    have HIT := Lib.hid hits
    have hsz := hbel.size
    clear hbel hits hQ CC HO1 HITS HB1
    by_cases hjl : j < L.length
    · obtain ⟨g, cap, cur, e1, hwg, hgh⟩ := owns_someI hown (by omega)
      cases e1
      obtain ⟨g', off', e2, hat⟩ := itm_at (Row.of_owns hown) (by omega)
      cases e2
      have hjq : j < Q.length := by omega
      have hat := hat j Q[j] (List.getElem?_eq_getElem hjq)
      have hir := HIT.out Q[j] (List.getElem_mem hjq)
      have hok := HOK.out Q HQ.out Q[j] (List.getElem_mem hjq)
      have HQJ : Hid (∀ b g p, (((Q.flatMap itmvCells).set (j * 10 + 6) b).set (j * 10 + 7) g).set (j * 10 + 9) p = (Q.set j ⟨Q[j].i, b, g, p⟩).flatMap itmvCells) := fun b g p => itm_set Q j hjq b g p
      have HMAP : Hid (∀ b g p, (Q.set j ⟨Q[j].i, b, g, p⟩).map (·.i) = Q.map (·.i)) := fun b g p => by
        rw [List.map_set]
        apply List.ext_getElem
        · rw [List.length_set]
        · intro m h1 h2
          rw [List.getElem_set]
          split
          · rename_i h; subst h; simp
          · rfl
      clear hown
      generalize hxq : Q[j] = x at *
      have HQX : Hid (Q[j]? = some x) := by show _ = _; rw [List.getElem?_eq_getElem hjq, hxq]
      clear hxq
      obtain ⟨i, bv, gv, pv⟩ := x
      obtain ⟨ba, bc, hbv⟩ := Row.form hir.b
      obtain ⟨ga, gc, hgv⟩ := Row.form hir.g
      obtain ⟨pa, pc, hpv⟩ := Row.form hir.p
      dsimp only at hbv hgv hpv hok HQJ HMAP
      subst hbv; subst hgv; subst hpv
      have c0 := hat 0 (by omega)
      have c1 := hat 1 (by omega)
      have c2 := hat 2 (by omega)
      have c3 := hat 3 (by omega)
      have c4 := hat 4 (by omega)
      have c5 := hat 5 (by omega)
      have c6 := hat 6 (by omega)
      have c7 := hat 7 (by omega)
      have c8 := hat 8 (by omega)
      have c9 := hat 9 (by omega)
      simp only [itmvCells, List.getElem?_cons_zero, List.getElem?_cons_succ, Nat.zero_add, Nat.add_zero] at c0 c1 c2 c3 c4 c5 c6 c7 c8 c9
      have hjI : (j : Int) < (L.length : Int) := Int.ofNat_lt.2 hjl
      have hgl : g < wr.heap.size := hp_lt hgh
      have hz := heap_new wr (.cells #[.int .i64 0, .int .u32 0, .int .u64 0, .int .u32 0, .int .u32 0, .int .u32 0, .slice none 0 0, .slice none 0 0, .int .u32 0, .slice none 0 0] 173)
      have hx2 := setRow_heap _ _ _ #[.int .i64 i.kind, .int .u32 i.ssrc, .int .u64 i.ntp, .int .u32 i.time, .int .u32 i.packets, .int .u32 i.octets, .slice ba i.blocks.length bc, .slice ga i.gone.length gc, .int .u32 i.media, .slice pa i.pairs.length pc] _ _ hz
      have HB2 : Hid (Below wr.heap.size wr ((wr.alloc (.cells #[.int .i64 0, .int .u32 0, .int .u64 0, .int .u32 0, .int .u32 0, .int .u32 0, .slice none 0 0, .slice none 0 0, .int .u32 0, .slice none 0 0] 173)).setRow wr.heap.size #[.int .i64 i.kind, .int .u32 i.ssrc, .int .u64 i.ntp, .int .u32 i.time, .int .u32 i.packets, .int .u32 i.octets, .slice ba i.blocks.length bc, .slice ga i.gone.length gc, .int .u32 i.media, .slice pa i.pairs.length pc])) := below_setRow (below_alloc wr _) (Nat.le_refl _) _
      have HIR := Lib.hid hir
      have hob := hok.b
      have hog := hok.g
      have hop := hok.p
      clear hat hir hok
      go_upto_region 5 with (with_reducible refine store_at 173 (.tmp 4) (.tmp 13) rfl ?_; refine store_rowTo2 rfl 173 (.tmp 4) (.tmp 13) rfl rfl wr.heap.size #[.int .i64 i.kind, .int .u32 i.ssrc, .int .u64 i.ntp, .int .u32 i.time, .int .u32 i.packets, .int .u32 i.octets, .slice ba i.blocks.length bc, .slice ga i.gone.length gc, .int .u32 i.media, .slice pa i.pairs.length pc] rfl rfl 173 #[.int .i64 0, .int .u32 0, .int .u64 0, .int .u32 0, .int .u32 0, .int .u32 0, .slice none 0 0, .slice none 0 0, .int .u32 0, .slice none 0 0] hz (by kernel_rfl) (by kernel_rfl) (by kernel_rfl) ?_)
      clear hz c0 c1 c2 c3 c4 c5 c6 c7 c8 c9
      generalize ((wr.alloc (.cells #[.int .i64 0, .int .u32 0, .int .u64 0, .int .u32 0, .int .u32 0, .int .u32 0, .slice none 0 0, .slice none 0 0, .int .u32 0, .slice none 0 0] 173)).setRow wr.heap.size #[.int .i64 i.kind, .int .u32 i.ssrc, .int .u64 i.ntp, .int .u32 i.time, .int .u32 i.packets, .int .u32 i.octets, .slice ba i.blocks.length bc, .slice ga i.gone.length gc, .int .u32 i.media, .slice pa i.pairs.length pc]) = w2 at *
      have HCB : Hid (∀ w', Below w2.heap.size w2 w' → Calls Tryz.prog 158 #[.slice ba i.blocks.length bc] w' fun e w'' => (∃ v', e = .returned v' ∧ w''.ownsRow w'.heap.size 228 7 v' i.blocks.length (i.blocks.flatMap blkCells)) ∧ Below w'.heap.size w' w'') := fun w' h => BlksClone_any _ _ _ w' (Row.below (Row.below HIR.out.b HB2.out) h) (flat_length blkCells 7 (fun _ => rfl) _) (flat_one fun x _ => blk_one x) (by omega)
      have HCU : Hid (∀ w', Below w2.heap.size w2 w' → Calls Tryz.prog 112 #[.slice ga i.gone.length gc] w' fun e w'' => (∃ v', e = .returned v' ∧ w''.ownsRow w'.heap.size 66 1 v' i.gone.length (u32s i.gone)) ∧ Below w'.heap.size w' w'') := fun w' h => U32sClone_any _ _ _ w' (Row.below (Row.below HIR.out.g HB2.out) h) (by rw [u32s_length']; omega) (u32s_oneI _) (by omega)
      have HCP : Hid (∀ w', Below w2.heap.size w2 w' → Calls Tryz.prog 159 #[.slice pa i.pairs.length pc] w' fun e w'' => (∃ v', e = .returned v' ∧ w''.ownsRow w'.heap.size 226 2 v' i.pairs.length (i.pairs.flatMap pairCells)) ∧ Below w'.heap.size w' w'') := fun w' h => ParsClone_any _ _ _ w' (Row.below (Row.below HIR.out.p HB2.out) h) (flat_length pairCells 2 (fun _ => rfl) _) (flat_one fun x _ => pair_one x) (by omega)
      have hxs : wr.heap.size < w2.heap.size := hp_lt hx2
      have KEEP : Hid (∀ w' : World, w'.heap[wr.heap.size]? = w2.heap[wr.heap.size]? → w'.cell? ⟨wr.heap.size, 6, none⟩ = some (.slice ba i.blocks.length bc) ∧ w'.cell? ⟨wr.heap.size, 7, none⟩ = some (.slice ga i.gone.length gc) ∧ w'.cell? ⟨wr.heap.size, 9, none⟩ = some (.slice pa i.pairs.length pc)) := fun w' h =>
        ⟨by rw [cell_of (h.trans hx2) 6]; rfl, by rw [cell_of (h.trans hx2) 7]; rfl, by rw [cell_of (h.trans hx2) 9]; rfl⟩
      refine wp_region_noPanic ?_
      refine wp_region_held_drew (S := (fun w' => w'.cell? ⟨wr.heap.size, 6, none⟩ = some (.slice ba i.blocks.length bc) ∧ w'.cell? ⟨wr.heap.size, 7, none⟩ = some (.slice ga i.gone.length gc) ∧ w'.cell? ⟨wr.heap.size, 9, none⟩ = some (.slice pa i.pairs.length pc))) (by kernel_rfl) ?_ (fun hHeld0 => ?_)
      · (try dsimp only)
        exact KEEP.out _ rfl
      refine wpAnyH_take (i := 0) (v := ?_) rfl (by kernel_rfl) (by kernel_rfl) (by kernel_rfl) (fun _ _ _ h => h) (Or.inl ⟨by rfl, ?_⟩) (by assumption) ?_
      rotate_left
      · intro w hSw
        (try dsimp only at hSw)
        go_simp
        try with_reducible rfl
      try simp only [List.getElem_toArray, List.getElem_cons_succ, List.getElem_cons_zero, Act.put, List.setIfInBounds_toArray, List.set_cons_zero, List.set_cons_succ]
      refine wpAnyH_take (i := 1) (v := ?_) rfl (by kernel_rfl) (by kernel_rfl) (by kernel_rfl) (fun _ _ _ h => h) (Or.inl ⟨by rfl, ?_⟩) (by assumption) ?_
      rotate_left
      · intro w hSw
        (try dsimp only at hSw)
        go_simp
        try with_reducible rfl
      try simp only [List.getElem_toArray, List.getElem_cons_succ, List.getElem_cons_zero, Act.put, List.setIfInBounds_toArray, List.set_cons_zero, List.set_cons_succ]
      refine wpAnyH_take (i := 2) (v := ?_) rfl (by kernel_rfl) (by kernel_rfl) (by kernel_rfl) (fun _ _ _ h => h) (Or.inl ⟨by rfl, ?_⟩) (by assumption) ?_
      rotate_left
      · intro w hSw
        (try dsimp only at hSw)
        go_simp
        try with_reducible rfl
      try simp only [List.getElem_toArray, List.getElem_cons_succ, List.getElem_cons_zero, Act.put, List.setIfInBounds_toArray, List.set_cons_zero, List.set_cons_succ]
      refine wpAnyH_take (i := 3) (v := ?_) rfl (by kernel_rfl) (by kernel_rfl) (by kernel_rfl) (fun _ _ _ h => h) (Or.inl ⟨by rfl, ?_⟩) (by assumption) ?_
      rotate_left
      · intro w hSw
        (try dsimp only at hSw)
        go_simp
        try with_reducible rfl
      try simp only [List.getElem_toArray, List.getElem_cons_succ, List.getElem_cons_zero, Act.put, List.setIfInBounds_toArray, List.set_cons_zero, List.set_cons_succ]
      refine wpAnyH_take (i := 4) (v := ?_) rfl (by kernel_rfl) (by kernel_rfl) (by kernel_rfl) (fun _ _ _ h => h) (Or.inl ⟨by rfl, ?_⟩) (by assumption) ?_
      rotate_left
      · intro w hSw
        (try dsimp only at hSw)
        go_simp
        try with_reducible rfl
      try simp only [List.getElem_toArray, List.getElem_cons_succ, List.getElem_cons_zero, Act.put, List.setIfInBounds_toArray, List.set_cons_zero, List.set_cons_succ]
      refine wpAnyH_take (i := 5) (v := ?_) rfl (by kernel_rfl) (by kernel_rfl) (by kernel_rfl) (fun _ _ _ h => h) (Or.inl ⟨by rfl, ?_⟩) (by assumption) ?_
      rotate_left
      · intro w hSw
        (try dsimp only at hSw)
        go_simp
        try with_reducible rfl
      try simp only [List.getElem_toArray, List.getElem_cons_succ, List.getElem_cons_zero, Act.put, List.setIfInBounds_toArray, List.set_cons_zero, List.set_cons_succ]
      refine wpAnyH_take (i := 6) (v := ?_) rfl (by kernel_rfl) (by kernel_rfl) (by kernel_rfl) (fun _ _ _ h => h) (Or.inl ⟨by rfl, ?_⟩) (by assumption) ?_
      rotate_left
      · intro w hSw
        (try dsimp only at hSw)
        go_simp
        try with_reducible rfl
      try simp only [List.getElem_toArray, List.getElem_cons_succ, List.getElem_cons_zero, Act.put, List.setIfInBounds_toArray, List.set_cons_zero, List.set_cons_succ]
      refine wpAnyH_take (i := 7) (v := ?_) rfl (by kernel_rfl) (by kernel_rfl) (by kernel_rfl) (fun _ _ _ h => h) (Or.inl ⟨by rfl, ?_⟩) (by assumption) ?_
      rotate_left
      · intro w hSw
        (try dsimp only at hSw)
        go_simp
        try with_reducible rfl
      try simp only [List.getElem_toArray, List.getElem_cons_succ, List.getElem_cons_zero, Act.put, List.setIfInBounds_toArray, List.set_cons_zero, List.set_cons_succ]
      refine wpAnyH_take (i := 9) (v := ?_) rfl (by kernel_rfl) (by kernel_rfl) (by kernel_rfl) (fun _ _ _ h => h) (Or.inl ⟨by rfl, ?_⟩) (by assumption) ?_
      rotate_left
      · intro w hSw
        (try dsimp only at hSw)
        go_simp
        try with_reducible rfl
      try simp only [List.getElem_toArray, List.getElem_cons_succ, List.getElem_cons_zero, Act.put, List.setIfInBounds_toArray, List.set_cons_zero, List.set_cons_succ]
      refine wpAnyH_take (i := 10) (v := ?_) rfl (by kernel_rfl) (by kernel_rfl) (by kernel_rfl) (fun _ _ _ h => h) (Or.inl ⟨by rfl, ?_⟩) (by assumption) ?_
      rotate_left
      · intro w hSw
        (try dsimp only at hSw)
        go_simp
        try with_reducible rfl
      try simp only [List.getElem_toArray, List.getElem_cons_succ, List.getElem_cons_zero, Act.put, List.setIfInBounds_toArray, List.set_cons_zero, List.set_cons_succ]
      refine wpAnyH_take (i := 12) (v := ?_) rfl (by kernel_rfl) (by kernel_rfl) (by kernel_rfl) (fun _ _ _ h => h) (Or.inl ⟨by rfl, ?_⟩) (by assumption) ?_
      rotate_left
      · intro w hSw
        (try dsimp only at hSw)
        go_simp
        try with_reducible rfl
      try simp only [List.getElem_toArray, List.getElem_cons_succ, List.getElem_cons_zero, Act.put, List.setIfInBounds_toArray, List.set_cons_zero, List.set_cons_succ]
      refine wpAnyH_take (i := 13) (v := ?_) rfl (by kernel_rfl) (by kernel_rfl) (by kernel_rfl) (fun _ _ _ h => h) (Or.inl ⟨by rfl, ?_⟩) (by assumption) ?_
      rotate_left
      · intro w hSw
        (try dsimp only at hSw)
        go_simp
        try with_reducible rfl
      try simp only [List.getElem_toArray, List.getElem_cons_succ, List.getElem_cons_zero, Act.put, List.setIfInBounds_toArray, List.set_cons_zero, List.set_cons_succ]
      refine wpAnyH_ready (rs := [8]) (by kernel_rfl) (by simp) ?_
      refine AllReadyH.cons (i := 8) rfl (fun K hK => ?_) AllReadyH.nil
      go_simp
      refine (HCB.out _ (Below.refl _ _).drew).mono ?_
      rintro e w3 ⟨⟨bv, rfl, ho⟩, hb⟩
      obtain ⟨ba', bc', hv', -⟩ := Row.of_owns ho
      subst hv'
      have HO3 := Lib.hid (Row.of_owns ho)
      have HB3 : Hid (Below w2.heap.size w2 w3) := (Below.refl w2.heap.size w2).drew.trans hb
      have HX3 : Hid (w3.heap[wr.heap.size]? = w2.heap[wr.heap.size]?) := HB3.out.block _ hxs
      clear ho hb
      go_wp2_with fail
      refine hK.out _ _ ?_ (fun hHeld1 => ?_)
      · (try dsimp only)
        first | exact KEEP.out _ (HX3.out) | exact KEEP.out _ HX4.out | exact KEEP.out _ HX5.out | exact KEEP.out _ HX6.out | exact KEEP.out _ HX7.out | exact KEEP.out _ HX8.out
      clear hK K
      try simp only [List.getElem_toArray, List.getElem_cons_succ, List.getElem_cons_zero, Act.put, List.setIfInBounds_toArray, List.set_cons_zero, List.set_cons_succ]
      refine wpAnyH_ready (rs := [11]) (by kernel_rfl) (by simp) ?_
      refine AllReadyH.cons (i := 11) rfl (fun K hK => ?_) AllReadyH.nil
      go_simp
      refine (HCU.out _ HB3.out).mono ?_
      rintro e w4 ⟨⟨gv, rfl, ho⟩, hb⟩
      obtain ⟨ga', gc', hv', -⟩ := Row.of_owns ho
      subst hv'
      have HO4 := Lib.hid (Row.of_owns ho)
      have HB34 : Hid (Below w3.heap.size w3 w4) := hb
      have HB4 : Hid (Below w2.heap.size w2 w4) := HB3.out.trans (hb.mono HB3.out.size)
      have HX4 : Hid (w4.heap[wr.heap.size]? = w2.heap[wr.heap.size]?) := HB4.out.block _ hxs
      clear ho hb
      go_wp2_with fail
      refine hK.out _ _ ?_ (fun hHeld2 => ?_)
      · (try dsimp only)
        first | exact KEEP.out _ (HX3.out) | exact KEEP.out _ HX4.out | exact KEEP.out _ HX5.out | exact KEEP.out _ HX6.out | exact KEEP.out _ HX7.out | exact KEEP.out _ HX8.out
      clear hK K
      try simp only [List.getElem_toArray, List.getElem_cons_succ, List.getElem_cons_zero, Act.put, List.setIfInBounds_toArray, List.set_cons_zero, List.set_cons_succ]
      refine wpAnyH_ready (rs := [14]) (by kernel_rfl) (by simp) ?_
      refine AllReadyH.cons (i := 14) rfl (fun K hK => ?_) AllReadyH.nil
      go_simp
      refine (HCP.out _ HB4.out).mono ?_
      rintro e w5 ⟨⟨pv, rfl, ho⟩, hb⟩
      obtain ⟨pa', pc', hv', -⟩ := Row.of_owns ho
      subst hv'
      have HO5 := Lib.hid (Row.of_owns ho)
      have HB45 : Hid (Below w4.heap.size w4 w5) := hb
      have HB5 : Hid (Below w2.heap.size w2 w5) := HB4.out.trans (hb.mono HB4.out.size)
      have HX5 : Hid (w5.heap[wr.heap.size]? = w2.heap[wr.heap.size]?) := HB5.out.block _ hxs
      have HBR : Hid (Below wr.heap.size wr w5) := HB2.out.trans (HB5.out.mono HB2.out.size)
      have hgh5 : w5.heap[g]? = some (.cells cur 173) := (HBR.out.block g hgl).trans hgh
      have h5o := owns_bel HOWN.out HBR.out
      obtain ⟨g5, off5, e3, hat5⟩ := itm_at (Row.of_owns h5o) (by omega)
      cases e3
      have hat5 := hat5 j _ HQX.out
      have k6 := hat5 6 (by omega)
      have k7 := hat5 7 (by omega)
      have k9 := hat5 9 (by omega)
      simp only [itmvCells, List.getElem?_cons_zero, List.getElem?_cons_succ, Nat.zero_add] at k6 k7 k9
      have f6 : w5.frozen? ⟨g, j * 10 + 6, none⟩ = false := frozen_of hgh5 _
      have f7 : w5.frozen? ⟨g, j * 10 + 7, none⟩ = false := frozen_of hgh5 _
      have f9 : w5.frozen? ⟨g, j * 10 + 9, none⟩ = false := frozen_of hgh5 _
      have hxg : wr.heap.size ≠ g := by omega
      clear ho hb hat5
      go_wp2_with fail
      refine hK.out _ _ ?_ (fun hHeld3 => ?_)
      · (try dsimp only)
        first | exact KEEP.out _ (HX3.out) | exact KEEP.out _ HX4.out | exact KEEP.out _ HX5.out | exact KEEP.out _ HX6.out | exact KEEP.out _ HX7.out | exact KEEP.out _ HX8.out
      clear hK K
      try simp only [List.getElem_toArray, List.getElem_cons_succ, List.getElem_cons_zero, Act.put, List.setIfInBounds_toArray, List.set_cons_zero, List.set_cons_succ]
      refine wpAnyH_take (i := 15) (v := ?_) rfl (by kernel_rfl) (by kernel_rfl) (by kernel_rfl) (fun _ _ _ h => h) (Or.inl ⟨by rfl, ?_⟩) (by assumption) ?_
      rotate_left
      · intro w hSw
        (try dsimp only at hSw)
        go_simp
        try with_reducible rfl
      try simp only [List.getElem_toArray, List.getElem_cons_succ, List.getElem_cons_zero, Act.put, List.setIfInBounds_toArray, List.set_cons_zero, List.set_cons_succ]
      refine wpAnyH_take (i := 16) (v := ?_) rfl (by kernel_rfl) (by kernel_rfl) (by kernel_rfl) (fun _ _ _ h => h) (Or.inl ⟨by rfl, ?_⟩) (by assumption) ?_
      rotate_left
      · intro w hSw
        (try dsimp only at hSw)
        go_simp
        try with_reducible rfl
      try simp only [List.getElem_toArray, List.getElem_cons_succ, List.getElem_cons_zero, Act.put, List.setIfInBounds_toArray, List.set_cons_zero, List.set_cons_succ]
      refine wpAnyH_ready (rs := [17]) (by kernel_rfl) (by simp) ?_
      refine AllReadyH.cons (i := 17) rfl (fun K hK => ?_) AllReadyH.nil
      go_simp
      have HX6 : Hid ((w5.setCell ⟨g, j * 10 + 6, none⟩ (.slice ba' i.blocks.length bc')).heap[wr.heap.size]? = w2.heap[wr.heap.size]?) := (RowKit.Below.heap_setCell w5 ⟨g, j * 10 + 6, none⟩ _ wr.heap.size hxg).trans HX5.out
      have k7' : (w5.setCell ⟨g, j * 10 + 6, none⟩ (.slice ba' i.blocks.length bc')).cell? ⟨g, j * 10 + 7, none⟩ = some (.slice ga i.gone.length gc) := (World.cell?_setCell_other _ _ _ _ (by simp)).trans k7
      have f7' : (w5.setCell ⟨g, j * 10 + 6, none⟩ (.slice ba' i.blocks.length bc')).frozen? ⟨g, j * 10 + 7, none⟩ = false := frozen_of (hp_set hgh5 _ _) _
      refine hK.out _ _ ?_ (fun hHeld4 => ?_)
      · (try dsimp only)
        first | exact KEEP.out _ (HX3.out) | exact KEEP.out _ HX4.out | exact KEEP.out _ HX5.out | exact KEEP.out _ HX6.out | exact KEEP.out _ HX7.out | exact KEEP.out _ HX8.out
      clear hK K
      try simp only [List.getElem_toArray, List.getElem_cons_succ, List.getElem_cons_zero, Act.put, List.setIfInBounds_toArray, List.set_cons_zero, List.set_cons_succ]
      refine wpAnyH_take (i := 18) (v := ?_) rfl (by kernel_rfl) (by kernel_rfl) (by kernel_rfl) (fun _ _ _ h => h) (Or.inl ⟨by rfl, ?_⟩) (by assumption) ?_
      rotate_left
      · intro w hSw
        (try dsimp only at hSw)
        go_simp
        try with_reducible rfl
      try simp only [List.getElem_toArray, List.getElem_cons_succ, List.getElem_cons_zero, Act.put, List.setIfInBounds_toArray, List.set_cons_zero, List.set_cons_succ]
      refine wpAnyH_take (i := 19) (v := ?_) rfl (by kernel_rfl) (by kernel_rfl) (by kernel_rfl) (fun _ _ _ h => h) (Or.inl ⟨by rfl, ?_⟩) (by assumption) ?_
      rotate_left
      · intro w hSw
        (try dsimp only at hSw)
        go_simp
        try with_reducible rfl
      try simp only [List.getElem_toArray, List.getElem_cons_succ, List.getElem_cons_zero, Act.put, List.setIfInBounds_toArray, List.set_cons_zero, List.set_cons_succ]
      refine wpAnyH_ready (rs := [20]) (by kernel_rfl) (by simp) ?_
      refine AllReadyH.cons (i := 20) rfl (fun K hK => ?_) AllReadyH.nil
      go_simp
      have HX7 : Hid (((w5.setCell ⟨g, j * 10 + 6, none⟩ (.slice ba' i.blocks.length bc')).setCell ⟨g, j * 10 + 7, none⟩ (.slice ga' i.gone.length gc')).heap[wr.heap.size]? = w2.heap[wr.heap.size]?) := (RowKit.Below.heap_setCell (w5.setCell ⟨g, j * 10 + 6, none⟩ (.slice ba' i.blocks.length bc')) ⟨g, j * 10 + 7, none⟩ _ wr.heap.size hxg).trans HX6.out
      have k9' : ((w5.setCell ⟨g, j * 10 + 6, none⟩ (.slice ba' i.blocks.length bc')).setCell ⟨g, j * 10 + 7, none⟩ (.slice ga' i.gone.length gc')).cell? ⟨g, j * 10 + 9, none⟩ = some (.slice pa i.pairs.length pc) := (World.cell?_setCell_other _ _ _ _ (by simp)).trans ((World.cell?_setCell_other _ _ _ _ (by simp)).trans k9)
      have f9' : ((w5.setCell ⟨g, j * 10 + 6, none⟩ (.slice ba' i.blocks.length bc')).setCell ⟨g, j * 10 + 7, none⟩ (.slice ga' i.gone.length gc')).frozen? ⟨g, j * 10 + 9, none⟩ = false := frozen_of (hp_set (hp_set hgh5 _ _) _ _) _
      refine hK.out _ _ ?_ (fun hHeld5 => ?_)
      · (try dsimp only)
        first | exact KEEP.out _ (HX3.out) | exact KEEP.out _ HX4.out | exact KEEP.out _ HX5.out | exact KEEP.out _ HX6.out | exact KEEP.out _ HX7.out | exact KEEP.out _ HX8.out
      clear hK K
      try simp only [List.getElem_toArray, List.getElem_cons_succ, List.getElem_cons_zero, Act.put, List.setIfInBounds_toArray, List.set_cons_zero, List.set_cons_succ]
      refine wpAnyH_take (i := 21) (v := ?_) rfl (by kernel_rfl) (by kernel_rfl) (by kernel_rfl) (fun _ _ _ h => h) (Or.inl ⟨by rfl, ?_⟩) (by assumption) ?_
      rotate_left
      · intro w hSw
        (try dsimp only at hSw)
        go_simp
        try with_reducible rfl
      try simp only [List.getElem_toArray, List.getElem_cons_succ, List.getElem_cons_zero, Act.put, List.setIfInBounds_toArray, List.set_cons_zero, List.set_cons_succ]
      refine wpAnyH_take (i := 22) (v := ?_) rfl (by kernel_rfl) (by kernel_rfl) (by kernel_rfl) (fun _ _ _ h => h) (Or.inl ⟨by rfl, ?_⟩) (by assumption) ?_
      rotate_left
      · intro w hSw
        (try dsimp only at hSw)
        go_simp
        try with_reducible rfl
      try simp only [List.getElem_toArray, List.getElem_cons_succ, List.getElem_cons_zero, Act.put, List.setIfInBounds_toArray, List.set_cons_zero, List.set_cons_succ]
      refine wpAnyH_ready (rs := [23]) (by kernel_rfl) (by simp) ?_
      refine AllReadyH.cons (i := 23) rfl (fun K hK => ?_) AllReadyH.nil
      go_simp
      have HX8 : Hid ((((w5.setCell ⟨g, j * 10 + 6, none⟩ (.slice ba' i.blocks.length bc')).setCell ⟨g, j * 10 + 7, none⟩ (.slice ga' i.gone.length gc')).setCell ⟨g, j * 10 + 9, none⟩ (.slice pa' i.pairs.length pc')).heap[wr.heap.size]? = w2.heap[wr.heap.size]?) := (RowKit.Below.heap_setCell ((w5.setCell ⟨g, j * 10 + 6, none⟩ (.slice ba' i.blocks.length bc')).setCell ⟨g, j * 10 + 7, none⟩ (.slice ga' i.gone.length gc')) ⟨g, j * 10 + 9, none⟩ _ wr.heap.size hxg).trans HX7.out
      refine hK.out _ _ ?_ (fun hHeld6 => ?_)
      · (try dsimp only)
        first | exact KEEP.out _ (HX3.out) | exact KEEP.out _ HX4.out | exact KEEP.out _ HX5.out | exact KEEP.out _ HX6.out | exact KEEP.out _ HX7.out | exact KEEP.out _ HX8.out
      clear hK K
      try simp only [List.getElem_toArray, List.getElem_cons_succ, List.getElem_cons_zero, Act.put, List.setIfInBounds_toArray, List.set_cons_zero, List.set_cons_succ]
      refine wpAnyH_done (by kernel_rfl) ?_ _
      refine NoPanic.normal ?_
      go_wp2_with fail
      go_roundw
      case rel =>
        have e0 : Below w.heap.size w w5 := HBEL.out.trans (HBR.out.mono hsz)
        have e1 : Below w.heap.size w (((w5.setCell ⟨g, j * 10 + 6, none⟩ (.slice ba' i.blocks.length bc')).setCell ⟨g, j * 10 + 7, none⟩ (.slice ga' i.gone.length gc')).setCell ⟨g, j * 10 + 9, none⟩ (.slice pa' i.pairs.length pc')) := ((((Fr.of_below NoB e0).setCell (p := ⟨g, j * 10 + 6, none⟩) (Or.inl hwg) _).setCell (p := ⟨g, j * 10 + 7, none⟩) (Or.inl hwg) _).setCell (p := ⟨g, j * 10 + 9, none⟩) (Or.inl hwg) _).below
        have e2 := owns_setI (owns_setI (owns_setI h5o (by omega) (j * 10 + 6) (.slice ba' i.blocks.length bc')) (by omega) (j * 10 + 7) (.slice ga' i.gone.length gc')) (by omega) (j * 10 + 9) (.slice pa' i.pairs.length pc')
        rw [HQJ.out] at e2
        have g6 := hp_set hgh5 (j * 10 + 6) (.slice ba' i.blocks.length bc')
        have g7 := hp_set g6 (j * 10 + 7) (.slice ga' i.gone.length gc')
        refine ⟨j + 1, _, by omega, by go_num, (HMAP.out _ _ _).trans HQ.out, e2, fun x hx => ?_, e1⟩
        rcases List.mem_or_eq_of_mem_set hx with hx | rfl
        · exact ((((HIT.out x hx).below HBR.out).setAt hgh5 _ _).setAt g6 _ _).setAt g7 _ _
        · have hn : ItmR w5 ⟨i, (.slice ba' i.blocks.length bc'), (.slice ga' i.gone.length gc'), (.slice pa' i.pairs.length pc')⟩ := ⟨Row.below (Row.below HO3.out HB34.out) HB45.out, Row.below HO4.out HB45.out, HO5.out⟩
          exact ((hn.setAt hgh5 _ _).setAt g6 _ _).setAt g7 _ _
      case measure => simp [intOf]; omega
    · have hjj : j = L.length := by omega
      have HMQ : Hid (ItmsRow wr (.slice va L.length vc) (L.map (·.i))) := ⟨Q, HQ.out.symm, by rw [hQl]; exact Row.of_owns HOWN.out, HIT.out⟩
      clear hown
      go_wp2
      go_ret
      exact ⟨⟨_, rfl, HMQ.out⟩, HBEL.out⟩
end Go.Proofs.By
set_option linter.unusedSimpArgs false
namespace Go.Proofs.By
open Go.RowKit Go.Proofs.Heap
theorem at8_short {b : List UInt8} (h : b.length < 2) : at8 b 1 = 0 := by
  unfold at8
  rw [List.getD_eq_getElem?_getD, List.getElem?_eq_none (by omega)]
  rfl
set_option maxRecDepth 100000 in
set_option maxHeartbeats 2000000 in
theorem siftOf_any (v : Value) (b : List UInt8) (w : World) (hv : BRow w v b) :
    Calls Tryz.prog 105 #[v] w fun e w' => (∃ a, e = .returned (.tuple #[a, .int .i64 (sift b).2]) ∧ EvIn w' a (sift b).1) ∧ Below w.heap.size w w' := by
  by_cases h3 : 192 ≤ at8 b 1 ∧ at8 b 1 ≤ 223
  rotate_left
  · exact siftOf_plain v b w hv h3
  have hlen := hv.len
  have h2 : ¬ b.length < 2 := fun h => by rw [at8_short h] at h3; omega
  by_cases h1 : 512 < b.length
  · have HX : Hid (sift b = (.none, 5)) := by show _ = _; unfold sift; rw [if_pos h1]
    obtain ⟨a, c, rfl, -⟩ := id hv
    clear hv h3
    generalize sift b = X at *
    go_enter Tryz.func105, Tryz.ntmps105
    go_wp2_with fail
    go_ret2
    exact ⟨⟨.nilIface, by rw [HX.out]; rfl, by rw [HX.out]; rfl⟩, Below.refl _ _⟩
  have HX : Hid (sift b = if (itemsGet b).2 ≠ 0 then (.none, (itemsGet b).2) else (.feedback (itemsGet b).1, 0)) := by
    show _ = _
    conv => lhs; unfold sift
    rw [if_neg h1, if_neg h2, if_pos h3]
  have HC := Lib.hid (rtcpGet_any v b w hv)
  obtain ⟨g, off, c, rfl, hcc, hmx, hbl⟩ := b_at hv (by omega)
  have d1 := hbl 1 (by omega)
  clear hbl hv hcc hmx
  have hbI : (1 : Int) < (b.length : Int) := by omega
  have hbN : 1 < b.length := by omega
  generalize sift b = X at *
  generalize itemsGet b = Y at *
  obtain ⟨L, er⟩ := Y
  dsimp only at HC HX
  have hmk := fun (x : Value) (w : World) => run_makeInterface (P := Tryz.prog) w 213 x (by kernel_rfl)
  obtain ⟨hk1, hk2⟩ := h3
  generalize at8 b 1 = kd at *
  have l1 : decide ((192 : Int) ≤ (kd : Int)) = true := decide_eq_true (by omega)
  have l2 : decide ((kd : Int) ≤ 223) = true := decide_eq_true (by omega)
  go_enter Tryz.func105, Tryz.ntmps105
  go_upto_region 7 with (go_at_call 124; refine HC.out.mono ?_; rintro e w2 ⟨⟨iv, rfl, hit⟩, hb2⟩; obtain ⟨ia, ic, hiv⟩ := ItmsRow.form hit; subst hiv; have HIT := Lib.hid hit; have HB2 := Lib.hid hb2; clear hit hb2)
  clear HC
  by_cases her : er = 0
  · subst her
    rw [if_neg (by simp)] at HX
    go_wp2_with fail
    go_ret2
    exact ⟨⟨_, by rw [HX.out]; rfl, by rw [HX.out]; exact ⟨_, rfl, HIT.out⟩⟩, HB2.out⟩
  · have bl : (er != 0) = true := by rw [bne_iff_ne]; exact her
    have bl2 : (er == 0) = false := by rw [beq_eq_false_iff_ne]; exact her
    rw [if_pos her] at HX
    go_wp2_with fail
    go_ret2
    exact ⟨⟨.nilIface, by rw [HX.out]; rfl, by rw [HX.out]; rfl⟩, HB2.out⟩
end Go.Proofs.By
