/- The walks of package room, each function once: publishes. -/
import Derived.Test.YthlamfoldfeocaaDoorRoomWalks7
namespace Go.Proofs.Rm
open Go.RowKit Go.Proofs.Heap Go.Proofs.Mem
theorem index_neg {l : List Int} {x : Int} : decide (0 ≤ index l x) = l.contains x := by
  unfold index
  cases h : l.findIdx? (fun y => y == x) with
  | none =>
    have := List.findIdx?_eq_none_iff.1 h
    have hx : l.contains x = false := by
      rw [Bool.eq_false_iff]; intro hc
      have := this x (by simpa using hc)
      simp at this
    rw [hx]; rfl
  | some i =>
    have hx : l.contains x = true := by
      obtain ⟨hi, h1, _⟩ := List.findIdx?_eq_some_iff_getElem.1 h
      have : l[i] = x := by simpa using h1
      rw [List.contains_iff_mem, ← this]; exact List.getElem_mem hi
    rw [hx]; simp
theorem Contains_any (v : Value) (l : List Int) (x : Int) (w : World) (hv : RRow w v l.length (u32s l)) :
    Calls Tryd.prog 72 #[v, .int .u32 x] w fun e w' => e = .returned (.bool (l.contains x)) ∧ w = w' := by
  have CI := Lib.hid (Index_any v l x w hv)
  have HN : Hid (decide (0 ≤ index l x) = l.contains x) := index_neg
  clear hv
  generalize index l x = q at *
  go_enter Tryd.func72, Tryd.ntmps72
  go_wp2_with (go_at_call 43; refine CI.out.mono ?_; rintro e w1 ⟨rfl, rfl⟩)
  all_goals go_ret
  all_goals exact ⟨ret_bool (by rw [← HN.out]), rfl⟩
theorem u32_take {w : World} {g off n cap : Nat} {l : List Int} (h : RRow w (.slice (some ⟨g, off, none⟩) n cap) l.length (u32s l)) (k : Nat) (hk : k ≤ l.length) : RRow w (.slice (some ⟨g, off, none⟩) k cap) (l.take k).length (u32s (l.take k)) := by
  obtain ⟨a, cap', hv, h1, h2, h3, h4⟩ := h
  injection hv with ha hn hc
  subst hc
  have hl : (l.take k).length = k := by rw [List.length_take]; omega
  refine ⟨some ⟨g, off, none⟩, cap, by rw [hl], by rw [hl]; omega, h2, (fun h => by cases h), ?_⟩
  by_cases hz : k = 0
  · subst hz; exact Or.inl rfl
  · rcases h4 with h4 | ⟨b, o, hab, hlt, hcc⟩
    · have : (u32s l).length = 0 := by rw [h4]; rfl
      rw [u32s_length] at this; omega
    · refine Or.inr ⟨b, o, by rw [ha, hab], hlt, fun j hj => ?_⟩
      rw [u32s_length, hl] at hj
      rw [hcc j (by rw [u32s_length]; omega)]
      simp [u32s, List.getElem?_take_of_lt hj]
theorem twice_split (R : Room) (l : List Int) (k : Nat) : twice R l k = ((of R (l.getD k 0)).2.2 || (l.take k).contains (l.getD k 0)) := rfl
set_option maxHeartbeats 4000000 in
theorem publishes_any (b : Nat) (R : Room) (o : Op) (sa ba : Option Addr) (sc bl bc : Nat) (w : World) (hR : RoomAt w b R) (hs : 1 ≤ o.source ∧ o.source < 9)
    (hrow : RRow w (.slice sa o.ssrcs.length sc) o.ssrcs.length (u32s o.ssrcs)) :
    Calls Tryd.prog 53 #[.pointer (some ⟨b, 0, none⟩), .agg #[.int .i64 o.kind, .int .i64 o.peer, .int .i64 o.source, .int .i64 o.layer, .string (str o.name), .slice sa o.ssrcs.length sc, .slice ba bl bc]] w fun e w' => e = .returned (.int .i64 (publishes R o)) ∧ Below w.heap.size w w' := by
  have CO := Lib.hid (fun (w1 : World) (x : Int) (h : Below w.heap.size w w1) => Of_any b R x w1 (hR.below h))
  obtain ⟨kd, p, n, q, nm, ss⟩ := o
  obtain ⟨n, rfl⟩ := Int.eq_ofNat_of_zero_le (show 0 ≤ n by have := hs.1; dsimp only at this; omega)
  have hn : n < 9 := by have := hs.2; dsimp only at this; omega
  obtain ⟨s0, s1, s2, s3, s4⟩ := hR.srcc hn
  have hb := hR.lt
  have HP : Hid (publishes R ⟨kd, p, n, q, nm, ss⟩ = (if ss.length < 1 ∨ 3 < ss.length then 5 else if ss.any (fun s => decide (s < 2) || decide (3221225472 ≤ s)) then 5 else if (R.src n).there then 9 else if (List.range ss.length).any (twice R ss) then 9 else 0)) := rfl
  dsimp only at *
  have hlen := hrow.len
  clear hR hs s1 s2 s3 s4
  generalize publishes R ⟨kd, p, n, q, nm, ss⟩ = pub at *
  generalize (R.src n).there = u0 at *
  by_cases h1 : ss.length < 1
  · have HF : Hid (pub = 5) := by show _ = _; rw [HP.out, if_pos (Or.inl h1)]
    clear hrow
    go_enter Tryd.func53, Tryd.ntmps53
    go_wp2
    go_ret
    exact ⟨ret_int HF.out.symm, below_alloc _ _⟩
  by_cases h2 : 3 < ss.length
  · have HF : Hid (pub = 5) := by show _ = _; rw [HP.out, if_pos (Or.inr h2)]
    clear hrow
    go_enter Tryd.func53, Tryd.ntmps53
    go_wp2
    go_ret
    exact ⟨ret_int HF.out.symm, below_alloc _ _⟩
  have HP2 : Hid (pub = (if ss.any (fun s => decide (s < 2) || decide (3221225472 ≤ s)) then 5 else if u0 then 9 else if (List.range ss.length).any (twice R ss) then 9 else 0)) := by
    show _ = _; rw [HP.out, if_neg (by omega)]
  obtain ⟨g, off, cap, e1, _, _, hg, hcells⟩ := u32_openR hrow (by omega)
  cases e1
  have HC := Lib.hid hcells
  have HROW := Lib.hid hrow
  clear hcells hrow HP
  go_enter Tryd.func53, Tryd.ntmps53
  go_wp2
  go_loop [25] (fun i => ∃ k : Nat, k ≤ ss.length ∧ i = .int .i64 k ∧ Hid (∀ j, j < k → 2 ≤ ss.getD j 0 ∧ ss.getD j 0 < 3221225472)) (fun i => ss.length - (intOf i).toNat)
  case atStart => exact ⟨0, Nat.zero_le _, rfl, fun j hj => by omega⟩
  case round =>
    obtain ⟨k, hk, rfl, hno⟩ := hrel
    by_cases hkl : k < ss.length
    · have hc := HC.out k hkl
      have HBAD : Hid (¬ (2 ≤ ss.getD k 0 ∧ ss.getD k 0 < 3221225472) → pub = 5) := by
        intro h
        rw [HP2.out, if_pos]
        rw [List.any_eq_true]
        refine ⟨ss.getD k 0, ?_, by generalize ss.getD k 0 = z at h ⊢; simp; omega⟩
        rw [List.getD_eq_getElem?_getD, List.getElem?_eq_getElem hkl]; exact List.getElem_mem hkl
      generalize hy : ss.getD k 0 = y at *
      have HY := Lib.hid hy
      clear hy
      by_cases g1 : y < 2
      · have HF := Lib.hid (HBAD.out (by omega))
        go_wp2
        go_ret
        exact ⟨ret_int HF.out.symm, below_alloc _ _⟩
      by_cases g2 : 3221225472 ≤ y
      · have HF := Lib.hid (HBAD.out (by omega))
        go_wp2
        go_ret
        exact ⟨ret_int HF.out.symm, below_alloc _ _⟩
      · go_wp2
        go_round
        case rel => exact ⟨k + 1, by omega, by go_num, fun j hj => by by_cases hjk : j < k; exact hno.out j hjk; rw [show j = k by omega, HY.out]; omega⟩
        case measure => simp [intOf]; omega
    · have HP3 : Hid (pub = if u0 then 9 else if (List.range ss.length).any (twice R ss) then 9 else 0) := by
        show _ = _
        rw [HP2.out, if_neg]
        rw [List.any_eq_true]
        rintro ⟨x, hx, hx2⟩
        obtain ⟨j, hj, rfl⟩ := List.getElem_of_mem hx
        have := hno.out j (by omega)
        rw [List.getD_eq_getElem?_getD, List.getElem?_eq_getElem hj] at this
        simp at hx2 this; omega
      clear hno HP2
      cases u0
      · have HP4 : Hid (pub = if (List.range ss.length).any (twice R ss) then 9 else 0) := by show _ = _; rw [HP3.out]; rfl
        clear HP3
        go_wp2
        go_quiet (fail)
        go_wp2
        go_loopw [47] (fun i w' => ∃ k : Nat, k ≤ ss.length ∧ i = .int .i64 k ∧ Below w.heap.size w w' ∧ w.heap.size < w'.heap.size ∧ w'.cell? ⟨w.heap.size, 5, none⟩ = some (.slice (some ⟨g, off, none⟩) ss.length sc) ∧ Hid (∀ j, j < k → twice R ss j = false)) (fun i _ => ss.length - (intOf i).toNat)
        case atStart => exact ⟨0, Nat.zero_le _, rfl, below_drewN (below_alloc _ _) _, by simp, by simp, fun j hj => by omega⟩
        case round =>
          obtain ⟨k, hk, rfl, hbl, hsz, hbox, hno⟩ := hrel
          by_cases hkl : k < ss.length
          · have hrowr := HROW.out.below hbl
            obtain ⟨g', off', cap', e1, _, _, hg', hcells⟩ := u32_openR hrowr (by omega)
            cases e1
            have hc := hcells k hkl
            have CO1 := Lib.hid (CO.out wr (ss.getD k 0) hbl)
            have CC : Hid (∀ w1, Below wr.heap.size wr w1 → Calls Tryd.prog 72 #[.slice (some ⟨g, off, none⟩) k sc, .int .u32 (ss.getD k 0)] w1 fun e w' => e = .returned (.bool ((ss.take k).contains (ss.getD k 0))) ∧ w1 = w') :=
              fun w1 h => Contains_any _ (ss.take k) _ w1 (u32_take (hrowr.below h) k hk)
            have HTW := Lib.hid (twice_split R ss k)
            have HNIN : Hid (twice R ss k = true → pub = 9) := by
              intro h
              rw [HP4.out, if_pos]
              rw [List.any_eq_true]
              exact ⟨k, by simpa using hkl, h⟩
            clear hcells hrowr
            generalize of R (ss.getD k 0) = O at *
            obtain ⟨o1, o2, o3⟩ := O
            dsimp only at CO1 HTW
            generalize hcn : (ss.take k).contains (ss.getD k 0) = cn at *
            clear hcn
            generalize ss.getD k 0 = x at *
            cases o3
            · cases cn
              · have HF : Hid (twice R ss k = false) := by show _ = _; rw [HTW.out]; rfl
                go_wp2_with (first | (go_at_call 14; refine CO1.out.mono ?_; rintro e w2 ⟨rfl, hb2⟩; have hbox2 := (hb2.cell (p := ⟨w.heap.size, 5, none⟩) hsz).trans hbox) | (go_at_call 72; refine (CC.out _ hb2).mono ?_; rintro e w3 ⟨rfl, rfl⟩))
                go_roundw
                case rel => exact ⟨k + 1, by omega, by go_num, hbl.trans (hb2.mono hbl.size), Nat.lt_of_lt_of_le hsz hb2.size, hbox2, fun j hj => by by_cases hjk : j < k; exact hno.out j hjk; rw [show j = k by omega]; exact HF.out⟩
                case measure => simp [intOf]; omega
              · have HF := Lib.hid (HNIN.out (by rw [HTW.out]; rfl))
                go_wp2_with (first | (go_at_call 14; refine CO1.out.mono ?_; rintro e w2 ⟨rfl, hb2⟩; have hbox2 := (hb2.cell (p := ⟨w.heap.size, 5, none⟩) hsz).trans hbox) | (go_at_call 72; refine (CC.out _ hb2).mono ?_; rintro e w3 ⟨rfl, rfl⟩))
                go_ret
                exact ⟨ret_int HF.out.symm, hbl.trans (hb2.mono hbl.size)⟩
            · have HF := Lib.hid (HNIN.out (by rw [HTW.out]; rfl))
              go_wp2_with (first | (go_at_call 14; refine CO1.out.mono ?_; rintro e w2 ⟨rfl, hb2⟩; have hbox2 := (hb2.cell (p := ⟨w.heap.size, 5, none⟩) hsz).trans hbox))
              go_ret
              exact ⟨ret_int HF.out.symm, hbl.trans (hb2.mono hbl.size)⟩
          · have HF : Hid (pub = 0) := by
              show _ = _
              rw [HP4.out, if_neg]
              rw [List.any_eq_true]
              rintro ⟨j, hj, hj2⟩
              rw [hno.out j (by simp at hj; omega)] at hj2
              cases hj2
            go_wp2
            go_ret
            exact ⟨ret_int HF.out.symm, hbl⟩
      · have HF : Hid (pub = 9) := by show _ = _; rw [HP3.out]; rfl
        go_wp2
        go_quiet (fail)
        go_wp2
        go_ret
        exact ⟨ret_int HF.out.symm, below_drewN (below_alloc _ _) _⟩
end Go.Proofs.Rm
