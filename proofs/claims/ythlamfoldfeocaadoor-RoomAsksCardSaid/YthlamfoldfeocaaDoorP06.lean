/- Several texts in one: The walks of the reference's room: wrongSsrcs. The walks of the reference's room: wrongSub. The walks of the reference's room: wrongSub, the last kinds; all kinds. Slices of slices: what is cut off in front and behind, as rows of cells. Over any program. The reference's room: what it computes, the operations that change it; its block's cells set anew. The plain room: what holds of every room that was made by operations is kept by each. No program in sight. -/
import Derived.BigQuiet
import Derived.Deep.QuietTactic
import Derived.Laws.Slices
import Derived.Test.YthlamfoldfeocaaDoorP01
import Derived.Test.YthlamfoldfeocaaDoorP04
import Derived.Test.YthlamfoldfeocaaDoorP05
namespace Go.Proofs.Rm
open Go.RowKit Go.Proofs.Heap Go.Proofs.Mem
theorem rtwice_split (T : Tab) (l : List Int) (k : Nat) : T.twice l k = ((l.take k).contains (l.getD k 0) || (T.of (l.getD k 0)).2.2) := rfl
set_option maxHeartbeats 4000000 in
theorem wrongSsrcs_any (b : Nat) (T : Tab) (o : Op) (at' : Int) (sa ba : Option Addr) (sc bl bc : Nat) (w : World) (hR : RefAt w b T)
    (hrow : RRow w (.slice sa o.ssrcs.length sc) o.ssrcs.length (u32s o.ssrcs)) :
    Calls Tryd.prog 60 #[.pointer (some ⟨b, 0, none⟩), .agg #[.int .i64 o.kind, .int .i64 o.peer, .int .i64 o.source, .int .i64 o.layer, .string (str o.name), .slice sa o.ssrcs.length sc, .slice ba bl bc], .int .i64 at'] w fun e w' => e = .returned (.int .i64 (T.wrongSsrcs o at')) ∧ Below w.heap.size w w' := by
  have CO := Lib.hid (fun (w1 : World) (x : Int) (h : Below w.heap.size w w1) => rOf_any b T x w1 (hR.below h))
  obtain ⟨kd, p, n, q, nm, ss⟩ := o
  have hb := hR.lt
  have HP : Hid (T.wrongSsrcs ⟨kd, p, n, q, nm, ss⟩ at' = (if ss.length < 1 ∨ 3 < ss.length then 5 else if ss.any (fun s => decide (s < 2) || decide (3221225472 ≤ s)) then 5 else if 0 ≤ at' then 9 else if (List.range ss.length).any (T.twice ss) then 9 else 0)) := rfl
  dsimp only at *
  have hlen := hrow.len
  clear hR
  generalize T.wrongSsrcs ⟨kd, p, n, q, nm, ss⟩ at' = pub at *
  by_cases h1 : ss.length < 1
  · have HF : Hid (pub = 5) := by show _ = _; rw [HP.out, if_pos (Or.inl h1)]
    clear hrow
    go_enter Tryd.func60, Tryd.ntmps60
    go_wp2
    go_ret
    exact ⟨ret_int HF.out.symm, below_alloc _ _⟩
  by_cases h2 : 3 < ss.length
  · have HF : Hid (pub = 5) := by show _ = _; rw [HP.out, if_pos (Or.inr h2)]
    clear hrow
    go_enter Tryd.func60, Tryd.ntmps60
    go_wp2
    go_ret
    exact ⟨ret_int HF.out.symm, below_alloc _ _⟩
  have HP2 : Hid (pub = (if ss.any (fun s => decide (s < 2) || decide (3221225472 ≤ s)) then 5 else if 0 ≤ at' then 9 else if (List.range ss.length).any (T.twice ss) then 9 else 0)) := by
    show _ = _; rw [HP.out, if_neg (by omega)]
  obtain ⟨g, off, cap, e1, _, _, hg, hcells⟩ := u32_openR hrow (by omega)
  cases e1
  have HC := Lib.hid hcells
  have HROW := Lib.hid hrow
  clear hcells hrow HP
  go_enter Tryd.func60, Tryd.ntmps60
  go_wp2
  go_loop [29] (fun i => ∃ k : Nat, k ≤ ss.length ∧ i = .int .i64 k ∧ Hid (∀ j, j < k → 2 ≤ ss.getD j 0 ∧ ss.getD j 0 < 3221225472)) (fun i => ss.length - (intOf i).toNat)
  case atStart => exact ⟨0, Nat.zero_le _, rfl, fun j hj => by omega⟩
  case round =>
    obtain ⟨k, hk, rfl, hno⟩ := hrel
    by_cases hkl : k < ss.length
    · have hc := HC.out k hkl
      have HBAD : Hid (¬ (2 ≤ ss.getD k 0 ∧ ss.getD k 0 < 3221225472) → pub = 5) := by
        intro h
        rw [HP2.out, if_pos]
        rw [List.any_eq_true]
        refine ⟨ss.getD k 0, ?_, by generalize ss.getD k 0 = z at h ⊢; simp; omega⟩
        rw [List.getD_eq_getElem?_getD, List.getElem?_eq_getElem hkl]; exact List.getElem_mem hkl
      generalize hy : ss.getD k 0 = y at *
      have HY := Lib.hid hy
      clear hy
      by_cases g1 : y < 2
      · have HF := Lib.hid (HBAD.out (by omega))
        go_wp2
        go_ret
        exact ⟨ret_int HF.out.symm, below_alloc _ _⟩
      by_cases g2 : 3221225472 ≤ y
      · have HF := Lib.hid (HBAD.out (by omega))
        go_wp2
        go_ret
        exact ⟨ret_int HF.out.symm, below_alloc _ _⟩
      · go_wp2
        go_round
        case rel => exact ⟨k + 1, by omega, by go_num, fun j hj => by by_cases hjk : j < k; exact hno.out j hjk; rw [show j = k by omega, HY.out]; omega⟩
        case measure => simp [intOf]; omega
    · have HP3 : Hid (pub = if 0 ≤ at' then 9 else if (List.range ss.length).any (T.twice ss) then 9 else 0) := by
        show _ = _
        rw [HP2.out, if_neg]
        rw [List.any_eq_true]
        rintro ⟨x, hx, hx2⟩
        obtain ⟨j, hj, rfl⟩ := List.getElem_of_mem hx
        have := hno.out j (by omega)
        rw [List.getD_eq_getElem?_getD, List.getElem?_eq_getElem hj] at this
        simp at hx2 this; omega
      clear hno HP2
      by_cases hat : 0 ≤ at'
      · have HF : Hid (pub = 9) := by show _ = _; rw [HP3.out, if_pos hat]
        go_wp2
        go_ret
        exact ⟨ret_int HF.out.symm, below_alloc _ _⟩
      · have HP4 : Hid (pub = if (List.range ss.length).any (T.twice ss) then 9 else 0) := by show _ = _; rw [HP3.out, if_neg hat]
        clear HP3
        go_wp2
        go_loopw [45] (fun i w' => ∃ k : Nat, k ≤ ss.length ∧ i = .int .i64 k ∧ Below w.heap.size w w' ∧ w.heap.size < w'.heap.size ∧ w'.cell? ⟨w.heap.size, 5, none⟩ = some (.slice (some ⟨g, off, none⟩) ss.length sc) ∧ Hid (∀ j, j < k → T.twice ss j = false)) (fun i _ => ss.length - (intOf i).toNat)
        case atStart => exact ⟨0, Nat.zero_le _, rfl, below_alloc _ _, by simp, by simp, fun j hj => by omega⟩
        case round =>
          obtain ⟨k, hk, rfl, hbl, hsz, hbox, hno⟩ := hrel
          by_cases hkl : k < ss.length
          · have hrowr := HROW.out.below hbl
            obtain ⟨g', off', cap', e1, _, _, hg', hcells⟩ := u32_openR hrowr (by omega)
            cases e1
            have hc := hcells k hkl
            have HCR := Lib.hid hcells
            have CO1 := Lib.hid (CO.out wr (ss.getD k 0) hbl)
            have HTW := Lib.hid (rtwice_split T ss k)
            have HNIN : Hid (T.twice ss k = true → pub = 9) := by
              intro h
              rw [HP4.out, if_pos]
              rw [List.any_eq_true]
              exact ⟨k, by simpa using hkl, h⟩
            clear hcells hrowr
            generalize T.of (ss.getD k 0) = O at *
            obtain ⟨o1, o2, o3⟩ := O
            dsimp only at CO1 HTW
            have HCN : Hid ((ss.take k).contains (ss.getD k 0) = true ↔ ∃ j, j < k ∧ ss.getD j 0 = ss.getD k 0) := by
              rw [Hid, List.contains_iff_mem, List.mem_iff_getElem]
              constructor
              · rintro ⟨j, hj, e⟩
                rw [List.length_take] at hj
                rw [List.getElem_take] at e
                exact ⟨j, by omega, by rw [getD_at (by omega)]; exact e⟩
              · rintro ⟨j, hj, e⟩
                exact ⟨j, by rw [List.length_take]; omega, by rw [List.getElem_take, ← getD_at (by omega)]; exact e⟩
            generalize (ss.take k).contains (ss.getD k 0) = cn at *
            generalize hxx : ss.getD k 0 = x at *
            clear hxx
            obtain ⟨wo, rfl⟩ : ∃ wo : World, wo = wr := ⟨_, rfl⟩
            go_wp2
            go_loop [55] (fun i => ∃ m : Nat, m ≤ k ∧ i = .int .i64 m ∧ Hid (∀ j, j < m → ss.getD j 0 ≠ x)) (fun i => k - (intOf i).toNat)
            case atStart => exact ⟨0, by omega, rfl, fun j hj => by omega⟩
            case round =>
              obtain ⟨m, hm, rfl, HN⟩ := hrel
              by_cases hmk : m < k
              · have hd := HCR.out m (by omega)
                by_cases hx : ss.getD m 0 = x
                · have HF := Lib.hid (HNIN.out (by rw [HTW.out, HCN.out.2 ⟨m, hmk, hx⟩]; rfl))
                  rw [hx] at hd
                  clear hx
                  go_wp2
                  go_ret
                  exact ⟨ret_int HF.out.symm, hbl⟩
                · have hbq : (x == ss.getD m 0) = false := by rw [beq_eq_false_iff_ne]; exact fun e => hx e.symm
                  have HX := Lib.hid hx
                  clear hx
                  generalize hy : ss.getD m 0 = y at *
                  have HY := Lib.hid hy
                  clear hy
                  go_wp2
                  go_round
                  case rel => exact ⟨m + 1, by omega, by go_num, fun j hj => by by_cases hjm : j < m; exact HN.out j hjm; rw [show j = m by omega, HY.out]; exact HX.out⟩
                  case measure => simp [intOf]; omega
              · have hcn : cn = false := by
                  rw [Bool.eq_false_iff]
                  intro h
                  obtain ⟨j, hj, e⟩ := HCN.out.1 h
                  exact HN.out j (by omega) e
                cases o3
                · have HF : Hid (T.twice ss k = false) := by show _ = _; rw [HTW.out, hcn]; rfl
                  clear hcn
                  go_wp2_with (go_at_call 15; refine CO1.out.mono ?_; rintro e w2 ⟨rfl, hb2⟩; have hbox2 := (hb2.cell (p := ⟨w.heap.size, 5, none⟩) hsz).trans hbox)
                  go_roundw
                  case rel => exact ⟨k + 1, by omega, by go_num, hbl.trans (hb2.mono hbl.size), Nat.lt_of_lt_of_le hsz hb2.size, hbox2, fun j hj => by by_cases hjk : j < k; exact hno.out j hjk; rw [show j = k by omega]; exact HF.out⟩
                  case measure => simp [intOf]; omega
                · have HF := Lib.hid (HNIN.out (by rw [HTW.out, Bool.or_true]))
                  clear hcn
                  go_wp2_with (go_at_call 15; refine CO1.out.mono ?_; rintro e w2 ⟨rfl, hb2⟩)
                  go_ret
                  exact ⟨ret_int HF.out.symm, hbl.trans (hb2.mono hbl.size)⟩
          · have HF : Hid (pub = 0) := by
              show _ = _
              rw [HP4.out, if_neg]
              rw [List.any_eq_true]
              rintro ⟨j, hj, hj2⟩
              rw [hno.out j (by simp at hj; omega)] at hj2
              cases hj2
            go_wp2
            go_ret
            exact ⟨ret_int HF.out.symm, hbl⟩
end Go.Proofs.Rm
namespace Go.Proofs.Rm
open Go.RowKit Go.Proofs.Heap Go.Proofs.Mem
set_option maxHeartbeats 4000000 in
/-- Of the kinds that only look at the source. -/
theorem wrongSub_own (b : Nat) (T : Tab) (o : Op) (s : TSrc) (sa ba ca : Option Addr) (sl sc bl bc cc : Nat) (w : World) (hk : o.kind = 5 ∨ o.kind = 8 ∨ o.kind = 9) :
    Calls Tryd.prog 61 #[.pointer (some ⟨b, 0, none⟩), .agg #[.int .i64 o.kind, .int .i64 o.peer, .int .i64 o.source, .int .i64 o.layer, .string (str o.name), .slice sa sl sc, .slice ba bl bc], .agg #[.int .i64 s.num, .int .i64 s.own, .slice ca s.ss.length cc, .bool s.muted]] w fun e w' => e = .returned (.int .i64 (T.wrongSub o s)) ∧ Below w.heap.size w w' := by
  obtain ⟨kd, p, n, q, nm, ss⟩ := o
  obtain ⟨s0, s1, s2, s3⟩ := s
  dsimp only at *
  have HW : Hid (T.wrongSub ⟨kd, p, n, q, nm, ss⟩ ⟨s0, s1, s2, s3⟩ = (if s1 ≠ p then 10 else if kd = 8 ∧ s3 = true then 9 else if kd = 9 ∧ s3 = false then 11 else 0)) := by
    show _ = _; unfold Tab.wrongSub; dsimp only; rw [if_pos hk]
  generalize T.wrongSub ⟨kd, p, n, q, nm, ss⟩ ⟨s0, s1, s2, s3⟩ = wv at *
  rcases hk with rfl | rfl | rfl
  all_goals
    go_enter Tryd.func61, Tryd.ntmps61
    go_wp2
    all_goals (go_ret; refine ⟨ret_int ?_, ((Below.refl _ _).alloc (Nat.le_refl _) _).alloc (by simp) _⟩)
    all_goals (rw [HW.out]; first | (simp [*]; done) | (simp_all; done) | skip)
set_option maxHeartbeats 4000000 in
theorem wrongSub_subscribe (b : Nat) (T : Tab) (o : Op) (s : TSrc) (sa ba ca : Option Addr) (sl sc bl bc cc : Nat) (w : World) (hR : RefAt w b T) (hk : o.kind = 6) :
    Calls Tryd.prog 61 #[.pointer (some ⟨b, 0, none⟩), .agg #[.int .i64 o.kind, .int .i64 o.peer, .int .i64 o.source, .int .i64 o.layer, .string (str o.name), .slice sa sl sc, .slice ba bl bc], .agg #[.int .i64 s.num, .int .i64 s.own, .slice ca s.ss.length cc, .bool s.muted]] w fun e w' => e = .returned (.int .i64 (T.wrongSub o s)) ∧ Below w.heap.size w w' := by
  have CS := Lib.hid (fun (w1 : World) (h : Below w.heap.size w w1) => SubAt_any b T o.peer o.source w1 (hR.below h))
  obtain ⟨kd, p, n, q, nm, ss⟩ := o
  obtain ⟨s0, s1, s2, s3⟩ := s
  dsimp only at *
  subst hk
  have HW : Hid (T.wrongSub ⟨6, p, n, q, nm, ss⟩ ⟨s0, s1, s2, s3⟩ = (if s1 = p then 10 else if 0 ≤ T.subAt p n then 9 else if decide (0 ≤ q) && decide (q < s2.length) then 0 else 5)) := rfl
  clear hR
  generalize T.wrongSub ⟨6, p, n, q, nm, ss⟩ ⟨s0, s1, s2, s3⟩ = wv at *
  generalize T.subAt p n = k at *
  generalize s2.length = sln at *
  go_enter Tryd.func61, Tryd.ntmps61
  go_wp2_with (go_at_call 19; refine (CS.out _ (((Below.refl _ _).alloc (Nat.le_refl _) _).alloc (by simp) _)).mono ?_; rintro e w1 ⟨rfl, hb1⟩; obtain ⟨hcl, hfz⟩ := bcell hb1; have hz1 := hb1.size)
  all_goals (go_ret; refine ⟨ret_int ?_, (((Below.refl _ _).alloc (Nat.le_refl _) _).alloc (by simp) _).trans (hb1.mono (by simp; omega))⟩)
  all_goals (rw [HW.out]; first | (simp [*]; done) | (simp_all; done) | (simp_all; omega) | skip)
set_option maxHeartbeats 4000000 in
theorem wrongSub_none (b : Nat) (T : Tab) (o : Op) (s : TSrc) (sa ba ca : Option Addr) (sl sc bl bc cc : Nat) (w : World) (hR : RefAt w b T) (hk : o.kind = 7 ∨ o.kind = 10 ∨ o.kind = 11 ∨ o.kind = 12) (hn : T.subAt o.peer o.source < 0) :
    Calls Tryd.prog 61 #[.pointer (some ⟨b, 0, none⟩), .agg #[.int .i64 o.kind, .int .i64 o.peer, .int .i64 o.source, .int .i64 o.layer, .string (str o.name), .slice sa sl sc, .slice ba bl bc], .agg #[.int .i64 s.num, .int .i64 s.own, .slice ca s.ss.length cc, .bool s.muted]] w fun e w' => e = .returned (.int .i64 (T.wrongSub o s)) ∧ Below w.heap.size w w' := by
  have CS := Lib.hid (fun (w1 : World) (h : Below w.heap.size w w1) => SubAt_any b T o.peer o.source w1 (hR.below h))
  have HW : Hid (T.wrongSub o s = 8) := by show _ = _; unfold Tab.wrongSub; rw [if_neg (by omega), if_neg (by omega), if_pos hn]
  obtain ⟨kd, p, n, q, nm, ss⟩ := o
  obtain ⟨s0, s1, s2, s3⟩ := s
  dsimp only at *
  clear hR
  generalize T.wrongSub ⟨kd, p, n, q, nm, ss⟩ ⟨s0, s1, s2, s3⟩ = wv at *
  generalize T.subAt p n = k at *
  generalize s2.length = sln at *
  rcases hk with rfl | rfl | rfl | rfl
  all_goals
    go_enter Tryd.func61, Tryd.ntmps61
    go_wp2_with (go_at_call 19; refine (CS.out _ (((Below.refl _ _).alloc (Nat.le_refl _) _).alloc (by simp) _)).mono ?_; rintro e w1 ⟨rfl, hb1⟩; obtain ⟨hcl, hfz⟩ := bcell hb1; have hz1 := hb1.size)
    all_goals (go_ret; exact ⟨ret_int HW.out.symm, (((Below.refl _ _).alloc (Nat.le_refl _) _).alloc (by simp) _).trans (hb1.mono (by simp; omega))⟩)
end Go.Proofs.Rm
namespace Go.Proofs.Rm
open Go.RowKit Go.Proofs.Heap Go.Proofs.Mem
theorem getD_sub {l : List TSub} {k : Nat} (h : k < l.length) : l.getD k noTSub = l[k] := by
  rw [List.getD_eq_getElem?_getD, List.getElem?_eq_getElem h]; rfl
set_option maxHeartbeats 4000000 in
theorem wrongSub_hears (b : Nat) (T : Tab) (o : Op) (s : TSrc) (sa ba ca : Option Addr) (sl sc bl bc cc : Nat) (w : World) (hR : RefAt w b T) (hk : o.kind = 7 ∨ o.kind = 10 ∨ o.kind = 11 ∨ o.kind = 12) (hn : 0 ≤ T.subAt o.peer o.source) :
    Calls Tryd.prog 61 #[.pointer (some ⟨b, 0, none⟩), .agg #[.int .i64 o.kind, .int .i64 o.peer, .int .i64 o.source, .int .i64 o.layer, .string (str o.name), .slice sa sl sc, .slice ba bl bc], .agg #[.int .i64 s.num, .int .i64 s.own, .slice ca s.ss.length cc, .bool s.muted]] w fun e w' => e = .returned (.int .i64 (T.wrongSub o s)) ∧ Below w.heap.size w w' := by
  obtain ⟨k, hkl, hke, _, _⟩ := findAt_at hn
  have hke : T.subAt o.peer o.source = k := hke
  have CS := Lib.hid (fun (w1 : World) (h : Below w.heap.size w w1) => SubAt_any b T o.peer o.source w1 (hR.below h))
  have HR := Lib.hid hR
  have HW : Hid (T.wrongSub o s = (if o.kind = 10 ∧ T.subs[k].paused = true then 9 else if o.kind = 11 ∧ T.subs[k].paused = false then 11 else if o.kind = 12 ∧ layerOk s o.layer = false then 5 else if o.kind = 12 ∧ T.subs[k].want = o.layer then 9 else 0)) := by
    show _ = _; unfold Tab.wrongSub Tab.subD; rw [if_neg (by omega), if_neg (by omega), if_neg (by omega), hke, Int.toNat_natCast, getD_sub hkl]
  rw [hke] at CS
  obtain ⟨kd, p, n, q, nm, ss⟩ := o
  obtain ⟨s0, s1, s2, s3⟩ := s
  dsimp only at *
  unfold layerOk at HW
  dsimp only at HW
  clear hR hke hn
  generalize T.wrongSub ⟨kd, p, n, q, nm, ss⟩ ⟨s0, s1, s2, s3⟩ = wv at *
  generalize s2.length = sln at *
  rcases hk with rfl | rfl | rfl | rfl
  all_goals
    go_enter Tryd.func61, Tryd.ntmps61
    go_wp2_with fail
    refine (CS.out _ (((Below.refl _ _).alloc (Nat.le_refl _) _).alloc (by simp) _)).mono ?_
    rintro e w1 ⟨rfl, hb1⟩
    obtain ⟨hcl, hfz⟩ := bcell hb1
    have hz1 := hb1.size
    obtain ⟨pv, sv, uv, hcell, htab⟩ := ((HR.out.below (((Below.refl _ _).alloc (Nat.le_refl _) _).alloc (by simp) _)).below hb1).vals
    have m1 := htab.subs.len
    have c2 := cell_of hcell 2
    have hrow := htab.subs
    obtain ⟨pa, pc, rfl, _⟩ := id hrow
    obtain ⟨g, off, e1, hc⟩ := tsub_at hrow (by omega)
    subst e1
    obtain ⟨d0, d1, d2, d3⟩ := hc k T.subs[k] (List.getElem?_eq_getElem hkl)
    have HB1 := Lib.hid hb1
    clear hc hcell htab hrow hb1
    generalize T.subs[k].want = wt at *
    generalize T.subs[k].paused = ps at *
    go_wp2_with fail
  all_goals try (go_quiet (fail); go_wp2)
  all_goals (go_ret; refine ⟨ret_int ?_, ?_⟩)
  all_goals try (first | exact (((Below.refl _ _).alloc (Nat.le_refl _) _).alloc (by simp) _).trans (HB1.out.mono (by simp; omega)) | exact below_drewN ((((Below.refl _ _).alloc (Nat.le_refl _) _).alloc (by simp) _).trans (HB1.out.mono (by simp; omega))) _)
  all_goals (rw [HW.out]; first | (simp [*]; done) | (simp_all; done) | (simp_all; omega) | skip)
end Go.Proofs.Rm
namespace Go.Proofs.Heap
open Go Go.RowKit
section
variable {P : Program}
theorem Elem.sizeRun {t e : TypeId} {size bytes : Nat} (E : Elem P t e size bytes) (w : World) : (sizeOf (P.elem t)).run P w = .ok size w := by
  obtain ⟨z, hinfo, _⟩ := E.info
  obtain ⟨i, hi, _, hsize, _⟩ := info_parts hinfo
  have he : P.elem t = e := by simp [Program.elem, E.ht]
  rw [he]
  simp [sizeOf, typeInfo, hi, hsize]
theorem Elem.under {t e : TypeId} {size bytes : Nat} (E : Elem P t e size bytes) : P.underlying t = some (.slice (P.elem t)) := by
  have he : P.elem t = e := by simp [Program.elem, E.ht]
  rw [he]; exact E.ht
/-- What is cut off in front: the first k elements. -/
theorem slice_to {t e : TypeId} {size bytes : Nat} (E : Elem P t e size bytes) (a : Option Addr) (n cap k : Nat) (hk : k ≤ cap) :
    ∃ a', (∀ w, (Instr.slice t (.slice a n cap) none (some (.int .i64 (k : Int))) none).run P w = .ok (.slice a' k cap) w) ∧
      (∀ w xs, k ≤ n → xs.length = n * size → Row w e (.slice a n cap) n xs → Row w e (.slice a' k cap) k (xs.take (k * size))) ∧
      (∀ w xs, k ≤ n → xs.length = n * size → RRow w (.slice a n cap) n xs → RRow w (.slice a' k cap) k (xs.take (k * size))) := by
  have hadd : ∀ (b off : Nat), (⟨b, off, none⟩ : Addr).add (0 * size) = ⟨b, off, none⟩ := fun b off => by simp [Addr.add]
  have ha : ∀ b off : Nat, a = some ⟨b, off, none⟩ → (if cap = 0 then a else a.map (·.add (0 * size))) = some ⟨b, off, none⟩ := fun b off h => by
    subst h
    split
    · rfl
    · simp [Addr.add]
  refine ⟨if cap = 0 then a else a.map (·.add (0 * size)), fun w => ?_, ?_, ?_⟩
  · rw [run_slice_h w t a n cap E.under .i64 (k : Int) (by omega) (by omega), E.sizeRun]
    simp [Result.andThen, sliced]
  · rintro w xs hkn hl ⟨a2, cap2, hv, h1, h2, h0, h3⟩
    cases hv
    refine ⟨_, cap, rfl, hk, h2, ?_, ?_⟩
    · intro h
      have : a = none := by
        split at h
        · exact h
        · simpa using h
      have := h0 this
      omega
    · rcases h3 with h3 | ⟨b, off, c, fr, hab, hb, hc⟩
      · subst h3; simp
      · refine Or.inr ⟨b, off, c, fr, ha b off hab, hb, fun j hj => ?_⟩
        rw [List.length_take] at hj
        rw [hc j (by omega), List.getElem?_take_of_lt (by omega)]
  · rintro w xs hkn hl ⟨a2, cap2, hv, h1, h2, h0, h3⟩
    cases hv
    refine ⟨_, cap, rfl, hk, h2, ?_, ?_⟩
    · intro h
      have : a = none := by
        split at h
        · exact h
        · simpa using h
      have := h0 this
      omega
    · rcases h3 with h3 | ⟨b, off, hab, hb, hc⟩
      · subst h3; simp
      · refine Or.inr ⟨b, off, ha b off hab, hb, fun j hj => ?_⟩
        rw [List.length_take] at hj
        rw [hc j (by omega), List.getElem?_take_of_lt (by omega)]
/-- What is left behind the first k elements. -/
theorem slice_from {t e : TypeId} {size bytes : Nat} (E : Elem P t e size bytes) (a : Option Addr) (n cap k : Nat) (hk : k ≤ n) (hn : n ≤ cap) :
    ∃ a', (∀ w, (Instr.slice t (.slice a n cap) (some (.int .i64 (k : Int))) none none).run P w = .ok (.slice a' (n - k) (cap - k)) w) ∧
      (∀ w xs, xs.length = n * size → Row w e (.slice a n cap) n xs → Row w e (.slice a' (n - k) (cap - k)) (n - k) (xs.drop (k * size))) ∧
      (∀ w xs, xs.length = n * size → RRow w (.slice a n cap) n xs → RRow w (.slice a' (n - k) (cap - k)) (n - k) (xs.drop (k * size))) := by
  have hadd : ∀ (b off d : Nat), (⟨b, off, none⟩ : Addr).add d = ⟨b, off + d, none⟩ := fun b off d => by unfold Addr.add; split <;> simp_all
  refine ⟨if cap = k then a else a.map (·.add (k * size)), fun w => ?_, ?_, ?_⟩
  · rw [run_slice_l w t a n cap E.under .i64 (k : Int) (by omega) (by omega), E.sizeRun]
    simp [Result.andThen, sliced]
  · rintro w xs hl ⟨a2, cap2, hv, h1, h2, h0, h3⟩
    cases hv
    refine ⟨_, cap - k, rfl, by omega, by unfold maxLen at *; omega, ?_, ?_⟩
    · intro h
      have : a = none := by
        split at h
        · exact h
        · simpa using h
      have := h0 this
      omega
    · rcases h3 with h3 | ⟨b, off, c, fr, hab, hb, hc⟩
      · subst h3; simp
      · by_cases hck : cap = k
        · obtain rfl : n = k := by omega
          left; rw [← hl]; simp
        · refine Or.inr ⟨b, off + k * size, c, fr, by rw [if_neg hck, hab]; simp [hadd], hb, fun j hj => ?_⟩
          rw [List.length_drop] at hj
          rw [Nat.add_assoc, hc _ (by omega), List.getElem?_drop]
  · rintro w xs hl ⟨a2, cap2, hv, h1, h2, h0, h3⟩
    cases hv
    refine ⟨_, cap - k, rfl, by omega, by unfold maxLen at *; omega, ?_, ?_⟩
    · intro h
      have : a = none := by
        split at h
        · exact h
        · simpa using h
      have := h0 this
      omega
    · rcases h3 with h3 | ⟨b, off, hab, hb, hc⟩
      · subst h3; simp
      · by_cases hck : cap = k
        · obtain rfl : n = k := by omega
          left; rw [← hl]; simp
        · refine Or.inr ⟨b, off + k * size, by rw [if_neg hck, hab]; simp [hadd], hb, fun j hj => ?_⟩
          rw [List.length_drop] at hj
          rw [Nat.add_assoc, hc _ (by omega), List.getElem?_drop]
end
end Go.Proofs.Heap
namespace Go.Proofs.Rm
open Go.RowKit Go.Proofs.Heap Go.Proofs.Mem
/-- A peer's own subscriptions are over, those to the sources 1 to k. -/
def Tab.leave1 (p : Int) (T : Tab) : Nat → List Turn × Tab
  | 0 => ([], T)
  | k + 1 => let x := Tab.leave1 p T k; if 0 ≤ x.2.subAt p ((k : Int) + 1) then (x.1 ++ [⟨2, p, (k : Int) + 1, 0, 0⟩], x.2.endSub p ((k : Int) + 1)) else x
/-- A peer's own sources are gone, those from 1 to k. -/
def Tab.leave2 (p : Int) (T : Tab) : Nat → List Turn × Tab
  | 0 => ([], T)
  | k + 1 => let x := Tab.leave2 p T k; if x.2.owner ((k : Int) + 1) = p then (x.1 ++ (x.2.endSource ((k : Int) + 1)).1, (x.2.endSource ((k : Int) + 1)).2) else x
def Tab.leave (T : Tab) (p : Int) : List Turn × Tab :=
  ((Tab.leave1 p T 8).1 ++ (Tab.leave2 p (Tab.leave1 p T 8).2 8).1, (Tab.leave2 p (Tab.leave1 p T 8).2 8).2.noPeer p)
def Tab.setMuted (T : Tab) (n : Int) (on : Bool) : Tab := { T with srcs := T.srcs.set (T.srcAt n).toNat { T.srcD n with muted := on } }
def Tab.muteTurns (T : Tab) (n : Int) (on : Bool) (p : Nat) : List Turn :=
  if on then [⟨6, p, n, 0, 0⟩] else ⟨7, p, n, 0, 0⟩ :: (if (T.subD p n).paused then [] else [T.ask (T.subD p n)])
def Tab.mute (T : Tab) (n : Int) (on : Bool) : List Turn × Tab := (((T.setMuted n on).hears n).flatMap ((T.setMuted n on).muteTurns n on), T.setMuted n on)
def Tab.setSub (T : Tab) (p n : Int) (x : TSub) : Tab := { T with subs := T.subs.set (T.subAt p n).toNat x }
def Tab.changed (T : Tab) (o : Op) (kind : Int) : TSub :=
  if kind = 4 then { T.subD o.peer o.source with paused := true } else if kind = 5 then { T.subD o.peer o.source with paused := false } else { T.subD o.peer o.source with want := o.layer }
def Tab.change (T : Tab) (o : Op) (kind : Int) : List Turn × Tab :=
  let x := T.changed o kind
  let T1 := T.setSub o.peer o.source x
  (⟨kind, o.peer, o.source, if kind = 8 then o.layer else 0, 0⟩ :: (if x.paused || (T1.srcD o.source).muted then [] else [T1.ask x]), T1)
def Tab.addPeer (T : Tab) (x : TPeer) : Tab := { T with peers := T.peers ++ [x] }
def Tab.addSrc (T : Tab) (x : TSrc) : Tab := { T with srcs := T.srcs ++ [x] }
def Tab.addSub (T : Tab) (x : TSub) : Tab := { T with subs := T.subs ++ [x] }
def Tab.subscribe (T : Tab) (o : Op) : List Turn × Tab :=
  let x : TSub := ⟨o.peer, o.source, o.layer, false⟩
  (⟨1, o.peer, o.source, o.layer, 0⟩ :: (if ((T.addSub x).srcD o.source).muted then [⟨6, o.peer, o.source, 0, 0⟩] else [(T.addSub x).ask x]), T.addSub x)
def Tab.turns (T : Tab) (o : Op) : List Turn × Tab :=
  if o.kind = 2 then ([], T.addPeer ⟨o.peer, o.name⟩)
  else if o.kind = 3 then T.leave o.peer
  else if o.kind = 4 then ([], T.addSrc ⟨o.source, o.peer, o.ssrcs, false⟩)
  else if o.kind = 5 then T.endSource o.source
  else if o.kind = 6 then T.subscribe o
  else if o.kind = 7 then ([⟨2, o.peer, o.source, 0, 0⟩], T.endSub o.peer o.source)
  else if o.kind = 8 then T.mute o.source true
  else if o.kind = 9 then T.mute o.source false
  else if o.kind = 10 then T.change o 4
  else if o.kind = 11 then T.change o 5
  else T.change o 8
def Tab.doo (T : Tab) (o : Op) : (List Turn × Tab) × Int := if T.wrong o ≠ 0 then (([], T), T.wrong o) else (T.turns o, 0)
def Tab.goneOp (T : Tab) (p x : Int) : (List Turn × Tab) × Int :=
  if !(T.of x).2.2 || decide (T.peerAt p < 0) || decide (T.owner (T.of x).1 ≠ p) then (([], T), 8) else (T.endSource (T.of x).1, 0)
/-- Its table, the numbers from 1 to k. -/
def Tab.tabPeers (T : Tab) (k : Nat) : List TPeer := (List.range k).flatMap fun n : Nat => if 0 ≤ T.peerAt ((n : Int) + 1) then [T.peers.getD (T.peerAt ((n : Int) + 1)).toNat ⟨0, []⟩] else []
def Tab.tabSrcs (T : Tab) (k : Nat) : List TSrc := (List.range k).flatMap fun n : Nat => if 0 ≤ T.srcAt ((n : Int) + 1) then [T.srcD ((n : Int) + 1)] else []
def Tab.tabSubs1 (T : Tab) (n : Int) (l : List Nat) : List TSub := l.map fun p : Nat => T.subD p n
def Tab.tabSubs (T : Tab) (k : Nat) : List TSub := (List.range k).flatMap fun n : Nat => T.tabSubs1 ((n : Int) + 1) (T.hears ((n : Int) + 1))
def Tab.table (T : Tab) : Tab := ⟨T.tabPeers 8, T.tabSrcs 8, T.tabSubs 8⟩
def small : Nat := 100000
structure Tab.Small (T : Tab) : Prop where
  peers : T.peers.length ≤ small
  srcs : T.srcs.length ≤ small
  subs : T.subs.length ≤ small
theorem RefAt.typ {w : World} {b : Nat} {T : Tab} (h : RefAt w b T) {e : TypeId} (he : e ≠ 32) : ∀ k c fr, k = b → w.heap[k]? ≠ some (.cells c e fr) := by
  obtain ⟨_, _, _, hc, _⟩ := h.vals
  intro k c fr hk
  subst hk
  rw [hc]
  exact cells_ne (fun h => he h.symm)
theorem RefAt.unfrozen {w : World} {b : Nat} {T : Tab} (h : RefAt w b T) (j : Nat) : w.frozen? ⟨b, j, none⟩ = false := by
  obtain ⟨_, _, _, hc, _⟩ := h.vals
  simp [World.frozen?, hc]
theorem RefAt.setPeers {w : World} {b : Nat} {T : Tab} (h : RefAt w b T) {v : Value} {l : List TPeer} (hr : Row w 66 v l.length (l.flatMap peerCells)) : RefAt (w.setCell ⟨b, 0, none⟩ v) b { T with peers := l } := by
  have t1 := h.typ (e := 66) (by decide)
  have t2 := h.typ (e := 44) (by decide)
  have t3 := h.typ (e := 48) (by decide)
  have t4 := h.typ (e := 23) (by decide)
  obtain ⟨pv, sv, uv, hc, ha, ⟨ms, hb1, hb2, hb3⟩, hcc⟩ := h.vals
  have hf : Fr w.heap.size (· = b) w (w.setCell ⟨b, 0, none⟩ v) := (Fr.refl _ _ _).setAt _ _
  refine ⟨v, sv, uv, by simp [World.setCell, Array.getElem?_modify, hc], ?_⟩
  exact ⟨hr.fr hf (Nat.le_refl _) t1, ⟨ms, hb1, hb2.fr hf (Nat.le_refl _) t2, fun m hm => (hb3 m hm).fr hf (Nat.le_refl _) t4⟩, hcc.fr hf (Nat.le_refl _) t3⟩
theorem RefAt.setSrcs {w : World} {b : Nat} {T : Tab} (h : RefAt w b T) {v : Value} (ms : List (TSrc × Value)) {l : List TSrc} (hl : ms.map Prod.fst = l) (hr : Row w 44 v ms.length (ms.flatMap tsrcCells)) (hrs : ∀ m ∈ ms, Row w 23 m.2 m.1.ss.length (u32s m.1.ss)) :
    RefAt (w.setCell ⟨b, 1, none⟩ v) b { T with srcs := l } := by
  have t1 := h.typ (e := 66) (by decide)
  have t2 := h.typ (e := 44) (by decide)
  have t3 := h.typ (e := 48) (by decide)
  have t4 := h.typ (e := 23) (by decide)
  obtain ⟨pv, sv, uv, hc, ha, _, hcc⟩ := h.vals
  have hf : Fr w.heap.size (· = b) w (w.setCell ⟨b, 1, none⟩ v) := (Fr.refl _ _ _).setAt _ _
  refine ⟨pv, v, uv, by simp [World.setCell, Array.getElem?_modify, hc], ?_⟩
  exact ⟨ha.fr hf (Nat.le_refl _) t1, ⟨ms, hl, hr.fr hf (Nat.le_refl _) t2, fun m hm => (hrs m hm).fr hf (Nat.le_refl _) t4⟩, hcc.fr hf (Nat.le_refl _) t3⟩
theorem RefAt.setSubs {w : World} {b : Nat} {T : Tab} (h : RefAt w b T) {v : Value} {l : List TSub} (hr : Row w 48 v l.length (l.flatMap tsubCells)) : RefAt (w.setCell ⟨b, 2, none⟩ v) b { T with subs := l } := by
  have t1 := h.typ (e := 66) (by decide)
  have t2 := h.typ (e := 44) (by decide)
  have t3 := h.typ (e := 48) (by decide)
  have t4 := h.typ (e := 23) (by decide)
  obtain ⟨pv, sv, uv, hc, ha, ⟨ms, hb1, hb2, hb3⟩, hcc⟩ := h.vals
  have hf : Fr w.heap.size (· = b) w (w.setCell ⟨b, 2, none⟩ v) := (Fr.refl _ _ _).setAt _ _
  refine ⟨pv, sv, v, by simp [World.setCell, Array.getElem?_modify, hc], ?_⟩
  exact ⟨ha.fr hf (Nat.le_refl _) t1, ⟨ms, hb1, hb2.fr hf (Nat.le_refl _) t2, fun m hm => (hb3 m hm).fr hf (Nat.le_refl _) t4⟩, hr.fr hf (Nat.le_refl _) t3⟩
end Go.Proofs.Rm
namespace Go.Proofs.Rm
open Go.Proofs.Lab (may key)
theorem setSub_sub (R : Room) (n p : Nat) (x : Sub) (m q : Nat) : (R.setSub n p x).sub m q = if m = n ∧ q = p then x else R.sub m q := rfl
theorem setSrc_src (R : Room) (n : Nat) (x : Src) (m : Nat) : (R.setSrc n x).src m = if m = n then x else R.src m := rfl
theorem setName_names (R : Room) (p : Nat) (s : List UInt8) (q : Nat) : (R.setName p s).names q = if q = p then s else R.names q := rfl
theorem goneGo_names (n : Nat) : ∀ l R, (goneGo n l R).2.names = R.names
  | [], _ => rfl
  | p :: l, R => goneGo_names n l (R.setSub n p noSub)
theorem goneGo_src (n : Nat) : ∀ l R, (goneGo n l R).2.src = R.src
  | [], _ => rfl
  | p :: l, R => goneGo_src n l (R.setSub n p noSub)
theorem goneGo_sub (n : Nat) : ∀ l R m q, (goneGo n l R).2.sub m q = if m = n ∧ q ∈ l then noSub else R.sub m q
  | [], R, m, q => by simp [goneGo]
  | p :: l, R, m, q => by
    show (goneGo n l (R.setSub n p noSub)).2.sub m q = _
    rw [goneGo_sub n l, setSub_sub]
    by_cases h1 : m = n ∧ q ∈ l
    · rw [if_pos h1, if_pos ⟨h1.1, List.mem_cons_of_mem _ h1.2⟩]
    · rw [if_neg h1]
      by_cases h2 : m = n ∧ q = p
      · rw [if_pos h2, if_pos ⟨h2.1, by rw [h2.2]; exact List.mem_cons_self⟩]
      · rw [if_neg h2, if_neg]
        rintro ⟨a, b⟩
        rcases List.mem_cons.1 b with b | b
        · exact h2 ⟨a, b⟩
        · exact h1 ⟨a, b⟩
theorem inn_nat {n : Nat} {k : Int} : inn n k = true ↔ 1 ≤ n ∧ (n : Int) < k := by unfold inn; simp; omega
theorem hears_nat {R : Room} {p n : Nat} : hears R p n = true ↔ 1 ≤ p ∧ p < 9 ∧ 1 ≤ n ∧ n < 9 ∧ (R.sub n p).there = true := by
  unfold hears
  rw [Bool.and_eq_true, Bool.and_eq_true, inn_nat, inn_nat, Int.toNat_natCast, Int.toNat_natCast]
  exact ⟨fun ⟨⟨⟨a, b⟩, c, d⟩, e⟩ => ⟨a, by omega, c, by omega, e⟩, fun ⟨a, b, c, d, e⟩ => ⟨⟨⟨a, by omega⟩, c, by omega⟩, e⟩⟩
theorem mem_subs {R : Room} {n p : Nat} : p ∈ subs R n ↔ 1 ≤ p ∧ p < 9 ∧ 1 ≤ n ∧ n < 9 ∧ (R.sub n p).there = true := by
  unfold subs
  rw [List.mem_filter, List.mem_range, hears_nat]
  exact ⟨fun ⟨_, h⟩ => h, fun h => ⟨h.2.1, h⟩⟩
theorem Inv.mem_subs {R : Room} (hI : Inv R) {n p : Nat} : p ∈ subs R n ↔ (R.sub n p).there = true := by
  rw [Rm.mem_subs]
  constructor
  · exact fun h => h.2.2.2.2
  · intro h
    have := hI.subAt n p h
    exact ⟨this.2.2.1, this.2.2.2.1, this.1, this.2.1, h⟩
theorem gone_names (R : Room) (n : Nat) : (gone R n).2.names = R.names := goneGo_names n _ _
theorem gone_src (R : Room) (n m : Nat) : (gone R n).2.src m = if m = n then noSrc else R.src m := by
  show (((goneGo n (subs R n) R).2).setSrc n noSrc).src m = _
  rw [setSrc_src, goneGo_src]
theorem gone_sub (R : Room) (n m q : Nat) : (gone R n).2.sub m q = if m = n ∧ q ∈ subs R n then noSub else R.sub m q := goneGo_sub n _ _ m q
theorem gone_there {R : Room} (hI : Inv R) (n m q : Nat) : ((gone R n).2.sub m q).there = true ↔ m ≠ n ∧ (R.sub m q).there = true := by
  rw [gone_sub]
  by_cases h : m = n
  · subst h
    by_cases h2 : (R.sub m q).there = true
    · rw [if_pos ⟨rfl, hI.mem_subs.2 h2⟩]; simp [noSub]
    · rw [if_neg (fun h => h2 (hI.mem_subs.1 h.2))]; simp [h2]
  · rw [if_neg (fun e => h e.1)]; simp [h]
theorem gone_ne (R : Room) {n m : Nat} (h : m ≠ n) (q : Nat) : (gone R n).2.sub m q = R.sub m q := by rw [gone_sub, if_neg (fun e => h e.1)]
theorem joined_congr {R R' : Room} (h : R'.names = R.names) (p : Int) : joined R' p = joined R p := by unfold joined; rw [h]
theorem joined_nat {R : Room} {p : Nat} : joined R p = true ↔ 1 ≤ p ∧ p < 9 ∧ R.names p ≠ [] := by
  unfold joined
  rw [Bool.and_eq_true, inn_nat, Int.toNat_natCast]
  have : (!(R.names p).isEmpty) = true ↔ R.names p ≠ [] := by simp
  rw [this]
  exact ⟨fun ⟨⟨a, b⟩, c⟩ => ⟨a, by omega, c⟩, fun ⟨a, b, c⟩ => ⟨⟨a, by omega⟩, c⟩⟩
theorem inv_gone {R : Room} (hI : Inv R) (n : Nat) : Inv (gone R n).2 := by
  have hn := gone_names R n
  refine ⟨?_, ?_, ?_, ?_, ?_, ?_⟩
  · rw [hn, gone_src]
    refine ⟨hI.none0.1, ?_⟩
    split
    · rfl
    · exact hI.none0.2
  · intro m q h
    obtain ⟨h1, h2⟩ := (gone_there hI n m q).1 h
    have := hI.subAt m q h2
    rw [gone_ne R h1, gone_src, if_neg h1, hn]
    exact this
  · intro m h
    rw [gone_src] at h ⊢
    by_cases h1 : m = n
    · rw [if_pos h1] at h; cases h
    · rw [if_neg h1] at h ⊢
      rw [joined_congr hn]
      exact hI.srcAt m h
  · intro m k x h1 h2 h3 h4
    rw [gone_src] at h1 h2 h3 h4
    by_cases hm : m = n
    · rw [if_pos hm] at h1; cases h1
    by_cases hk : k = n
    · rw [if_pos hk] at h2; cases h2
    rw [if_neg hm] at h1 h3
    rw [if_neg hk] at h2 h4
    exact hI.apart m k x h1 h2 h3 h4
  · rw [hn]; exact hI.nameAt
  · rw [hn]; exact hI.keys
theorem inv_end {R : Room} (hI : Inv R) (n p : Nat) : Inv (R.setSub n p noSub) := by
  refine ⟨hI.none0, ?_, hI.srcAt, hI.apart, hI.nameAt, hI.keys⟩
  intro m q h
  rw [setSub_sub] at h ⊢
  by_cases h1 : m = n ∧ q = p
  · rw [if_pos h1] at h; cases h
  · rw [if_neg h1] at h ⊢
    exact hI.subAt m q h
theorem inv_leave1 {R : Room} (hI : Inv R) (p : Nat) : ∀ k, Inv (leave1 p R k).2
  | 0 => hI
  | k + 1 => by
    unfold leave1
    dsimp only
    split
    · exact inv_end (inv_leave1 hI p k) k p
    · exact inv_leave1 hI p k
theorem inv_leave2 {R : Room} (hI : Inv R) (p : Nat) : ∀ k, Inv (leave2 R p k).2
  | 0 => hI
  | k + 1 => by
    unfold leave2
    dsimp only
    split
    · exact inv_gone (inv_leave2 hI p k) k
    · exact inv_leave2 hI p k
theorem leave1_names (R : Room) (p : Nat) : ∀ k, (leave1 p R k).2.names = R.names ∧ (leave1 p R k).2.src = R.src
  | 0 => ⟨rfl, rfl⟩
  | k + 1 => by
    unfold leave1
    dsimp only
    split
    · exact leave1_names R p k
    · exact leave1_names R p k
theorem leave1_there (R : Room) (p : Nat) : ∀ k m q, ((leave1 p R k).2.sub m q).there = ((R.sub m q).there && !(decide (q = p) && decide (m < k)))
  | 0, m, q => by simp [leave1]
  | k + 1, m, q => by
    have ih := leave1_there R p k
    unfold leave1
    dsimp only
    by_cases ht : ((leave1 p R k).2.sub k p).there = true
    · rw [if_pos ht]
      dsimp only
      rw [setSub_sub]
      by_cases h : m = k ∧ q = p
      · rw [if_pos h, h.1, h.2]; simp [noSub]
      · rw [if_neg h, ih]
        by_cases hq : q = p
        · have : m ≠ k := fun e => h ⟨e, hq⟩
          simp [hq]
          by_cases hm : m < k
          · simp [hm, Nat.lt_succ_of_lt hm]
          · have : ¬ m < k + 1 := by omega
            simp [hm, this]
        · simp [hq]
    · rw [if_neg ht, ih]
      by_cases hq : q = p
      · by_cases hm : m = k
        · subst hm; subst hq
          rw [ih] at ht
          simp at ht
          simp [ht]
        · simp [hq]
          by_cases hm2 : m < k
          · simp [hm2, Nat.lt_succ_of_lt hm2]
          · have : ¬ m < k + 1 := by omega
            simp [hm2, this]
      · simp [hq]
theorem leave2_names (R : Room) (p : Nat) : ∀ k, (leave2 R p k).2.names = R.names
  | 0 => rfl
  | k + 1 => by
    unfold leave2
    dsimp only
    split
    · dsimp only; rw [gone_names]; exact leave2_names R p k
    · exact leave2_names R p k
theorem leave2_src (R : Room) (p : Nat) : ∀ k m, (leave2 R p k).2.src m = if m < k ∧ (R.src m).there = true ∧ (R.src m).own = p then noSrc else R.src m
  | 0, m => by simp [leave2]
  | k + 1, m => by
    have ih := leave2_src R p k m
    unfold leave2
    dsimp only
    by_cases hc : ((R.src k).there && decide ((R.src k).own = p)) = true
    · rw [if_pos hc]
      dsimp only
      rw [gone_src]
      rw [Bool.and_eq_true, decide_eq_true_eq] at hc
      by_cases hm : m = k
      · subst hm; rw [if_pos rfl, if_pos ⟨by omega, hc.1, hc.2⟩]
      · rw [if_neg hm, ih]
        have : m < k + 1 ↔ m < k := by omega
        simp only [this]
    · rw [if_neg hc, ih]
      rw [Bool.and_eq_true, decide_eq_true_eq] at hc
      by_cases hm : m = k
      · subst hm
        rw [if_neg (by omega), if_neg (fun h => hc ⟨h.2.1, h.2.2⟩)]
      · have : m < k + 1 ↔ m < k := by omega
        simp only [this]
theorem leave2_there {R : Room} (hI : Inv R) (p : Nat) : ∀ k m q, ((leave2 R p k).2.sub m q).there = true ↔ (R.sub m q).there = true ∧ ¬ (m < k ∧ (R.src m).there = true ∧ (R.src m).own = p)
  | 0, m, q => by simp [leave2]
  | k + 1, m, q => by
    have ih := leave2_there hI p k m q
    unfold leave2
    dsimp only
    by_cases hc : ((R.src k).there && decide ((R.src k).own = p)) = true
    · rw [if_pos hc]
      dsimp only
      rw [gone_there (inv_leave2 hI p k), ih]
      rw [Bool.and_eq_true, decide_eq_true_eq] at hc
      by_cases hm : m = k
      · subst hm
        constructor
        · rintro ⟨h, _⟩; exact absurd rfl h
        · rintro ⟨_, h⟩; exact absurd ⟨by omega, hc⟩ h
      · have : m < k + 1 ↔ m < k := by omega
        rw [this]
        exact ⟨fun h => h.2, fun h => ⟨hm, h⟩⟩
    · rw [if_neg hc, ih]
      rw [Bool.and_eq_true, decide_eq_true_eq] at hc
      by_cases hm : m = k
      · subst hm
        constructor
        · rintro ⟨h, _⟩; exact ⟨h, fun e => hc e.2⟩
        · rintro ⟨h, _⟩; exact ⟨h, fun e => by omega⟩
      · have : m < k + 1 ↔ m < k := by omega
        rw [this]
theorem key_ne_nil {l : List UInt8} (h : may l = true) : key l ≠ [] := by
  intro e
  have h1 := (Lab.key_laws l h).1
  rw [e] at h1
  have : l = [] := List.eq_nil_of_length_eq_zero h1.symm
  subst this
  cases h
theorem inv_noname {R : Room} (hI : Inv R) (p : Nat) (hs : ∀ m, (R.src m).there = true → (R.src m).own ≠ p) (hu : ∀ m, (R.sub m p).there = false) : Inv (R.setName p []) := by
  refine ⟨⟨?_, hI.none0.2⟩, ?_, ?_, hI.apart, ?_, ?_⟩
  · rw [setName_names]; split
    · rfl
    · exact hI.none0.1
  · intro m q h
    have h0 := hI.subAt m q h
    have hq : q ≠ p := by
      rintro rfl
      have h2 := hu m
      have h3 : (R.sub m q).there = true := h
      rw [h2] at h3; cases h3
    rw [setName_names, if_neg hq]
    exact h0
  · intro m h
    obtain ⟨h1, h2, h3, h4, h5⟩ := hI.srcAt m h
    refine ⟨h1, h2, h3, ?_, h5⟩
    have ho := hs m h
    show joined (R.setName p []) (R.src m).own = true
    unfold joined at h4 ⊢
    rw [Bool.and_eq_true] at h4 ⊢
    refine ⟨h4.1, ?_⟩
    rw [setName_names, if_neg]
    · exact h4.2
    · intro e
      have := h4.1
      unfold inn at this
      simp at this
      omega
  · intro q h
    rw [setName_names] at h ⊢
    by_cases hq : q = p
    · rw [if_pos hq] at h; exact absurd rfl h
    · rw [if_neg hq] at h ⊢; exact hI.nameAt q h
  · intro q r h e
    rw [setName_names] at h e
    by_cases hq : q = p
    · rw [if_pos hq] at h; exact absurd rfl h
    rw [if_neg hq] at h e
    rw [setName_names] at e
    by_cases hr : r = p
    · rw [if_pos hr] at e
      exact absurd e (key_ne_nil (hI.nameAt q h).2)
    · rw [if_neg hr] at e
      exact hI.keys q r h e
theorem inv_leave {R : Room} (hI : Inv R) (p : Nat) : Inv (leave R p).2 := by
  have h1 := inv_leave1 hI p 9
  refine inv_noname (inv_leave2 h1 p 9) p ?_ ?_
  · intro m h
    rw [leave2_src] at h ⊢
    by_cases hc : m < 9 ∧ ((leave1 p R 9).2.src m).there = true ∧ ((leave1 p R 9).2.src m).own = p
    · rw [if_pos hc] at h; cases h
    · rw [if_neg hc] at h ⊢
      intro e
      exact hc ⟨(h1.srcAt m h).2.1, h, e⟩
  · intro m
    rw [Bool.eq_false_iff]
    intro h
    have h2 := ((leave2_there h1 p 9 m p).1 h).1
    have h3 := h1.subAt m p h2
    rw [leave1_there] at h2
    simp at h2
    omega
end Go.Proofs.Rm
