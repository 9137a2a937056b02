/- The walk of the law RoomEnds, out of the contracts: the walk. -/
import Derived.Test.YthlamfoldfeocaaDoorEnds
set_option linter.unusedSimpArgs false
namespace Go.Proofs.Rm
open Go.RowKit Go.Proofs.Heap Go.Proofs.Mem
open Go.Proofs.Lab (may key Tabs)
open Go.Proofs.Mp (BoolSet)
theorem Left.mono {R : Room} {j k : Nat} (h : Left R k) (hj : j ≤ k) : Left R j := fun p h1 h2 => h p h1 (by omega)
theorem left_step {T : List OpV} {k : Nat} (hk : k < (T ++ leaves 8).length) {R : Room} (sv : Value) (h : ∀ j, T.length + j ≤ k → j ≤ 8 → Left R j) : ∀ j, T.length + j ≤ k + 1 → j ≤ 8 → Left (doo R (T ++ leaves 8)[k].o sv).1.2 j := by
  intro j hj hj8
  by_cases hkT : k < T.length
  · have : j = 0 := by omega
    subst this
    intro p h1 h2; omega
  · obtain ⟨i, rfl⟩ := Nat.exists_eq_add_of_le (show T.length ≤ k by omega)
    have hi : i < 8 := by rw [List.length_append, leaves_len] at hk; omega
    rw [leaves_at T i hi hk]
    have := left_doo hi (h i (Nat.le_refl _) (by omega)) sv
    exact Left.mono this (by omega)
theorem chk_cases {S : Open} {t : Turn} (h : chk S t = true) : t.kind = 9 ∨ ((inn t.peer 9 = true ∧ inn t.source 9 = true) ∧ ((t.kind = 1 ∧ S (key2 t) = false) ∨ (t.kind ≠ 1 ∧ S (key2 t) = true))) := by
  unfold chk at h
  rw [Bool.and_eq_true] at h
  obtain ⟨h1, h2⟩ := h
  by_cases k9 : t.kind = 9
  · exact Or.inl k9
  · rw [decide_eq_false k9, Bool.false_or, Bool.and_eq_true] at h1
    refine Or.inr ⟨h1, ?_⟩
    by_cases k1 : t.kind = 1
    · rw [if_pos k1] at h2
      exact Or.inl ⟨k1, by simpa using h2⟩
    · rw [if_neg k1] at h2
      refine Or.inr ⟨k1, ?_⟩
      by_cases k2 : t.kind = 2
      · rw [if_pos k2] at h2; exact h2
      · rw [if_neg k2, if_neg k9] at h2; exact h2
/-- What a round over the turns keeps. -/
structure EK (w : World) (b : Nat) (R : Room) (va : Value) (A : List OpV) (vt : Value) (ts : List Turn) (w' : World) : Prop where
  bel : Below w.heap.size w w'
  room : RoomAt w' b R
  rowA : Row w' 40 va A.length (A.flatMap opvCells)
  rowT : TurnRow w' vt ts
theorem EK.below {w : World} {b : Nat} {R : Room} {va : Value} {A : List OpV} {vt : Value} {ts : List Turn} {w1 w2 : World} (h : EK w b R va A vt ts w1) (hb : Below w1.heap.size w1 w2) : EK w b R va A vt ts w2 :=
  ⟨h.bel.trans (hb.mono h.bel.size), h.room.below hb, h.rowA.below hb, h.rowT.below hb⟩
theorem EK.map {w : World} {b m : Nat} {R : Room} {va : Value} {A : List OpV} {vt : Value} {ts : List Turn} {w1 w2 : World} (h : EK w b R va A vt ts w1) (hg : w1.grownBy w2 (some m)) (hm : ∃ es c, w1.heap[m]? = some (.map es c)) (hw : w.heap.size ≤ m) : EK w b R va A vt ts w2 := by
  have hf : Fr w1.heap.size (fun k => k = m) w1 w2 := ⟨hg.os, hg.tape, hg.output, hg.size, fun k hk hs => hg.block k hk (fun e => hs (by cases e; rfl))⟩
  have hty : ∀ e : TypeId, ∀ k c fr, k = m → w1.heap[k]? ≠ some (.cells c e fr) := by
    intro e k c fr hk
    obtain ⟨es, cl, hm⟩ := hm
    subst hk
    rw [hm]
    intro e; cases e
  exact ⟨h.bel.trans ⟨hg.os, hg.tape, hg.output, hg.size, fun k hk => hg.block k (Nat.lt_of_lt_of_le hk h.bel.size) (fun e => by cases e; omega)⟩, room_map h.room hg hm, h.rowA.fr hf (Nat.le_refl _) (hty _), h.rowT.fr hf (Nat.le_refl _) (hty _)⟩
set_option maxRecDepth 100000 in
set_option maxHeartbeats 16000000 in
theorem RoomEnds_any (v : Value) (l : List OpV) (w : World) (hT : Tabs w) (hv : OpsR w v l)
    (hsh : ∀ w, Tabs w → Calls Tryd.prog 10 #[] w fun e w' => e = .returned (.bool true) ∧ Below w.heap.size w w') :
    Calls Tryd.prog 7 #[v] w fun e w' => e = .returned (.bool true) ∧ Below w.heap.size w w' := by
  have hlen := hv.row.len
  obtain ⟨va, vc, rfl, hvc, -⟩ := id hv.row
  have HSH := Lib.hid (hsh w hT)
  have HT : Hid (∀ w', Below w.heap.size w w' → Tabs w') := fun w' h => Utf8Tabs_below hT h
  have HV : Hid (∀ w', Below w.heap.size w w' → OpsR w' (.slice va l.length vc) l) := fun w' h => hv.below h
  have hmm := @run_makeMap Tryd.prog
  obtain ⟨K, hKd⟩ : ∃ K, K = min l.length 80 := ⟨_, rfl⟩
  have hK1 : K ≤ l.length := by omega
  have hK2 : K ≤ 80 := by omega
  have hKm : min (l.length : Int) 80 = (K : Int) := by omega
  obtain ⟨vs, hsl, -, hslR⟩ := slice_to elemOp va l.length vc K (by omega)
  have HROWS : Hid (∀ w', Below w.heap.size w w' → RRow w' (.slice vs K vc) K ((l.take K).flatMap opvCells)) := fun w' h => by
    have := hslR w' (l.flatMap opvCells) hK1 (opvs_len l) (HV.out w' h).row
    rwa [opvs_take] at this
  have hKl : (l.take K).length = K := by rw [List.length_take]; omega
  have HTL : Hid (((l.take K).flatMap opvCells).length = K * 7) := by show _ = _; rw [opvs_len, hKl]
  have HKL := Lib.hid hKl
  clear hsh hT hv hslR hKd hKl
  go_enter Tryd.func7, Tryd.ntmps7
  go_wp2_with fail
  refine HSH.out.mono ?_
  rintro e w1 ⟨rfl, hb1⟩
  have HB1 := Lib.hid hb1
  have hz1 := hb1.size
  clear hb1
  go_wp2_with fail
  refine (New_any _).mono ?_
  rintro e w2 ⟨rfl, hroom, hb2⟩
  have HBEL := Lib.hid ((HB1.out.trans (hb2.mono HB1.out.size)).alloc (HB1.out.trans (hb2.mono HB1.out.size)).size (.map #[] 0))
  have HROOM := Lib.hid (hroom.below (below_alloc w2 (.map #[] 0)))
  have HSET := Lib.hid (BoolSet.made (P := Tryd.prog) (k := 70) (e := 4) (κ := kP) w2)
  have hbw : w.heap.size ≤ w1.heap.size := hz1
  have hmw : w.heap.size ≤ w2.heap.size := (HB1.out.trans (hb2.mono HB1.out.size)).size
  have hbm : w1.heap.size < w2.heap.size := hroom.lt
  clear hroom hb2
  generalize w1.heap.size = b at *
  go_wp2_with (at_builtin; refine wpList_appR rfl (.const (.slice none 0 0)) (.tmp 23) 22 rfl (w2.heap.size + 1) elemOp (.slice none 0 0) 0 [] rfl (World.ownsRow_nil _ _ _ _) (.slice vs K vc) K ((l.take K).flatMap opvCells) rfl (HROWS.out _ HBEL.out) HTL.out (opvs_one _) (by omega) (by omega) (by simp) (fun v1 w3 HO HG => ?_))
  have hbb3 := grown_none HG.out
  have HBEL3 := Lib.hid (HBEL.out.trans (hbb3.mono HBEL.out.size))
  have HROOM3 := Lib.hid (HROOM.out.below hbb3)
  have HSET3 := Lib.hid (set_bel HSET.out hbb3)
  have hs3 : w2.heap.size + 1 ≤ w3.heap.size := by have := hbb3.size; simp only [World.size_alloc] at this; exact this
  have HO3 : Hid (w3.ownsRow (w2.heap.size + 1) 40 7 v1 (K + 0) ((l.take K ++ leaves 0).flatMap opvCells)) := by
    have h := HO.out
    rw [Nat.zero_add, List.nil_append] at h
    show World.ownsRow _ _ _ _ _ _ _
    rw [show leaves 0 = [] from rfl, List.append_nil]
    exact h
  clear hbb3 HBEL HROOM HSET HO HG hsl HROWS hKm
  generalize w2.heap.size = m at *
  go_wp2_with fail
  go_loopw [5, 6] (fun v i w' => ∃ k : Nat, k ≤ 8 ∧ i = .int .i64 ((k : Int) + 1) ∧ Below w.heap.size w w' ∧ RoomAt w' b empty ∧ BoolSet Tryd.prog 70 4 kP w' m 0 (fun _ => false) ∧ m + 1 ≤ w'.heap.size ∧ w'.ownsRow (m + 1) 40 7 v (K + k) ((l.take K ++ leaves k).flatMap opvCells)) (fun _ i _ => 9 - (intOf i).toNat)
  case atStart => exact ⟨0, by omega, rfl, HBEL3.out, HROOM3.out, HSET3.out, hs3, HO3.out⟩
  case round =>
    clear HBEL3 HROOM3 HSET3 HO3 hs3
    obtain ⟨k, hk, rfl, hbl, hroom, hset, hms, hown⟩ := hrel
    have HBL := Lib.hid hbl
    have HROOM := Lib.hid hroom
    have HSET := Lib.hid hset
    have HOWN := Lib.hid hown
    clear hbl hroom hset hown
    by_cases hk8 : k < 8
    · have HLS : Hid ((l.take K ++ leaves (k + 1)).flatMap opvCells = (l.take K ++ leaves k).flatMap opvCells ++ opvCells (leaveV ((k : Int) + 1))) := by
        show _ = _
        rw [leaves_succ, ← List.append_assoc, List.flatMap_append (xs := l.take K ++ leaves k)]
        simp
      go_wp2_with (at_builtin; refine wpList_app rfl (.tmp 29) (.tmp 32) 22 rfl (m + 1) elemOp _ (K + k) ((l.take K ++ leaves k).flatMap opvCells) rfl (HOWN.out.alloc _) _ 1 (opvCells (leaveV ((k : Int) + 1))) rfl (row_new' _ _ 1 _ (opvCells (leaveV ((k : Int) + 1))) (by decide) (by simp)) rfl (opv_one _) (by omega) (by omega) (by simp; omega) (fun v' w5 HO HG => ?_))
      have hb5 := below_alloc wr (.cells #[.int .i64 3, .int .i64 ((k : Int) + 1), .int .i64 0, .int .i64 0, .string ⟨#[]⟩, .slice none 0 0, .slice none 0 0] 40)
      have hol := own_le HOWN.out
      have HG5 := Lib.hid HG.out
      have hsz5 := HG.out.size
      simp only [World.size_alloc] at hsz5
      have R1 : Below w.heap.size w w5 := ((HBL.out.alloc HBL.out.size _).grown HG.out (Nat.le_trans HBL.out.size (by simp)) (fun k hk => by have := hol k hk; omega))
      have R2 : RoomAt w5 b empty := RoomAt.grown (HROOM.out.below hb5) (HOWN.out.alloc _) HG.out (by omega) (by decide)
      have R3 := set_grown (set_bel HSET.out hb5) HG.out hol (Nat.lt_succ_self m)
      have R4 := HO.out
      go_wp2_with fail
      go_roundw
      case rel => exact ⟨k + 1, by omega, by go_num, R1, R2, R3, by omega, by rw [HLS.out]; exact R4⟩
      case measure => simp [intOf]; omega
    · obtain rfl : k = 8 := by omega
      have hrowA := Row.of_owns HOWN.out
      obtain ⟨ga, gc, rfl⟩ := own_form HOWN.out
      have hAl : (l.take K ++ leaves 8).length = K + 8 := by rw [List.length_append, HKL.out, leaves_len]
      have HAE : Hid (∀ w', Below w.heap.size w w' → ∀ x ∈ l.take K ++ leaves 8, RRow w' (.slice x.sa x.o.ssrcs.length x.sc) x.o.ssrcs.length (u32s x.o.ssrcs) ∧ x.o.name.length < 9223372036854775807) := fun w' h x hx => by
        rcases List.mem_append.1 hx with hx | hx
        · exact (HV.out w' h).each x (List.mem_of_mem_take hx)
        · unfold leaves at hx
          obtain ⟨j, _, rfl⟩ := List.mem_map.1 hx
          exact ⟨(Row.nil w' 23).r, by show (0 : Nat) < _; omega⟩
      have HLST : Hid (∀ k (hk : k < (l.take K ++ leaves 8).length) R sv, (∀ j, K + j ≤ k → j ≤ 8 → Left R j) → ∀ j, K + j ≤ k + 1 → j ≤ 8 → Left (doo R (l.take K ++ leaves 8)[k].o sv).1.2 j) := fun k hk R sv h => by
        have := left_step hk sv (by rw [HKL.out]; exact h)
        rw [HKL.out] at this
        exact this
      clear HOWN HV HTL HKL
      generalize l.take K ++ leaves 8 = A at *
      rw [← hAl] at hrowA ⊢
      have HROWA := Lib.hid hrowA
      have HAL := Lib.hid hAl
      have hAK : A.length ≤ 88 := by omega
      clear hrowA hAl
      go_wp2_with fail
      go_loopw [36] (fun i w' => ∃ k : Nat, k ≤ A.length ∧ i = .int .i64 k ∧ Below w.heap.size w w' ∧ Row w' 40 (.slice ga A.length gc) A.length (A.flatMap opvCells) ∧ ∃ R, Inv R ∧ Slim R ∧ RoomAt w' b R ∧ BoolSet Tryd.prog 70 4 kP w' m (200 * k) (opens R) ∧ ∀ j, K + j ≤ k → j ≤ 8 → Left R j) (fun i _ => A.length - (intOf i).toNat)
      case atStart => exact ⟨0, Nat.zero_le _, rfl, HBL.out, HROWA.out, empty, inv_empty, slim_empty, HROOM.out, HSET.out.congr (fun x => by rw [opens_empty]), fun j hj hj8 p h1 h2 => by omega⟩
      case round =>
        clear HBL HROOM HSET HROWA hms
        obtain ⟨k, hk, rfl, hbl, hrow, R, hinv, hslim, hroom, hset, hleft⟩ := hrel
        obtain ⟨wo, rfl⟩ : ∃ wo : World, wo = wr := ⟨_, rfl⟩
        have HBL := Lib.hid hbl
        have HROOM := Lib.hid hroom
        have HSET := Lib.hid hset
        have HROW := Lib.hid hrow
        have HINV := Lib.hid hinv
        have HSL := Lib.hid hslim
        have HLEFT := Lib.hid hleft
        have hsz := hbl.size
        have hmlt := hset.lt
        clear hbl hroom hset hrow hinv hslim hleft
        by_cases hkl : k < A.length
        · obtain ⟨g, off, cap, e1, _, _, _, hcells⟩ := row_at opvCells 7 (fun _ => rfl) (by omega) HROW.out (by omega)
          cases e1
          have hcell := fun j hj => hcells k A[k] (List.getElem?_eq_getElem hkl) j hj
          have c0 := hcell 0 (by omega)
          have c1 := hcell 1 (by omega)
          have c2 := hcell 2 (by omega)
          have c3 := hcell 3 (by omega)
          have c4 := hcell 4 (by omega)
          have c5 := hcell 5 (by omega)
          have c6 := hcell 6 (by omega)
          have HXR := Lib.hid (fun w' h => HAE.out w' h A[k] (List.getElem_mem hkl))
          have HLS := Lib.hid (fun sv => HLST.out k hkl R sv HLEFT.out)
          clear hcells hcell HLEFT
          generalize A[k] = y at *
          obtain ⟨o, xa, xc, ya, yl, yc⟩ := y
          simp only [opvCells, Nat.add_zero, List.getElem?_cons_zero, List.getElem?_cons_succ] at c0 c1 c2 c3 c4 c5 c6 HXR HLS
          have hba := below_alloc wo (.cells #[.int .i64 o.kind, .int .i64 o.peer, .int .i64 o.source, .int .i64 o.layer, .string (str o.name), .slice xa o.ssrcs.length xc, .slice ya yl yc] 40)
          have CD := Lib.hid (Do_any b R o xa ya xc yl yc _ (HROOM.out.below hba) HINV.out (HT.out _ (HBL.out.trans (hba.mono HBL.out.size))) (HXR.out _ (HBL.out.trans (hba.mono HBL.out.size))).2 (HXR.out _ (HBL.out.trans (hba.mono HBL.out.size))).1)
          clear hba
          go_wp2_with fail
          refine CD.out.mono ?_
          rintro e w5 ⟨tv, sv, rfl, htr, hra5, hfr5'⟩
          have hfr5 := fr_alloc hfr5'
          have HGOOD := Lib.hid (doo_good HINV.out o sv)
          have hlen5 := doo_len R o sv
          obtain ⟨ta, tc, rfl, -, -⟩ := id htr
          have HEK : Hid (EK w b (doo R o sv).1.2 (.slice (some ⟨g, off, none⟩) A.length gc) A (.slice ta (doo R o sv).1.1.length tc) (doo R o sv).1.1 w5) := ⟨HBL.out.trans (fr_below hfr5 hbw HBL.out.size), hra5, HROW.out.fr hfr5 (Nat.le_refl _) (HROOM.out.typ (by decide)), htr⟩
          have HSET5 := Lib.hid (set_fr HSET.out hfr5 (by omega))
          have HINV5 := Lib.hid (inv_doo HINV.out o sv)
          have HSL5 := Lib.hid (slim_doo HSL.out o sv)
          have HLS5 := Lib.hid (HLS.out sv)
          clear htr hra5 hfr5 hfr5' CD HXR HLS HINV HSL HROOM HSET HROW HBL
          generalize doo R o sv = D at *
          obtain ⟨⟨ts, R5⟩, er⟩ := D
          dsimp only at *
          go_wp2_with fail
          go_loopw [48] (fun i w' => ∃ j : Nat, j ≤ ts.length ∧ i = .int .i64 j ∧ EK w b R5 (.slice (some ⟨g, off, none⟩) A.length gc) A (.slice ta ts.length tc) ts w' ∧ BoolSet Tryd.prog 70 4 kP w' m (200 * k + j) ((ts.take j).foldl nextS (opens R))) (fun i _ => ts.length - (intOf i).toNat)
          case atStart => exact ⟨0, Nat.zero_le _, rfl, HEK.out, HSET5.out.congr (fun _ => rfl)⟩
          case round =>
            clear HEK HSET5
            obtain ⟨j, hj, rfl, hek, hset⟩ := hrel
            have HEK := Lib.hid hek
            have HSET := Lib.hid hset
            have hml := hset.lt
            clear hek hset
            by_cases hjl : j < ts.length
            · obtain ⟨hchk, hnext⟩ := HGOOD.out.step j hjl
              obtain ⟨g2, off2, cap2, e2, _, hcells⟩ := turn_at HEK.out.rowT (by omega)
              cases e2
              obtain ⟨d0, d1, d2, d3, d4⟩ := hcells j ts[j] (List.getElem?_eq_getElem hjl)
              have hcc := chk_cases hchk
              have HNX := Lib.hid hnext
              have HSET2 : Hid (∀ o1 o2, BoolSet Tryd.prog 70 4 kP ((wr.alloc o1).alloc o2) m (200 * k + j) ((ts.take j).foldl nextS (opens R))) := fun o1 o2 => set_bel (set_bel HSET.out (below_alloc _ o1)) (below_alloc _ o2)
              have HEK2 : Hid (∀ o1 o2, EK w b R5 (.slice (some ⟨g, off, none⟩) A.length gc) A (.slice (some ⟨g2, off2, none⟩) ts.length tc) ts ((wr.alloc o1).alloc o2)) := fun o1 o2 => (HEK.out.below (below_alloc _ o1)).below (below_alloc _ o2)
              clear hcells hchk hnext HSET HEK HGOOD
              generalize ts[j] = t at *
              generalize (ts.take j).foldl nextS (opens R) = S at *
              obtain ⟨tk, tp, tn, tl, tx⟩ := t
              dsimp only [key2] at d0 d1 d2 d3 d4 hcc HNX
              have hnine : ∀ tk : Int, tk ≠ 1 → tk ≠ 2 → nextS S ⟨tk, tp, tn, tl, tx⟩ = S := fun tk h1 h2 => by unfold nextS; rw [if_neg h1, if_neg h2]
              have HNINE := Lib.hid hnine
              clear hnine
              rcases hcc with rfl | ⟨hin, ⟨rfl, hS0⟩ | ⟨k1, hS1⟩⟩
              · have HN : Hid ((ts.take (j + 1)).foldl nextS (opens R) = S) := by show _ = _; rw [HNX.out, HNINE.out 9 (by decide) (by decide)]
                clear HNX HNINE
                go_wp2_with fail
                go_roundw
                case rel => exact ⟨j + 1, by omega, by go_num, HEK2.out _ _, set_at (HSET2.out _ _) (by omega) HN.out⟩
                case measure => simp [intOf]; omega
              · have HN : Hid ((ts.take (j + 1)).foldl nextS (opens R) = fun x => decide (x = (tp, tn)) || S x) := by show _ = _; rw [HNX.out]; rfl
                have HS0 := Lib.hid hS0
                have HIN := Lib.hid hin
                clear HNX HNINE hS0 hin
                go_wp2_with (first | (at_lookup; refine look2 rfl _ _ rfl m (200 * k + j) S rfl (HSET2.out _ _) (tp, tn) rfl HIN.out false HS0.out ?_) | (at_mapUpdate; refine put2 rfl _ _ _ rfl m (200 * k + j) S rfl (HSET2.out _ _) (by unfold maxLen; omega) (tp, tn) rfl rfl HIN.out ?_; intro w7 hset7 hg7; go_frame))
                go_roundw
                case rel => (repeat apply Exists.intro); refine ⟨?_, rfl⟩; exact ⟨j + 1, by omega, by go_num, (HEK2.out _ _).map hg7 (set_map (HSET2.out _ _)) hmw, set_at hset7 (by omega) HN.out⟩
                case measure => simp [intOf]; omega
              · have HS1 := Lib.hid hS1
                have HIN := Lib.hid hin
                clear hS1 hin
                by_cases k2 : tk = 2
                · subst k2
                  have HN : Hid ((ts.take (j + 1)).foldl nextS (opens R) = fun x => !decide (x = (tp, tn)) && S x) := by show _ = _; rw [HNX.out]; rfl
                  clear HNX HNINE k1
                  go_wp2_with (first | (at_lookup; refine look2 rfl _ _ rfl m (200 * k + j) S rfl (HSET2.out _ _) (tp, tn) rfl HIN.out true HS1.out ?_) | (at_delete; refine del2 rfl _ _ rfl m (200 * k + j) S rfl (HSET2.out _ _) (tp, tn) rfl HIN.out ?_; intro w7 hset7 hg7; go_frame))
                  go_roundw
                  case rel => (repeat apply Exists.intro); refine ⟨?_, rfl⟩; exact ⟨j + 1, by omega, by go_num, (HEK2.out _ _).map hg7 (set_map (HSET2.out _ _)) hmw, set_at hset7 (by omega) HN.out⟩
                  case measure => simp [intOf]; omega
                · have HN : Hid ((ts.take (j + 1)).foldl nextS (opens R) = S) := by show _ = _; rw [HNX.out, HNINE.out tk k1 k2]
                  have b1 : (tk == 1) = false := by rw [beq_eq_false_iff_ne]; exact k1
                  have b2 : (tk == 2) = false := by rw [beq_eq_false_iff_ne]; exact k2
                  clear HNX HNINE k1 k2
                  by_cases k9 : tk = 9
                  · subst k9
                    clear b1 b2
                    go_wp2_with fail
                    go_roundw
                    case rel => exact ⟨j + 1, by omega, by go_num, HEK2.out _ _, set_at (HSET2.out _ _) (by omega) HN.out⟩
                    case measure => simp [intOf]; omega
                  · have b9 : (tk == 9) = false := by rw [beq_eq_false_iff_ne]; exact k9
                    clear k9
                    go_wp2_with (at_lookup; refine look2 rfl _ _ rfl m (200 * k + j) S rfl (HSET2.out _ _) (tp, tn) rfl HIN.out true HS1.out ?_; go_frame)
                    go_roundw
                    case rel => exact ⟨j + 1, by omega, by go_num, HEK2.out _ _, set_at (HSET2.out _ _) (by omega) HN.out⟩
                    case measure => simp [intOf]; omega
            · have HFIN : Hid ((ts.take j).foldl nextS (opens R) = opens R5) := by show _ = _; rw [List.take_of_length_le (by omega)]; exact HGOOD.out.2
              go_wp2_with fail
              go_roundw
              case rel => exact ⟨k + 1, by omega, by go_num, HEK.out.bel, HEK.out.rowA, R5, HINV5.out, HSL5.out, HEK.out.room, set_at HSET.out (by omega) HFIN.out.symm, HLS5.out⟩
              case measure => simp [intOf]; omega
        · obtain rfl : k = A.length := by omega
          obtain ⟨htab, hop⟩ := left_all HINV.out (HLEFT.out 8 (by have := HAL.out; omega) (by omega))
          have CT := Table_any b R wo HROOM.out HSL.out.short
          rw [htab] at CT
          rw [hop] at HSET
          have HCT := Lib.hid CT
          clear htab hop CT
          go_wp2_with fail
          refine HCT.out.mono ?_
          rintro e w3 ⟨⟨pv, sv, uv, rfl, htab3⟩, hb3⟩
          obtain ⟨⟨pa, pc, rfl, _⟩, ⟨ms, hms, ⟨sa, sc, rfl, _⟩, _⟩, ⟨ua, uc, rfl, _⟩⟩ := id htab3
          obtain rfl : ms = [] := List.map_eq_nil_iff.1 hms
          simp only [List.length_nil]
          have HSET3 : Hid (∀ o1, BoolSet Tryd.prog 70 4 kP (w3.alloc o1) m (200 * A.length) fun _ => false) := fun o1 => set_bel (set_bel HSET.out hb3) (below_alloc _ o1)
          have HBL3 := Lib.hid (HBL.out.trans (hb3.mono HBL.out.size))
          clear htab3 hms hb3 HSET HBL
          go_wp2_with (at_len; refine len2 rfl _ rfl m (200 * A.length) rfl (HSET3.out _) ?_)
          go_ret
          exact ⟨rfl, HBL3.out.alloc HBL3.out.size _⟩
end Go.Proofs.Rm
