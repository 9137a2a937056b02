/- The walk of the law RoomAsking, out of the contracts. -/
import Derived.Test.YthlamfoldfeocaaDoorRoomLawDef
import Derived.Test.YthlamfoldfeocaaDoorKeeps
import Derived.Test.YthlamfoldfeocaaDoorAskPlain
namespace Go.Proofs.Rm
open Go.RowKit Go.Proofs.Heap Go.Proofs.Mem
open Go.Proofs.Lab (may key Tabs)
set_option maxRecDepth 100000 in
set_option maxHeartbeats 16000000 in
theorem RoomAsking_any (v : Value) (l : List OpV) (w : World) (hT : Tabs w) (hv : OpsR w v l)
    (hsh : ∀ w, Tabs w → Calls Tryd.prog 10 #[] w fun e w' => e = .returned (.bool true) ∧ Below w.heap.size w w') :
    Calls Tryd.prog 4 #[v] w fun e w' => e = .returned (.bool true) ∧ Below w.heap.size w w' := by
  have hlen := hv.row.len
  obtain ⟨va, vc, rfl, _⟩ := id hv.row
  have HSH := Lib.hid (hsh w hT)
  have HT : Hid (∀ w', Below w.heap.size w w' → Tabs w') := fun w' h => Utf8Tabs_below hT h
  have HV : Hid (∀ w', Below w.heap.size w w' → OpsR w' (.slice va l.length vc) l) := fun w' h => hv.below h
  clear hsh hT hv
  go_enter Tryd.func4, Tryd.ntmps4
  go_wp2_with fail
  refine HSH.out.mono ?_
  rintro e w1 ⟨rfl, hb1⟩
  have HB1 := Lib.hid hb1
  have hz1 := hb1.size
  clear hb1
  go_wp2_with fail
  refine (New_any _).mono ?_
  rintro e w2 ⟨rfl, hroom, hb2⟩
  have HBEL := Lib.hid (HB1.out.trans (hb2.mono HB1.out.size))
  have HROOM := Lib.hid hroom
  have hbw : w.heap.size ≤ w1.heap.size := hz1
  clear hroom hb2
  generalize w1.heap.size = b at *
  go_wp2_with fail
  go_loopw [4] (fun i w' => ∃ k : Nat, k ≤ l.length ∧ i = .int .i64 k ∧ Below w.heap.size w w' ∧ ∃ R, Inv R ∧ Slim R ∧ RoomAt w' b R) (fun i _ => l.length - (intOf i).toNat)
  case atStart => exact ⟨0, Nat.zero_le _, rfl, HBEL.out, empty, inv_empty, slim_empty, HROOM.out⟩
  case round =>
    clear HROOM HBEL
    obtain ⟨k, hk, rfl, hbl, R, hinv, hslim, hroom⟩ := hrel
    have HBL := Lib.hid hbl
    have HINV := Lib.hid hinv
    have HSL := Lib.hid hslim
    have HROOM := Lib.hid hroom
    have hsz := hbl.size
    clear hbl hinv hslim hroom
    by_cases hkl : k < l.length ∧ k < 80
    · obtain ⟨hkl, hk80⟩ := hkl
      obtain ⟨g, off, rfl, hcells⟩ := opsR_at (HV.out _ HBL.out) (by omega)
      have hx := hcells k l[k] (List.getElem?_eq_getElem hkl)
      have HXR := Lib.hid ((HV.out _ HBL.out).each l[k] (List.getElem_mem hkl))
      clear hcells
      generalize l[k] = x at *
      obtain ⟨o, xa, xc, ya, yl, yc⟩ := x
      dsimp only at hx HXR
      obtain ⟨c0, c1, c2, c3, c4, c5, c6⟩ := hx
      have CD : Hid (Calls Tryd.prog 12 #[.pointer (some ⟨b, 0, none⟩), .agg #[.int .i64 o.kind, .int .i64 o.peer, .int .i64 o.source, .int .i64 o.layer, .string (str o.name), .slice xa o.ssrcs.length xc, .slice ya yl yc]] wr (DoPost b R o wr)) :=
        Do_any b R o xa ya xc yl yc wr HROOM.out HINV.out (HT.out _ HBL.out) HXR.out.2 HXR.out.1
      go_wp2_with fail
      refine CD.out.mono ?_
      rintro e w5 ⟨tv, sv', rfl, htr, hroom5, hfr5⟩
      have HINV5 := Lib.hid (inv_doo HINV.out o sv')
      have HSL5 := Lib.hid (slim_doo HSL.out o sv')
      have HASK : Hid (∀ t ∈ (doo R o sv').1.1, t.kind = 9 → AskOk (doo R o sv').1.2 t) := doo_ask HINV.out o sv'
      have HBL5 := Lib.hid (HBL.out.trans (fr_below hfr5 hbw HBL.out.size))
      have HROOM5 := Lib.hid hroom5
      have HTR := Lib.hid htr
      obtain ⟨ta, tc, rfl, _⟩ := id htr
      have htl := htr.len
      clear hroom5 hfr5 htr CD c0 c1 c2 c3 c4 c5 c6
      generalize (doo R o sv').1.1 = T at *
      generalize (doo R o sv').1.2 = Q at *
      generalize (doo R o sv').2 = er at *
      obtain ⟨wo, rfl⟩ : ∃ wo : World, wo = wr := ⟨_, rfl⟩
      go_wp2_with fail
      go_loopw [43] (fun i w' => ∃ j : Nat, j ≤ T.length ∧ i = .int .i64 j ∧ Below w.heap.size w w' ∧ RoomAt w' b Q ∧ TurnRow w' (.slice ta T.length tc) T) (fun i _ => T.length - (intOf i).toNat)
      case atStart => exact ⟨0, Nat.zero_le _, rfl, HBL5.out, HROOM5.out, HTR.out⟩
      case round =>
        clear HBL5 HROOM5 HTR
        obtain ⟨j, hj, rfl, hbl5, hroom5, htr⟩ := hrel
        have HBL5 := Lib.hid hbl5
        have HROOM5 := Lib.hid hroom5
        have HTR := Lib.hid htr
        have hs5 := hbl5.size
        clear hbl5 hroom5
        by_cases hjl : j < T.length
        · obtain ⟨g2, off2, cap2, e1, hg2, hcells⟩ := turn_at htr (by omega)
          obtain ⟨e2, e3⟩ := slice_inj e1
          subst e2
          obtain ⟨d0, d1, d2, d3, d4⟩ := hcells j T[j] (List.getElem?_eq_getElem hjl)
          have HAJ := Lib.hid (HASK.out T[j] (List.getElem_mem hjl))
          clear hcells htr e1 e3
          generalize T[j] = t at *
          obtain ⟨t0, t1, t2, t3, t4⟩ := t
          dsimp only at d0 d1 d2 d3 d4 HAJ
          by_cases h9 : t0 = 9
          · obtain ⟨n, p, f1, f2, f3, f4, f5, f6, f7, f8, f9⟩ := HAJ.out h9
            dsimp only at f1 f5 f7
            subst h9 f1
            have HP : Hid (p ∈ subs Q n) := f8
            obtain ⟨j0, hj0, hj1⟩ := List.getElem_of_mem f8
            have HJ1 := Lib.hid hj1
            have HF9 := Lib.hid f9
            have CSRC := Lib.hid (fun w6 (h : RoomAt w6 b Q) => Source_yes b Q n w6 h ⟨f2, f3⟩ f4 (HSL5.out.short n))
            have COF := Lib.hid (fun w6 (h : RoomAt w6 b Q) => Of_any b Q t4 w6 h)
            have CSB := Lib.hid (fun w6 (h : RoomAt w6 b Q) => Subs_any b Q n w6 h)
            rw [f7] at COF
            rw [f5, f6] at CSRC
            have HMEM : Hid (∀ i, i < (subs Q n).length → (subs Q n).getD i 0 < 9 ∧ hears Q ((subs Q n).getD i 0 : Nat) n = true) := fun i h => by
              refine ⟨subs_mem h, ?_⟩
              rw [List.getD_eq_getElem?_getD, List.getElem?_eq_getElem h]
              exact (List.mem_filter.1 (List.getElem_mem h)).2
            have CSU : Hid (∀ (q : Nat) w6, hears Q q n = true → RoomAt w6 b Q → Calls Tryd.prog 17 #[.pointer (some ⟨b, 0, none⟩), .int .i64 q, .int .i64 n] w6 fun e w' => e = .returned (.tuple #[.agg #[.int .i64 q, .int .i64 n, .int .i64 (Q.sub n q).want, .bool (Q.sub n q).paused], .bool true]) ∧ Below w6.heap.size w6 w') := fun q w6 hh h => by
              have cs := Sub_any b Q q n w6 h
              rw [hh, if_pos rfl, Int.toNat_natCast, Int.toNat_natCast] at cs
              exact cs
            have HL9 := subs_len Q n
            clear f5 f6 f7 f8 f9 hj1 HAJ
            have hj0' : j0 < (subs Q n).length := hj0
            have HG0 : Hid ((subs Q n).getD j0 0 = p) := by show _ = _; rw [List.getD_eq_getElem?_getD, List.getElem?_eq_getElem hj0, ← HJ1.out]; rfl
            clear HJ1 HP
            generalize subs Q n = L at *
            generalize (Q.src n).num = nm at *
            generalize (Q.src n).ss = ss at *
            go_wp2_with fail
            refine (CSRC.out _ (HROOM5.out.alloc _)).mono ?_
            rintro e w6 ⟨⟨cv, rfl, hcr⟩, hb6⟩
            obtain ⟨ca, cc, rfl, _⟩ := hcr
            have k1 : w6.cell? ⟨wr.heap.size, 1, none⟩ = some (.int .i64 t1) := cell_below hb6 (by simp)
            have k2 : w6.cell? ⟨wr.heap.size, 2, none⟩ = some (.int .i64 n) := cell_below hb6 (by simp)
            have k4 : w6.cell? ⟨wr.heap.size, 4, none⟩ = some (.int .u32 t4) := cell_below hb6 (by simp)
            have hs6 : wr.heap.size < w6.heap.size := by have := hb6.size; simp at this; omega
            have HB6 : Hid (Below w.heap.size w w6) := (HBL5.out.alloc HBL5.out.size _).trans (hb6.mono (by have := HBL5.out.size; simp; omega))
            have HRA6 := Lib.hid ((HROOM5.out.alloc _).below hb6)
            have HTR6 := Lib.hid ((HTR.out.below (below_alloc _ _)).below hb6)
            clear hb6
            go_wp2_with fail
            refine (COF.out _ (HRA6.out.alloc _)).mono ?_
            rintro e w7 ⟨rfl, hb7⟩
            have m1 : w7.cell? ⟨wr.heap.size, 1, none⟩ = some (.int .i64 t1) := cell_below hb7 (cell_alloc k1 _)
            have m2 : w7.cell? ⟨wr.heap.size, 2, none⟩ = some (.int .i64 n) := cell_below hb7 (cell_alloc k2 _)
            have m5 : w7.cell? ⟨w6.heap.size, 1, none⟩ = some (.int .i64 t1) := cell_below hb7 (by simp)
            have m6 : w7.cell? ⟨w6.heap.size, 3, none⟩ = some (.bool false) := cell_below hb7 (by simp)
            have hs7 : w6.heap.size < w7.heap.size := by have := hb7.size; simp at this; omega
            have HB7 : Hid (Below w.heap.size w w7) := (HB6.out.alloc HB6.out.size _).trans (hb7.mono (by have := HB6.out.size; simp; omega))
            have HRA7 := Lib.hid ((HRA6.out.alloc _).below hb7)
            have HTR7 := Lib.hid ((HTR6.out.below (below_alloc _ _)).below hb7)
            clear hb7 k1 k2 k4
            go_wp2_with fail
            refine (CSB.out _ HRA7.out).mono ?_
            rintro e w8 ⟨⟨lv, rfl, hrow⟩, hb8⟩
            have HW8 : Hid (∀ w', Below w8.heap.size w8 w' → w'.cell? ⟨wr.heap.size, 2, none⟩ = some (.int .i64 n) ∧ RoomAt w' b Q ∧ TurnRow w' (.slice (some ⟨g2, off2, none⟩) T.length tc) T ∧ Below w.heap.size w w' ∧ Row w' 3 lv L.length (ints L) ∧ wr.heap.size < w'.heap.size) := fun w' h => by
              have hb9 := hb8.trans (h.mono hb8.size)
              exact ⟨cell_below hb9 m2, HRA7.out.below hb9, HTR7.out.below hb9, HB7.out.trans (hb9.mono HB7.out.size), hrow.below h, by have := hb9.size; omega⟩
            obtain ⟨la, lc, rfl, _⟩ := id hrow
            clear hb8 m1 m2 m5 m6 hrow
            obtain ⟨wi, rfl⟩ : ∃ wo : World, wo = wr := ⟨_, rfl⟩
            go_wp2_with fail
            go_loopw [14, 93] (fun wv i w' => ∃ m : Nat, m ≤ L.length ∧ i = .int .i64 m ∧ ∃ wb, wv = .bool wb ∧ Hid (j0 < m → wb = true) ∧ Below w8.heap.size w8 w') (fun _ i _ => L.length - (intOf i).toNat)
            case atStart => exact ⟨0, Nat.zero_le _, rfl, false, rfl, fun h => by omega, Below.refl _ _⟩
            case round =>
              obtain ⟨m, hm, rfl, wb, rfl, HWB, hb9⟩ := hrel
              have HB9 := Lib.hid hb9
              obtain ⟨a2, ra, rt, rb, rr, rs⟩ := HW8.out wr hb9
              have HRA9 := Lib.hid ra
              have HTR9 := Lib.hid rt
              have HBW9 := Lib.hid rb
              clear hb9 ra rt rb
              by_cases hml : m < L.length
              · obtain ⟨g3, off3, cap3, e1, hg3, hcells⟩ := int_open rr (by omega)
                cases e1
                have hc := hcells m hml
                have HM := Lib.hid (HMEM.out m hml)
                have HQ : Hid (j0 = m → (Q.sub n (L.getD m 0)).want = (Q.sub n p).want ∧ (Q.sub n (L.getD m 0)).paused = false) := fun e => by rw [← e, HG0.out]; exact ⟨rfl, HF9.out⟩
                clear hcells rr
                generalize L.getD m 0 = q at *
                have CU := Lib.hid (CSU.out q wr HM.out.2 HRA9.out)
                generalize (Q.sub n q).want = wq at *
                generalize (Q.sub n q).paused = pq at *
                generalize (Q.sub n p).want = lw at *
                cases wb
                · have HN : Hid (¬ j0 < m) := fun h => by cases HWB.out h
                  by_cases hwl : wq = lw
                  · subst hwl
                    cases pq
                    · go_wp2_with (go_at_call 17; refine CU.out.mono ?_; rintro e w9 ⟨rfl, hb9⟩; have HB10 := Lib.hid hb9; have hb10 := hb9.size)
                      refine ⟨⟨m + 1, by omega, by go_num, true, rfl, fun _ => rfl, HB9.out.trans ((HB10.out.mono HB9.out.size).alloc (by have := HB9.out.size; omega) _)⟩, by simp [intOf]; omega⟩
                    · have HX : Hid (¬ j0 = m) := fun e => by have := (HQ.out e).2; cases this
                      go_wp2_with (go_at_call 17; refine CU.out.mono ?_; rintro e w9 ⟨rfl, hb9⟩; have HB10 := Lib.hid hb9; have hb10 := hb9.size)
                      refine ⟨⟨m + 1, by omega, by go_num, false, rfl, fun h => absurd h (by have := HN.out; have := HX.out; omega), HB9.out.trans ((HB10.out.mono HB9.out.size).alloc (by have := HB9.out.size; omega) _)⟩, by simp [intOf]; omega⟩
                  · have HX : Hid (¬ j0 = m) := fun e => hwl (HQ.out e).1
                    have hbq : (wq == lw) = false := by rw [beq_eq_false_iff_ne]; exact hwl
                    clear hwl
                    go_wp2_with (go_at_call 17; refine CU.out.mono ?_; rintro e w9 ⟨rfl, hb9⟩; have HB10 := Lib.hid hb9; have hb10 := hb9.size)
                    refine ⟨⟨m + 1, by omega, by go_num, false, rfl, fun h => absurd h (by have := HN.out; have := HX.out; omega), HB9.out.trans ((HB10.out.mono HB9.out.size).alloc (by have := HB9.out.size; omega) _)⟩, by simp [intOf]; omega⟩
                · go_wp2_with (go_at_call 17; refine CU.out.mono ?_; rintro e w9 ⟨rfl, hb9⟩; have HB10 := Lib.hid hb9; have hb10 := hb9.size)
                  refine ⟨⟨m + 1, by omega, by go_num, true, rfl, fun _ => rfl, HB9.out.trans ((HB10.out.mono HB9.out.size).alloc (by have := HB9.out.size; omega) _)⟩, by simp [intOf]; omega⟩
              · have hwb : wb = true := HWB.out (by omega)
                subst hwb
                go_wp2
                go_roundw
                case rel => exact ⟨j + 1, by omega, by go_num, HBW9.out, HRA9.out, HTR9.out⟩
                case measure => simp [intOf]; omega
          · have hbq : (t0 != 9) = true := by rw [bne_iff_ne]; exact h9
            clear HAJ h9
            go_wp2
            go_roundw
            case rel => exact ⟨j + 1, by omega, by go_num, HBL5.out.alloc HBL5.out.size _, HROOM5.out.alloc _, HTR.out.below (below_alloc _ _)⟩
            case measure => simp [intOf]; omega
        · go_wp2
          go_roundw
          case rel => exact ⟨k + 1, by omega, by go_num, HBL5.out, Q, HINV5.out, HSL5.out, HROOM5.out⟩
          case measure => simp [intOf]; omega
    · have hcase : ¬ k < l.length ∨ (k < l.length ∧ ¬ k < 80) := by omega
      rcases hcase with h1 | ⟨h1, h2⟩
      · clear hkl
        go_wp2
        go_ret
        exact ⟨rfl, HBL.out⟩
      · clear hkl
        go_wp2
        go_ret
        exact ⟨rfl, HBL.out⟩
end Go.Proofs.Rm
