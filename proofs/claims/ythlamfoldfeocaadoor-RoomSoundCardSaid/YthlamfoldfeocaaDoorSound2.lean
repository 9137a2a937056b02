/- The walk of the law RoomSound, out of the contracts. -/
import Derived.Test.YthlamfoldfeocaaDoorSound
import Derived.Test.YthlamfoldfeocaaDoorP21
namespace Go.Proofs.Rm
open Go.RowKit Go.Proofs.Heap Go.Proofs.Mem
open Go.Proofs.Lab (may key Tabs)
open Go.Proofs.Mp (BoolSet)
set_option maxRecDepth 100000 in
set_option maxHeartbeats 16000000 in
theorem RoomSound_any (v : Value) (l : List OpV) (w : World) (hT : Tabs w) (hv : OpsR w v l)
    (hsh : ∀ w, Tabs w → Calls Tryd.prog 10 #[] w fun e w' => e = .returned (.bool true) ∧ Below w.heap.size w w') :
    Calls Tryd.prog 6 #[v] w fun e w' => e = .returned (.bool true) ∧ Below w.heap.size w w' := by
  have hlen := hv.row.len
  obtain ⟨va, vc, rfl, -, -⟩ := id hv.row
  have HSH := Lib.hid (hsh w hT)
  have HT : Hid (∀ w', Below w.heap.size w w' → Tabs w') := fun w' h => Utf8Tabs_below hT h
  have HV : Hid (∀ w', Below w.heap.size w w' → OpsR w' (.slice va l.length vc) l) := fun w' h => hv.below h
  have hmm := @run_makeMap Tryd.prog
  clear hsh hT hv
  go_enter Tryd.func6, Tryd.ntmps6
  go_wp2_with fail
  refine HSH.out.mono ?_
  rintro e w1 ⟨rfl, hb1⟩
  have HB1 := Lib.hid hb1
  have hz1 := hb1.size
  clear hb1
  go_wp2_with fail
  refine (New_any _).mono ?_
  rintro e w2 ⟨rfl, hroom, hb2⟩
  have HBEL := Lib.hid (HB1.out.trans (hb2.mono HB1.out.size))
  have HROOM := Lib.hid hroom
  have hbw : w.heap.size ≤ w1.heap.size := hz1
  clear hroom hb2
  generalize w1.heap.size = b at *
  go_wp2_with fail
  go_loopw [4] (fun i w' => ∃ k : Nat, k ≤ l.length ∧ i = .int .i64 k ∧ Below w.heap.size w w' ∧ ∃ R, Inv R ∧ Slim R ∧ RoomAt w' b R) (fun i _ => l.length - (intOf i).toNat)
  case atStart => exact ⟨0, Nat.zero_le _, rfl, HBEL.out, empty, inv_empty, slim_empty, HROOM.out⟩
  case round =>
    clear HROOM HBEL
    obtain ⟨k, hk, rfl, hbl, R, hinv, hslim, hroom⟩ := hrel
    have HBL := Lib.hid hbl
    have HINV := Lib.hid hinv
    have HSL := Lib.hid hslim
    have HROOM := Lib.hid hroom
    have hsz := hbl.size
    clear hbl hinv hslim hroom
    by_cases hkl : k < l.length ∧ k < 80
    · obtain ⟨hkl, hk80⟩ := hkl
      obtain ⟨g, off, rfl, hcells⟩ := opsR_at (HV.out _ HBL.out) (by omega)
      obtain ⟨c0, c1, c2, c3, c4, c5, c6⟩ := hcells k l[k] (List.getElem?_eq_getElem hkl)
      have HXR := Lib.hid (fun w' h => (HV.out w' h).each l[k] (List.getElem_mem hkl))
      clear hcells
      generalize l[k] = y at *
      obtain ⟨o, xa, xc, ya, yl, yc⟩ := y
      dsimp only at c0 c1 c2 c3 c4 c5 c6 HXR
      go_wp2_with fail
      refine (Do_any b R o xa ya xc yl yc _ HROOM.out HINV.out (HT.out _ HBL.out) (HXR.out _ HBL.out).2 (HXR.out _ HBL.out).1).mono ?_
      rintro e w5 ⟨tv, sv, rfl, htr, hra5, hfr5⟩
      have HBL5 := Lib.hid (HBL.out.trans (fr_below hfr5 hbw HBL.out.size))
      have HINV5 := Lib.hid (inv_doo HINV.out o sv)
      have HSL5 := Lib.hid (slim_doo HSL.out o sv)
      have HROOM5 := Lib.hid hra5
      clear hra5 hfr5 htr
      generalize doo R o sv = D at *
      go_wp2
      go_roundw
      case rel => exact ⟨k + 1, by omega, by go_num, HBL5.out, D.1.2, HINV5.out, HSL5.out, HROOM5.out⟩
      case measure => simp [intOf]; omega
    · have hcase : ¬ k < l.length ∨ (k < l.length ∧ ¬ k < 80) := by omega
      clear hkl HV HSH
      rcases hcase with h1 | ⟨h1, h2⟩
      all_goals
        go_wp2_with fail
        refine (Table_any b R _ HROOM.out HSL.out.short).mono ?_
        rintro e w3 ⟨⟨pv, sv, uv, rfl, htab⟩, hb3⟩
        have HTAB := Lib.hid htab
        obtain ⟨⟨pa, pc, rfl, _⟩, ⟨ms, hms, hrow3, hrs3⟩, ⟨ua, uc, rfl, _⟩⟩ := id htab
        obtain ⟨sa, sc, rfl, _⟩ := id hrow3
        have hmsl : ms.length = (table R).srcs.length := by rw [← List.length_map (f := Prod.fst), hms]
        have HSD := Lib.hid (sound_table HINV.out)
        rw [hmsl]
        have HMS : Hid (∀ w', Below w3.heap.size w3 w' → TabAt w' (.slice pa (table R).peers.length pc) (.slice sa (table R).srcs.length sc) (.slice ua (table R).subs.length uc) (table R)) := fun w' h => by rw [← hmsl]; exact HTAB.out.below h
        have HRW : Hid (∀ w', Below w3.heap.size w3 w' → RoomAt w' b R) := fun w' h => (HROOM.out.below hb3).below h
        have HTW : Hid (∀ w', Below w3.heap.size w3 w' → Below w.heap.size w w') := fun w' h => (HBL.out.trans (hb3.mono HBL.out.size)).trans (h.mono (HBL.out.trans (hb3.mono HBL.out.size)).size)
        have HTT : Hid (∀ w', Below w3.heap.size w3 w' → Tabs w') := fun w' h => HT.out _ (HTW.out w' h)
        have HLEN := HSD.out.plen
        have HLEN2 := HSD.out.slen
        have HLEN3 := (HMS.out w3 (Below.refl _ _)).subs.len
        have HMSE := Lib.hid hms
        have HROWS : Hid (∀ w', Below w3.heap.size w3 w' → Row w' 44 (.slice sa ms.length sc) ms.length (ms.flatMap tsrcCells)) := fun w' h => hrow3.below h
        have HEACH : Hid (∀ m ∈ ms, ∀ w', Below w3.heap.size w3 w' → Row w' 23 m.2 m.1.ss.length (u32s m.1.ss)) := fun m hm w' h => (hrs3 m hm).below h
        have HMSL := Lib.hid hmsl
        have CJ : Hid (∀ p w', Below w3.heap.size w3 w' → Calls Tryd.prog 20 #[.pointer (some ⟨b, 0, none⟩), .int .i64 p] w' fun e w1 => e = .returned (.bool (joined R p)) ∧ w' = w1) := fun p w' h => Joined_any b R p w' (HRW.out w' h)
        clear htab hms hmsl HTAB hb3 HROOM HBL HT hrow3 hrs3
        generalize table R = T at *
        go_wp2_with fail
        have HK0 := Lib.hid ((SK.new w3 (.slice pa T.peers.length pc) (.slice sa T.srcs.length sc) (.slice ua T.subs.length uc)).below (below_alloc _ (.map #[] 0)))
        have HS0 := Lib.hid (BoolSet.made (P := Tryd.prog) (k := 9) (e := 4) (κ := kS) (w3.alloc (.cells #[.slice pa T.peers.length pc, .slice sa T.srcs.length sc, .slice ua T.subs.length uc] 61)))
        rw [World.size_alloc] at HS0
        go_loopw [44] (fun i w' => ∃ k : Nat, k ≤ T.peers.length ∧ i = .int .i64 k ∧ SK w3 w' (.slice pa T.peers.length pc) (.slice sa T.srcs.length sc) (.slice ua T.subs.length uc) ∧ BoolSet Tryd.prog 9 4 kS w' (w3.heap.size + 1) k (keysTo T.peers k)) (fun i _ => T.peers.length - (intOf i).toNat)
        case atStart => exact ⟨0, Nat.zero_le _, rfl, HK0.out, HS0.out.congr (fun a => rfl)⟩
        case round =>
          clear HK0 HS0
          obtain ⟨i, hi, rfl, hsk, hset⟩ := hrel
          have HSK := Lib.hid hsk
          have HSET := Lib.hid hset
          have hskl := hsk.lt
          have hsetl := hset.lt
          clear hsk hset
          by_cases hil : i < T.peers.length
          · obtain ⟨hne, hn32, hno⟩ := HSD.out.peers i hil
            have HNXT := Lib.hid (keysTo_succ hil)
            obtain ⟨g, off, rfl, hcells⟩ := tpeer_at (HMS.out _ HSK.out.bel).peers (by omega)
            obtain ⟨d0, d1⟩ := hcells i T.peers[i] (List.getElem?_eq_getElem hil)
            clear hcells
            generalize T.peers[i] = x at *
            obtain ⟨xn, nm⟩ := x
            dsimp only at d0 d1 hne hn32 hno HNXT
            have hk32 : (key nm).length ≤ maxLen := by unfold maxLen; unfold key; split <;> simp; omega
            have hc := below_alloc wr (.cells #[.int .i64 xn, .string (str nm)] 66)
            have HBX := Lib.hid (HSK.out.below hc)
            have HSX := Lib.hid (set_below HSET.out hc)
            have CK : Hid (∀ w', Below w3.heap.size w3 w' → Calls Tryd.prog 27 #[.string (str nm)] w' fun e w1 => e = .returned (.string (str (key nm))) ∧ Below w'.heap.size w' w1) := fun w' h => Lab.rKey_any (str nm) w' (by rw [str_size]; omega) (HTT.out w' h)
            have CK2 : Hid (∀ w', Below w3.heap.size w3 w' → Calls Tryd.prog 28 #[.string (str nm)] w' fun e w1 => e = .returned (.string (str (key nm))) ∧ Below w'.heap.size w' w1) := fun w' h => Lab.Key_any (str nm) w' (by rw [str_size]; omega) (HTT.out w' h)
            have e1 : (str (key nm)).toList.isEmpty = false := by rw [str_emp]; cases hkn : key nm with | nil => exact absurd hkn hne | cons a b => rfl
            have HNO := Lib.hid hno
            clear hne hno hc
            generalize key nm = kn at *
            go_wp2_with fail
            refine (CK.out _ HBX.out.bel).mono ?_
            rintro e w5 ⟨rfl, hb5⟩
            have HBX5 := Lib.hid (HBX.out.below hb5)
            have HSX5 := Lib.hid (set_below HSX.out hb5)
            have hlk := HSX5.out.look lawS Tryd.underlying64 Tryd.underlying4 (zeroB _) (kS_key kn hk32)
            rw [HNO.out] at hlk
            unfold kS at hlk
            have c5 := hb5.cell (p := ⟨wr.heap.size, 1, none⟩) (by simp)
            simp at c5
            clear hb5
            go_wp2_with fail
            refine (CK2.out _ HBX5.out.bel).mono ?_
            rintro e w6 ⟨rfl, hb6⟩
            have HBX6 := Lib.hid (HBX5.out.below hb6)
            have HSX6 := Lib.hid (set_below HSX5.out hb6)
            clear hb6
            go_wp2_with (at_mapUpdate; refine Mp.wpList_put_set rfl _ _ _ 64 rfl lawS kS_inj Tryd.underlying64 Tryd.underlying4 (w3.heap.size + 1) i (keysTo T.peers i) rfl HSX6.out (by unfold maxLen; omega) kn (.string kn) rfl rfl (kS_key kn hk32) ?_; intro w7 hset7 hg7)
            go_roundw
            case rel => exact ⟨i + 1, by omega, by go_num, HBX6.out.grown hg7 (by omega), hset7.congr (fun s => HNXT.out s)⟩
            case measure => simp [intOf]; omega
          · go_upto_region 19 with fail
            have HSK2 := Lib.hid (HSK.out.below (below_alloc wr (.map #[] 0)))
            have HST2 := Lib.hid (BoolSet.made (P := Tryd.prog) (k := 23) (e := 4) (κ := kU) wr)
            generalize hW5 : wr.alloc (.map #[] 0) = W5 at *
            clear hW5 HSET HSK hsetl
            generalize wr.heap.size = g2 at *
            obtain ⟨k0, k1, k2⟩ := HSK2.out.cell
            go_wp2_with fail
            go_loopw [72] (fun i w' => ∃ k : Nat, k ≤ T.srcs.length ∧ i = .int .i64 k ∧ SK w3 w' (.slice pa T.peers.length pc) (.slice sa T.srcs.length sc) (.slice ua T.subs.length uc) ∧ BoolSet Tryd.prog 23 4 kU w' g2 (3 * k) (ssTo T.srcs k 0)) (fun i _ => T.srcs.length - (intOf i).toNat)
            case atStart => exact ⟨0, Nat.zero_le _, rfl, HSK2.out, HST2.out.congr (fun v => ssTo_zero _ v)⟩
            case round =>
              clear HSK2 HST2 k0 k1 k2
              obtain ⟨i2, hi2, rfl, hsk, hset⟩ := hrel
              obtain ⟨wo, rfl⟩ : ∃ wo : World, wo = wr := ⟨_, rfl⟩
              have HSK := Lib.hid hsk
              have HSET := Lib.hid hset
              have hwol := hsk.lt
              clear hsk hset
              by_cases hil2 : i2 < T.srcs.length
              · obtain ⟨hj, hl1, hl3, hss⟩ := HSD.out.srcs i2 hil2
                have HSUCC : Hid (∀ j, j < T.srcs[i2].ss.length → ∀ v, ssTo T.srcs i2 (j + 1) v = (decide (v = T.srcs[i2].ss.getD j 0) || ssTo T.srcs i2 j v)) := fun j hj v => ssTo_succ hil2 hj v
                have HNEXT : Hid (∀ j, T.srcs[i2].ss.length ≤ j → ∀ v, ssTo T.srcs (i2 + 1) 0 v = ssTo T.srcs i2 j v) := fun j hj v => ssTo_next hil2 hj v
                have hml := HMSL.out
                obtain ⟨g, off, e1, hcells⟩ := tsrc_at (HROWS.out _ HSK.out.bel) (by omega)
                subst e1
                obtain ⟨d0, d1, d2, d3⟩ := hcells i2 ms[i2] (List.getElem?_eq_getElem (by omega))
                have hx : ms[i2].1 = T.srcs[i2] := by
                  have h := congrArg (fun L => L[i2]?) HMSE.out
                  simpa [List.getElem?_eq_getElem hil2, List.getElem?_eq_getElem (show i2 < ms.length by omega)] using h
                have HR := Lib.hid (HEACH.out ms[i2] (List.getElem_mem _))
                rw [hx] at d0 d1 d3 HR
                clear hx hcells
                generalize ms[i2].2 = xv at *
                generalize T.srcs[i2] = x at *
                obtain ⟨xn, xo, xs, xm⟩ := x
                dsimp only at *
                obtain ⟨ra, rc, rfl, -, -⟩ := id (HR.out _ HSK.out.bel)
                have hc := below_alloc wo (.cells #[.int .i64 xn, .int .i64 xo, .slice ra xs.length rc, .bool xm] 44)
                have HBX := Lib.hid (HSK.out.below hc)
                have HSX := Lib.hid (set_below HSET.out hc)
                have HSS := Lib.hid hss
                have CJ1 := Lib.hid (CJ.out xo)
                rw [hj] at CJ1
                have e1 : decide ((xs.length : Int) < 1) = false := decide_eq_false (by omega)
                have e2 : decide ((3 : Int) < (xs.length : Int)) = false := decide_eq_false (by omega)
                clear hss hj hc
                go_wp2_with (go_at_call 20; refine (CJ1.out _ HBX.out.bel).mono ?_; rintro e w5 ⟨rfl, rfl⟩)
                go_loopw [96] (fun i w' => ∃ k : Nat, k ≤ xs.length ∧ i = .int .i64 k ∧ SK w3 w' (.slice pa T.peers.length pc) (.slice (some ⟨g, off, none⟩) T.srcs.length sc) (.slice ua T.subs.length uc) ∧ BoolSet Tryd.prog 23 4 kU w' g2 (3 * i2 + k) (ssTo T.srcs i2 k)) (fun i _ => xs.length - (intOf i).toNat)
                case atStart => exact ⟨0, Nat.zero_le _, rfl, HBX.out, HSX.out⟩
                case round =>
                  clear HBX HSX
                  obtain ⟨j, hjk, rfl, hsk, hset⟩ := hrel
                  have HSK := Lib.hid hsk
                  have HSET := Lib.hid hset
                  clear hsk hset
                  by_cases hjl : j < xs.length
                  · obtain ⟨⟨hv0, hv1⟩, hno⟩ := HSS.out j hjl
                    have HSU := Lib.hid (HSUCC.out j hjl)
                    obtain ⟨g3, off3, c3, e3, _, _, _, hc3⟩ := u32_open (HR.out _ HSK.out.bel) (by omega)
                    cases e3
                    have d5 := hc3 j hjl
                    have HNO := Lib.hid hno
                    clear hc3 hno
                    generalize xs.getD j 0 = x at *
                    have hlk := HSET.out.look lawU Tryd.underlying68 Tryd.underlying4 (zeroB _) (kU_key x (by omega) (by omega))
                    rw [HNO.out] at hlk
                    unfold kU at hlk
                    have e3 : decide (x < 2) = false := decide_eq_false (by omega)
                    have e4 : decide ((3221225472 : Int) ≤ x) = false := decide_eq_false (by omega)
                    go_wp2_with (at_mapUpdate; refine Mp.wpList_put_set rfl _ _ _ 68 rfl lawU kU_inj Tryd.underlying68 Tryd.underlying4 g2 (3 * i2 + j) (ssTo T.srcs i2 j) rfl HSET.out (by unfold maxLen; omega) x (.int .u32 x) rfl rfl (kU_key x (by omega) (by omega)) ?_; intro w7 hset7 hg7)
                    go_roundw
                    case rel => exact ⟨j + 1, by omega, by go_num, HSK.out.grown hg7 (by omega), hset7.congr (fun s => HSU.out s)⟩
                    case measure => simp [intOf]; omega
                  · go_wp2_with fail
                    go_roundw
                    case rel => exact ⟨i2 + 1, by omega, by go_num, HSK.out, (HSET.out.mono (by omega)).congr (fun v => HNEXT.out j (by omega) v)⟩
                    case measure => simp [intOf]; omega
              · obtain ⟨k0, k1, k2⟩ := HSK.out.cell
                go_wp2_with fail
                go_loopw [118] (fun i w' => ∃ k : Nat, k ≤ T.subs.length ∧ i = .int .i64 k ∧ SK w3 w' (.slice pa T.peers.length pc) (.slice sa T.srcs.length sc) (.slice ua T.subs.length uc)) (fun i _ => T.subs.length - (intOf i).toNat)
                case atStart => exact ⟨0, Nat.zero_le _, rfl, HSK.out⟩
                case round =>
                  clear HSK HSET k0 k1 k2
                  obtain ⟨i3, hi3, rfl, hsk⟩ := hrel
                  have HSK := Lib.hid hsk
                  have hskl := hsk.lt
                  clear hsk
                  by_cases hil3 : i3 < T.subs.length
                  · obtain ⟨n, hsrc, h1, h9, hth, hjn, hown, hw0, hw1⟩ := HSD.out.subs i3 hil3
                    obtain ⟨g, off, e1, hcells⟩ := tsub_at (HMS.out _ HSK.out.bel).subs (by omega)
                    subst e1
                    obtain ⟨d0, d1, d2, d3⟩ := hcells i3 T.subs[i3] (List.getElem?_eq_getElem hil3)
                    have CJ1 := Lib.hid (CJ.out T.subs[i3].peer)
                    rw [hjn] at CJ1
                    clear hcells hjn
                    generalize T.subs[i3] = x at *
                    obtain ⟨xp, xs, xw, xq⟩ := x
                    dsimp only at *
                    subst hsrc
                    have HBX := Lib.hid (HSK.out.below (below_alloc wr (.cells #[.int .i64 xp, .int .i64 n, .int .i64 xw, .bool xq] 48)))
                    have HUB := Lib.hid (heap_new wr (.cells #[.int .i64 xp, .int .i64 n, .int .i64 xw, .bool xq] 48))
                    have hus := World.size_alloc wr (.cells #[.int .i64 xp, .int .i64 n, .int .i64 xw, .bool xq] 48)
                    have CS := Lib.hid (Source_yes b R n _ (HRW.out _ HBX.out.bel) ⟨h1, h9⟩ hth (HSL.out.short n))
                    clear hth
                    generalize R.src n = s at *
                    obtain ⟨st, sn, so, sv, ss, sm⟩ := s
                    dsimp only at *
                    go_wp2_with fail
                    refine CS.out.mono ?_
                    rintro e w5 ⟨⟨v', rfl, hrow⟩, hb5⟩
                    obtain ⟨ra, rc, rfl, -, -⟩ := id hrow
                    have HBX5 := Lib.hid ((HBX.out.below hb5).below (below_alloc w5 (.cells #[.int .i64 sn, .int .i64 so, .slice ra ss.length rc, .bool sm] 44)))
                    have hlt5 : wr.heap.size < w5.heap.size := by have h5 := hb5.size; simp only [World.size_alloc] at h5; exact h5
                    have hub : (w5.alloc (.cells #[.int .i64 sn, .int .i64 so, .slice ra ss.length rc, .bool sm] 44)).heap[wr.heap.size]? = some (.cells #[.int .i64 xp, .int .i64 n, .int .i64 xw, .bool xq] 48) := by
                      rw [(below_alloc w5 _).block _ hlt5, hb5.block _ (by rw [World.size_alloc]; exact Nat.lt_succ_self _)]; exact HUB.out
                    have hsb := heap_new w5 (.cells #[.int .i64 sn, .int .i64 so, .slice ra ss.length rc, .bool sm] 44)
                    clear hus hrow hb5 HUB
                    go_upto_region 36 with fail
                    generalize hW6 : w5.alloc (.cells #[.int .i64 sn, .int .i64 so, .slice ra ss.length rc, .bool sm] 44) = W6 at *
                    clear hW6
                    generalize w5.heap.size = sb at *
                    have u0 := cell_of hub 0
                    have u2 := cell_of hub 2
                    have s1 := cell_of hsb 1
                    have s2 := cell_of hsb 2
                    have f1 : (so == xp) = false := by rw [beq_eq_false_iff_ne]; exact hown
                    have f2 : decide (xw < 0) = false := decide_eq_false (by omega)
                    have f3 : decide ((ss.length : Int) ≤ xw) = false := decide_eq_false (by omega)
                    clear hub hsb hown
                    go_wp2_with (go_at_call 20; refine (CJ1.out _ HBX5.out.bel).mono ?_; rintro e w7 ⟨rfl, rfl⟩)
                    go_roundw
                    case rel => exact ⟨i3 + 1, by omega, by go_num, HBX5.out⟩
                    case measure => simp [intOf]; omega
                  · go_wp2_with fail
                    go_ret
                    exact ⟨rfl, HTW.out _ HSK.out.bel⟩
end Go.Proofs.Rm
