/- Several texts in one: The walks of the reference's room: leave. The walks of the reference's room: Gone, Table. -/
import Derived.Test.YthlamfoldfeocaaDoorP09
namespace Go.Proofs.Rm
open Go.RowKit Go.Proofs.Heap Go.Proofs.Mem
theorem peers_len (l : List TPeer) : (l.flatMap peerCells).length = l.length * 2 := flat_length peerCells 2 (fun _ => rfl) l
theorem peers_one (l : List TPeer) : ∀ u ∈ l.flatMap peerCells, u.oneCell' = true := by
  intro u hu
  obtain ⟨x, _, hx⟩ := List.mem_flatMap.1 hu
  exact peer_one x u hx
set_option maxRecDepth 100000 in
set_option maxHeartbeats 8000000 in
theorem rleave_any (b : Nat) (T : Tab) (p : Int) (w : World) (hR : RefAt w b T) (hsm : T.Small) (hp : 1 ≤ p) (hs : 0 ≤ T.peerAt p) :
    Calls Tryd.prog 37 #[.pointer (some ⟨b, 0, none⟩), .int .i64 p] w fun e w' => (∃ v, e = .returned v ∧ TurnRow w' v (T.leave p).1) ∧ RefAt w' b (T.leave p).2 ∧ Fr w.heap.size (· = b) w w' := by
  have hb := hR.lt
  have HL0 : Hid (T.leave p = ((Tab.leave1 p T 8).1 ++ (Tab.leave2 p (Tab.leave1 p T 8).2 8).1, (Tab.leave2 p (Tab.leave1 p T 8).2 8).2.noPeer p)) := rfl
  have HR := Lib.hid hR
  have HSM := Lib.hid hsm
  have HPA := Lib.hid hs
  clear hR hsm hs
  go_enter Tryd.func37, Tryd.ntmps37
  go_wp2
  go_loopw [5, 6] (fun v i w' => ∃ k : Nat, k ≤ 8 ∧ i = .int .i64 ((k : Int) + 1) ∧ Fr w.heap.size (· = b) w w' ∧ RefAt w' b (Tab.leave1 p T k).2 ∧ w'.ownsRow w.heap.size 59 5 v (Tab.leave1 p T k).1.length ((Tab.leave1 p T k).1.flatMap turnCells)) (fun _ i _ => 9 - (intOf i).toNat)
  case atStart => exact ⟨0, by omega, rfl, Fr.refl _ _ _, HR.out, World.ownsRow_nil _ _ _ _⟩
  case round =>
    obtain ⟨k, hk, rfl, hfr, href, hown⟩ := hrel
    have HFR := Lib.hid hfr
    have HREF := Lib.hid href
    have HOWN := Lib.hid hown
    have hsz := hfr.size
    clear hfr href hown
    by_cases hk9 : k < 8
    · have HS := Lib.hid (rleave1_succ p T k)
      have HGL := (leave1_fields p T k).2.2.2
      have CA := Lib.hid (SubAt_any b (Tab.leave1 p T k).2 p ((k : Int) + 1) wr HREF.out)
      have hsm2 := (leave1_fields p T k).2.2.1 HSM.out
      by_cases h0 : 0 ≤ (Tab.leave1 p T k).2.subAt p ((k : Int) + 1)
      · have HF : Hid (Tab.leave1 p T (k + 1) = ((Tab.leave1 p T k).1 ++ [⟨2, p, (k : Int) + 1, 0, 0⟩], (Tab.leave1 p T k).2.endSub p ((k : Int) + 1))) := by show _ = _; rw [HS.out, if_pos h0]
        have CE : Hid (∀ w1, Below wr.heap.size wr w1 → Calls Tryd.prog 40 #[.pointer (some ⟨b, 0, none⟩), .int .i64 p, .int .i64 ((k : Int) + 1)] w1 fun e w' => e = .returned (.agg #[.int .i64 2, .int .i64 p, .int .i64 ((k : Int) + 1), .int .i64 0, .int .u32 0]) ∧ RefAt w' b ((Tab.leave1 p T k).2.endSub p ((k : Int) + 1)) ∧ Fr w1.heap.size (· = b) w1 w') :=
          fun w1 h => endSub_any b (Tab.leave1 p T k).2 p ((k : Int) + 1) w1 (HREF.out.below h) hsm2 h0
        generalize (Tab.leave1 p T k).2.subAt p ((k : Int) + 1) = q at *
        generalize Tab.leave1 p T k = G at *
        go_wp2_with (first | (go_at_call 19; (with_reducible refine CA.out.mono ?_); rintro e w1 ⟨rfl, hb1⟩; have HB1 := Lib.hid hb1; have hsz1 := hb1.size; clear hb1) | (go_at_call 40; (with_reducible refine (CE.out _ HB1.out).mono ?_); rintro e w2 ⟨rfl, href2, hfr2⟩; have HREF2 := Lib.hid href2; have HFR2 := Lib.hid hfr2; have hsz2 := hfr2.size; clear href2 hfr2) | (at_builtin; refine wpList_app rfl (.tmp 18) (.tmp 23) 33 rfl w.heap.size elemTurn _ G.1.length (G.1.flatMap turnCells) rfl ?a1 _ 1 ([⟨2, p, (k : Int) + 1, 0, 0⟩].flatMap turnCells) rfl ?a2 rfl ?a4 ?a5 ?a6 ?a7 (fun v' w3 HO HG => ?_)))
        case a1 => exact (owns_fr (owns_below HOWN.out HB1.out) HFR2.out (fun k hk => by omega)).alloc _
        case a2 => exact row_new' _ _ 1 _ ([⟨2, p, (k : Int) + 1, 0, 0⟩].flatMap turnCells) (by decide) rfl
        case a4 => exact turns_one _
        case a5 => omega
        case a6 => omega
        case a7 => simp; omega
        go_roundw
        case rel =>
          have hown2 := (owns_fr (owns_below HOWN.out HB1.out) HFR2.out (fun k hk => by omega)).alloc (.cells ([⟨2, p, (k : Int) + 1, 0, 0⟩].flatMap turnCells).toArray 59)
          have hbl := below_alloc w2 (.cells ([⟨2, p, (k : Int) + 1, 0, 0⟩].flatMap turnCells).toArray 59)
          refine ⟨k + 1, by omega, by go_num, ?_, ?_, ?_⟩
          · have h2 := HFR.out.trans ((Fr.of_below (· = b) HB1.out).mono (by omega) (fun _ _ h => h))
            have h3 := h2.trans (HFR2.out.mono (by omega) (fun _ _ h => h))
            exact (h3.alloc (by omega) _).grown HG.out (by simp; omega) (own_le HOWN.out)
          · rw [HF.out]
            exact RefAt.grown (HREF2.out.below hbl) hown2 HG.out hb
          · rw [HF.out]
            dsimp only
            rw [List.length_append, List.flatMap_append]
            exact HO.out
        case measure => simp [intOf]; omega
      · have HF : Hid (Tab.leave1 p T (k + 1) = Tab.leave1 p T k) := by show _ = _; rw [HS.out, if_neg h0]
        have h0' : decide (0 ≤ (Tab.leave1 p T k).2.subAt p ((k : Int) + 1)) = false := decide_eq_false h0
        generalize (Tab.leave1 p T k).2.subAt p ((k : Int) + 1) = q at *
        generalize Tab.leave1 p T k = G at *
        go_wp2_with (go_at_call 19; (with_reducible refine CA.out.mono ?_); rintro e w1 ⟨rfl, hb1⟩)
        go_roundw
        case rel => exact ⟨k + 1, by omega, by go_num, HFR.out.trans ((Fr.of_below (· = b) hb1).mono hsz (fun _ _ h => h)), by rw [HF.out]; exact HREF.out.below hb1, by rw [HF.out]; exact owns_below HOWN.out hb1⟩
        case measure => simp [intOf]; omega
    · obtain rfl : k = 8 := by omega
      have hlf := leave1_fields p T 8
      have HGL := hlf.2.2.2
      have HSM2 := Lib.hid (hlf.2.2.1 HSM.out)
      have HPE := Lib.hid hlf.2.1
      have HL2 : Hid (∀ k, Tab.leave2 p (Tab.leave1 p T 8).2 (k + 1) = if (Tab.leave2 p (Tab.leave1 p T 8).2 k).2.owner ((k : Int) + 1) = p then ((Tab.leave2 p (Tab.leave1 p T 8).2 k).1 ++ ((Tab.leave2 p (Tab.leave1 p T 8).2 k).2.endSource ((k : Int) + 1)).1, ((Tab.leave2 p (Tab.leave1 p T 8).2 k).2.endSource ((k : Int) + 1)).2) else Tab.leave2 p (Tab.leave1 p T 8).2 k) := fun k => rleave2_succ p _ k
      have HLF : Hid (∀ k, (Tab.leave2 p (Tab.leave1 p T 8).2 k).2.peers = (Tab.leave1 p T 8).2.peers ∧ (Tab.leave2 p (Tab.leave1 p T 8).2 k).2.Small ∧ (Tab.leave2 p (Tab.leave1 p T 8).2 k).1.length ≤ k * 16) := fun k => ⟨(leave2_fields p _ k).1, (leave2_fields p _ k).2.1 HSM2.out, (leave2_fields p _ k).2.2⟩
      have HL20 : Hid (Tab.leave2 p (Tab.leave1 p T 8).2 0 = ([], (Tab.leave1 p T 8).2)) := rfl
      clear hlf
      generalize Tab.leave1 p T 8 = X at *
      obtain ⟨wo, rfl⟩ : ∃ wo : World, wo = wr := ⟨_, rfl⟩
      go_wp2_with fail
      go_loopw [5, 7] (fun v i w' => ∃ k : Nat, k ≤ 8 ∧ i = .int .i64 ((k : Int) + 1) ∧ Fr w.heap.size (· = b) w w' ∧ RefAt w' b (Tab.leave2 p X.2 k).2 ∧ w'.ownsRow w.heap.size 59 5 v (X.1 ++ (Tab.leave2 p X.2 k).1).length ((X.1 ++ (Tab.leave2 p X.2 k).1).flatMap turnCells)) (fun _ i _ => 9 - (intOf i).toNat)
      case atStart => exact ⟨0, by omega, rfl, HFR.out, by rw [HL20.out]; exact HREF.out, by rw [HL20.out, List.append_nil]; exact HOWN.out⟩
      case round =>
        obtain ⟨k, hk, rfl, hfr, href, hown⟩ := hrel
        clear HFR HREF HOWN HL20 hsz
        have HFR := Lib.hid hfr
        have HREF := Lib.hid href
        have HOWN := Lib.hid hown
        have hsz := hfr.size
        clear hfr href hown
        by_cases hk9 : k < 8
        · have HS := Lib.hid (HL2.out k)
          have HGL2 := (HLF.out k).2.2
          have HGN := endSource_len (Tab.leave2 p X.2 k).2 ((k : Int) + 1)
          have CO := Lib.hid (Owner_any b (Tab.leave2 p X.2 k).2 ((k : Int) + 1) wr HREF.out)
          by_cases ho : (Tab.leave2 p X.2 k).2.owner ((k : Int) + 1) = p
          · have HF : Hid (Tab.leave2 p X.2 (k + 1) = ((Tab.leave2 p X.2 k).1 ++ ((Tab.leave2 p X.2 k).2.endSource ((k : Int) + 1)).1, ((Tab.leave2 p X.2 k).2.endSource ((k : Int) + 1)).2)) := by show _ = _; rw [HS.out, if_pos ho]
            have CG : Hid (∀ w1, Below wr.heap.size wr w1 → Calls Tryd.prog 38 #[.pointer (some ⟨b, 0, none⟩), .int .i64 ((k : Int) + 1)] w1 fun e w' => (∃ v, e = .returned v ∧ TurnRow w' v ((Tab.leave2 p X.2 k).2.endSource ((k : Int) + 1)).1) ∧ RefAt w' b ((Tab.leave2 p X.2 k).2.endSource ((k : Int) + 1)).2 ∧ Fr w1.heap.size (· = b) w1 w') :=
              fun w1 h => endSource_any b (Tab.leave2 p X.2 k).2 ((k : Int) + 1) w1 (HREF.out.below h) (HLF.out k).2.1 (owner_has (by omega) ho)
            rw [ho] at CO
            clear ho
            generalize (Tab.leave2 p X.2 k).2.endSource ((k : Int) + 1) = Y at *
            generalize Tab.leave2 p X.2 k = G at *
            go_wp2_with (first | (go_at_call 51; (with_reducible refine CO.out.mono ?_); rintro e w1 ⟨rfl, hb1⟩; have HB1 := Lib.hid hb1; have hsz1 := hb1.size; clear hb1) | (go_at_call 38; (with_reducible refine (CG.out _ HB1.out).mono ?_); rintro e w2 ⟨⟨tv, rfl, htr⟩, href2, hfr2⟩; have HTR := Lib.hid htr; have HREF2 := Lib.hid href2; have HFR2 := Lib.hid hfr2; have hsz2 := hfr2.size; clear href2 hfr2 htr) | (at_builtin; refine wpList_app rfl (.tmp 34) (.tmp 37) 33 rfl w.heap.size elemTurn _ (X.1 ++ G.1).length ((X.1 ++ G.1).flatMap turnCells) rfl ?b1 _ Y.1.length (Y.1.flatMap turnCells) rfl ?b2 ?b3 ?b4 ?b5 ?b6 ?b7 (fun v' w3 HO HG => ?_)))
            case b1 => exact owns_fr (owns_below HOWN.out HB1.out) HFR2.out (fun k hk => by omega)
            case b2 => exact HTR.out
            case b3 => exact turns_len _
            case b4 => exact turns_one _
            case b5 => simp; omega
            case b6 => simp; omega
            case b7 => omega
            go_roundw
            case rel =>
              repeat apply Exists.intro
              refine ⟨⟨k + 1, by omega, by go_num, ?_, ?_, ?_⟩, rfl⟩
              · have h2 := HFR.out.trans ((Fr.of_below (· = b) HB1.out).mono (by omega) (fun _ _ h => h))
                have h3 := h2.trans (HFR2.out.mono (by omega) (fun _ _ h => h))
                exact h3.grown HG.out (by omega) (own_le HOWN.out)
              · rw [HF.out]
                exact RefAt.grown HREF2.out (owns_fr (owns_below HOWN.out HB1.out) HFR2.out (fun k hk => by omega)) HG.out hb
              · rw [HF.out]
                dsimp only
                rw [← List.append_assoc, List.length_append, List.flatMap_append]
                exact HO.out
            case measure => simp [intOf]; omega
          · have HF : Hid (Tab.leave2 p X.2 (k + 1) = Tab.leave2 p X.2 k) := by show _ = _; rw [HS.out, if_neg ho]
            have hbq : ((Tab.leave2 p X.2 k).2.owner ((k : Int) + 1) == p) = false := by rw [beq_eq_false_iff_ne]; exact ho
            clear ho
            generalize (Tab.leave2 p X.2 k).2.owner ((k : Int) + 1) = q at *
            generalize Tab.leave2 p X.2 k = G at *
            go_wp2_with (go_at_call 51; (with_reducible refine CO.out.mono ?_); rintro e w1 ⟨rfl, hb1⟩)
            go_roundw
            case rel =>
              repeat apply Exists.intro
              exact ⟨⟨k + 1, by omega, by go_num, HFR.out.trans ((Fr.of_below (· = b) hb1).mono hsz (fun _ _ h => h)), by rw [HF.out]; exact HREF.out.below hb1, by rw [HF.out]; exact owns_below HOWN.out hb1⟩, rfl⟩
            case measure => simp [intOf]; omega
        · obtain rfl : k = 8 := by omega
          obtain ⟨hpe, hsm3, -⟩ := HLF.out 8
          rw [HPE.out] at hpe
          clear HL2 HLF HPE HSM2
          generalize Tab.leave2 p X.2 8 = G at *
          have hsa : 0 ≤ G.2.peerAt p := by rw [peerAt_iff, hpe, ← peerAt_iff]; exact HPA.out
          obtain ⟨m, hm, hme, -, -⟩ := findAt_at hsa
          have hme : G.2.peerAt p = m := hme
          have cb := PeerAt_any b G.2 p wr HREF.out
          rw [hme] at cb
          have CB := Lib.hid cb
          have HE : Hid (G.2.noPeer p = { G.2 with peers := G.2.peers.take m ++ G.2.peers.drop (m + 1) }) := by show _ = _; unfold Tab.noPeer; rw [hme, Int.toNat_natCast, List.eraseIdx_eq_take_drop_succ]
          have hsl := hsm3.peers
          unfold small at hsl
          clear cb hme hsa hsm3 hpe
          go_wp2_with fail
          (with_reducible refine CB.out.mono ?_)
          rintro e V ⟨rfl, hbV⟩
          have HRV := Lib.hid (HREF.out.below hbV)
          have HFV : Hid (Fr w.heap.size (· = b) w V) := HFR.out.trans ((Fr.of_below _ hbV).mono hsz (fun _ _ h => h))
          have HOV := Lib.hid (owns_below HOWN.out hbV)
          have hszV : w.heap.size ≤ V.heap.size := Nat.le_trans hsz hbV.size
          clear hbV CB
          obtain ⟨pv, sv, uv, hcell, htab⟩ := HRV.out.vals
          have hrowS := htab.peers
          obtain ⟨a, cap, rfl, hncap, hcm, -, -⟩ := id hrowS
          obtain ⟨a1, run1, row1, -⟩ := slice_to elemPeer a G.2.peers.length cap m (by omega)
          obtain ⟨a2, run2, row2, -⟩ := slice_from elemPeer a G.2.peers.length cap (m + 1) (by omega) hncap
          rw [show (((m + 1 : Nat) : Int)) = (m : Int) + 1 by omega] at run2
          have HW1 : Hid (∀ w', Below V.heap.size V w' → Row w' 66 (.slice a1 m cap) m ((G.2.peers.take m).flatMap peerCells)) := fun w' h => by
            have := row1 w' _ (by omega) (peers_len _) (hrowS.below h)
            rwa [flat_take peerCells 2 (fun _ => rfl)] at this
          have HW2 : Hid (∀ w', Below V.heap.size V w' → Row w' 66 (.slice a2 (G.2.peers.length - (m + 1)) (cap - (m + 1))) (G.2.peers.length - (m + 1)) ((G.2.peers.drop (m + 1)).flatMap peerCells)) := fun w' h => by
            have := row2 w' _ (peers_len _) (hrowS.below h)
            rwa [flat_drop peerCells 2 (fun _ => rfl)] at this
          have HL1 : Hid (((G.2.peers.take m).flatMap peerCells).length = m * 2) := by show _ = _; rw [peers_len, List.length_take, Nat.min_eq_left (by omega)]
          have HL2 : Hid (((G.2.peers.drop (m + 1)).flatMap peerCells).length = (G.2.peers.length - (m + 1)) * 2) := by show _ = _; rw [peers_len, List.length_drop]
          have HL3 : Hid ((G.2.peers.take m ++ G.2.peers.drop (m + 1)).length = m + (G.2.peers.length - (m + 1))) := by show _ = _; rw [List.length_append, List.length_take, List.length_drop, Nat.min_eq_left (by omega)]
          have HC : Hid (∀ w', Below V.heap.size V w' → w'.cell? ⟨b, 0, none⟩ = some (.slice a G.2.peers.length cap)) := fun w' h => (h.cell (p := ⟨b, 0, none⟩) (by dsimp only; omega)).trans (cell_of hcell 0)
          have hfz := HRV.out.unfrozen 0
          have HFZ : Hid (∀ w', Below V.heap.size V w' → w'.frozen? ⟨b, 0, none⟩ = false) := fun w' h => (h.frozen (p := ⟨b, 0, none⟩) (by dsimp only; omega)).trans hfz
          have hk1 : m + 1 ≤ G.2.peers.length := hm
          have hw1 : IntKind.i64.wrap ((m : Int) + 1) = (m : Int) + 1 := IntWalk.i64_in _ (by omega)
          have hc1 := HC.out V (Below.refl _ _)
          have hb0 : Below V.heap.size V V := Below.refl _ _
          clear hfz htab hcell hrowS row1 row2 hm
          generalize G.2.peers.length = N at *
          go_wp2_with fail
          go_region_law (first | (refine step_app (by rfl) (.const (.slice none 0 0)) (.tmp 48) 28 (by rfl) V.heap.size elemPeer (.slice none 0 0) 0 [] (by rfl) (World.ownsRow_nil _ _ _ _) (.slice a1 m cap) m ((G.2.peers.take m).flatMap peerCells) (by rfl) ?_ HL1.out (peers_one _) (by omega) (by omega) ?_ ?_; (exact HW1.out _ (by first | with_reducible assumption | exact Below.drew (by with_reducible assumption))); (exact Below.size (by first | with_reducible assumption | exact Below.drew (by with_reducible assumption))); intro v1 w2 HQ1 HG1; have hbl2 : Below V.heap.size V w2 := Below.grown (by first | with_reducible assumption | exact Below.drew (by with_reducible assumption)) HG1.out (Below.size (by first | with_reducible assumption | exact Below.drew (by with_reducible assumption))) (own_le (World.ownsRow_nil V _ 66 2)); have c2 := HC.out _ hbl2) | (refine step_app (by rfl) (.tmp 49) (.tmp 56) 28 (by rfl) V.heap.size elemPeer v1 (0 + m) ([] ++ (G.2.peers.take m).flatMap peerCells) (by rfl) ?_ (.slice a2 (N - (m + 1)) (cap - (m + 1))) (N - (m + 1)) ((G.2.peers.drop (m + 1)).flatMap peerCells) (by rfl) ?_ HL2.out (peers_one _) (by omega) (by omega) ?_ ?_; (first | exact HQ1.out | exact owns_drew HQ1.out); (exact HW2.out _ (by first | with_reducible assumption | exact Below.drew (by with_reducible assumption))); (exact Below.size (by first | with_reducible assumption | exact Below.drew (by with_reducible assumption))); intro v2 w3 HQ2 HG2; have hbl3 : Below V.heap.size V w3 := Below.grown (by first | with_reducible assumption | exact Below.drew (by with_reducible assumption)) HG2.out (Below.size (by first | with_reducible assumption | exact Below.drew (by with_reducible assumption))) (own_le HQ1.out); have c3 := HC.out _ hbl3; have f3 := HFZ.out _ hbl3; obtain ⟨va, vc, hv⟩ := own_form HQ2.out; subst hv))
          all_goals
            go_wp2
            go_ret
            have hrow := Row.of_owns HQ2.out
            rw [List.nil_append, ← List.flatMap_append, Nat.zero_add] at hrow
            have hr3 : RefAt w3 b G.2 := HRV.out.below hbl3
            have hlen2 : m + (N - (m + 1)) = (G.2.peers.take m ++ G.2.peers.drop (m + 1)).length := by rw [HL3.out]
            rw [hlen2] at hrow
            have hr4 := hr3.setPeers hrow
            rw [← hlen2] at hr4
            refine ⟨⟨_, rfl, ?_⟩, ?_, ?_⟩
            · rw [HL0.out]
              exact (((Row.of_owns HOV.out).below hbl3).fr ((Fr.refl w3.heap.size (· = b) w3).setAt _ _) (Nat.le_refl _) (hr3.typ (by decide)))
            · rw [HL0.out]
              dsimp only
              rw [HE.out]
              exact hr4
            · exact (HFV.out.trans ((Fr.of_below _ hbl3).mono hszV (fun _ _ h => h))).setAt _ _
end Go.Proofs.Rm
namespace Go.Proofs.Rm
open Go.RowKit Go.Proofs.Heap Go.Proofs.Mem
set_option maxRecDepth 100000 in
set_option maxHeartbeats 4000000 in
theorem rGone_any (b : Nat) (T : Tab) (p x : Int) (w : World) (hR : RefAt w b T) (hsm : T.Small) :
    Calls Tryd.prog 30 #[.pointer (some ⟨b, 0, none⟩), .int .i64 p, .int .u32 x] w fun e w' => (∃ v, e = .returned (.tuple #[v, .int .i64 (T.goneOp p x).2]) ∧ TurnRow w' v (T.goneOp p x).1.1) ∧ RefAt w' b (T.goneOp p x).1.2 ∧ Fr w.heap.size (· = b) w w' := by
  have CO := Lib.hid (fun (w1 : World) (h : Below w.heap.size w w1) => rOf_any b T x w1 (hR.below h))
  have CP := Lib.hid (fun (w1 : World) (h : Below w.heap.size w w1) => PeerAt_any b T p w1 (hR.below h))
  have CW := Lib.hid (fun (w1 : World) (h : Below w.heap.size w w1) => Owner_any b T (T.of x).1 w1 (hR.below h))
  have CE := Lib.hid (fun (w1 : World) (h : Below w.heap.size w w1) (hs : 0 ≤ T.srcAt (T.of x).1) => endSource_any b T (T.of x).1 w1 (hR.below h) hsm hs)
  have HG : Hid (T.goneOp p x = if !(T.of x).2.2 || decide (T.peerAt p < 0) || decide (T.owner (T.of x).1 ≠ p) then (([], T), 8) else (T.endSource (T.of x).1, 0)) := rfl
  have HR := Lib.hid hR
  have HSRC : Hid ((T.of x).2.2 = true → 0 ≤ T.srcAt (T.of x).1) := fun h => by
    unfold Tab.of at h ⊢
    by_cases hh : T.hasAt x < 0
    · rw [if_pos hh] at h; cases h
    · rw [if_neg hh]
      obtain ⟨k, hk, hke, -, -⟩ := findAt_at (show 0 ≤ T.hasAt x by omega)
      have hke : T.hasAt x = k := hke
      dsimp only
      rw [hke, Int.toNat_natCast, srcAt_iff, List.getD_eq_getElem?_getD, List.getElem?_eq_getElem hk]
      exact ⟨T.srcs[k], List.getElem_mem hk, rfl⟩
  clear hR hsm
  generalize T.goneOp p x = gv at *
  generalize T.of x = O at *
  obtain ⟨o1, o2, o3⟩ := O
  dsimp only at *
  generalize T.peerAt p = pa at *
  generalize T.owner o1 = ow at *
  cases o3
  · have HF : Hid (gv = (([], T), 8)) := by show _ = _; rw [HG.out]; rfl
    go_enter Tryd.func30, Tryd.ntmps30
    go_wp2_with (go_at_call 15; (with_reducible refine (CO.out _ (Below.refl _ _)).mono ?_); rintro e w1 ⟨rfl, hb1⟩)
    go_ret2
    rw [HF.out]
    exact ⟨⟨_, rfl, Row.nil _ _⟩, HR.out.below hb1, Fr.of_below _ hb1⟩
  · have hs := HSRC.out rfl
    by_cases h1 : pa < 0
    · have HF : Hid (gv = (([], T), 8)) := by show _ = _; rw [HG.out, decide_eq_true h1]; rfl
      go_enter Tryd.func30, Tryd.ntmps30
      go_wp2_with (first | (go_at_call 15; (with_reducible refine (CO.out _ (Below.refl _ _)).mono ?_); rintro e w1 ⟨rfl, hb1⟩) | (go_at_call 21; (with_reducible refine (CP.out _ hb1).mono ?_); rintro e w2 ⟨rfl, hb2⟩))
      go_ret2
      rw [HF.out]
      have hb := hb1.trans (hb2.mono hb1.size)
      exact ⟨⟨_, rfl, Row.nil _ _⟩, HR.out.below hb, Fr.of_below _ hb⟩
    have h1p : 0 ≤ pa := by omega
    have h1d : decide (pa < 0) = false := decide_eq_false h1
    by_cases h2 : ow = p
    · subst h2
      have HF : Hid (gv = (T.endSource o1, 0)) := by show _ = _; rw [HG.out, h1d]; simp
      generalize T.endSource o1 = Y at *
      go_enter Tryd.func30, Tryd.ntmps30
      go_wp2_with (first | (go_at_call 15; (with_reducible refine (CO.out _ (Below.refl _ _)).mono ?_); rintro e w1 ⟨rfl, hb1⟩) | (go_at_call 21; (with_reducible refine (CP.out _ hb1).mono ?_); rintro e w2 ⟨rfl, hb2⟩; have hb12 := hb1.trans (hb2.mono hb1.size)) | (go_at_call 51; (with_reducible refine (CW.out _ hb12).mono ?_); rintro e w3 ⟨rfl, hb3⟩; have hb123 := hb12.trans (hb3.mono hb12.size)) | (go_at_call 38; (with_reducible refine (CE.out _ hb123 hs).mono ?_); rintro e w4 ⟨⟨tv, rfl, htr⟩, href, hfr⟩))
      go_ret2
      rw [HF.out]
      exact ⟨⟨_, rfl, htr⟩, href, (Fr.of_below _ hb123).trans (hfr.mono hb123.size (fun _ _ h => h))⟩
    · have HF : Hid (gv = (([], T), 8)) := by show _ = _; rw [HG.out, h1d]; simp [h2]
      have hbq : (ow == p) = false := by rw [beq_eq_false_iff_ne]; exact h2
      have hbq2 : (ow != p) = true := by rw [bne, hbq]; rfl
      go_enter Tryd.func30, Tryd.ntmps30
      go_wp2_with (first | (go_at_call 15; (with_reducible refine (CO.out _ (Below.refl _ _)).mono ?_); rintro e w1 ⟨rfl, hb1⟩) | (go_at_call 21; (with_reducible refine (CP.out _ hb1).mono ?_); rintro e w2 ⟨rfl, hb2⟩; have hb12 := hb1.trans (hb2.mono hb1.size)) | (go_at_call 51; (with_reducible refine (CW.out _ hb12).mono ?_); rintro e w3 ⟨rfl, hb3⟩; have hb123 := hb12.trans (hb3.mono hb12.size)))
      go_ret2
      rw [HF.out]
      exact ⟨⟨_, rfl, Row.nil _ _⟩, HR.out.below hb123, Fr.of_below _ hb123⟩
end Go.Proofs.Rm
