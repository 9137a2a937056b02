/- The walk of the law RoomAsks, out of the contracts. -/
import Derived.Test.YthlamfoldfeocaaDoorP21
import Derived.Deep.QuietTactic
import Derived.BigQuiet
import Derived.Deep.DeepCutAuto
set_option linter.unusedSimpArgs false
namespace Go.Proofs.Rm
open Go.RowKit Go.Proofs.Heap Go.Proofs.Mem
open Go.Proofs.Lab (may key Tabs)
/-- What Source tells of a source: its cells. -/
def srcAgg (s : TSrc) (v : Value) : Value := .agg #[.int .i64 s.num, .int .i64 s.own, v, .bool s.muted]
theorem Source_sim (b : Nat) (R : Room) (n : Int) (w : World) (hR : RoomAt w b R) (hI : Inv R) (hl : ∀ n, (R.src n).ss.length ≤ 1000000) :
    Calls Tryd.prog 16 #[.pointer (some ⟨b, 0, none⟩), .int .i64 n] w fun e w' =>
      (∃ (s : TSrc) (a : Option Addr) (c : Nat), e = .returned (.tuple #[.agg #[.int .i64 s.num, .int .i64 s.own, .slice a s.ss.length c, .bool s.muted], .bool (hasI R n)]) ∧ Row w' 23 (.slice a s.ss.length c) s.ss.length (u32s s.ss) ∧ (hasI R n = true → s = srcOf R n)) ∧ Below w.heap.size w w' := by
  cases hh : hasI R n
  · refine (Source_no b R n w hR hh).mono ?_
    rintro e w' ⟨rfl, hb⟩
    exact ⟨⟨⟨0, 0, [], false⟩, none, 0, rfl, Row.nil _ _, fun h => by cases h⟩, hb⟩
  · obtain ⟨h1, h2, h3⟩ := hasI_iff.1 hh
    obtain ⟨n, rfl⟩ := Int.eq_ofNat_of_zero_le (show 0 ≤ n by omega)
    rw [Int.toNat_natCast] at h3
    have hnum := (hI.srcAt n h3).2.2.1
    refine (Source_yes b R n w hR (by omega) h3 (hl n)).mono ?_
    rintro e w' ⟨⟨v', rfl, hrow⟩, hb⟩
    obtain ⟨a, c, rfl, -, -⟩ := id hrow
    refine ⟨⟨srcOf R n, a, c, ?_, ?_, fun _ => rfl⟩, hb⟩
    · unfold srcOf; rw [Int.toNat_natCast, hnum]
    · unfold srcOf; rw [Int.toNat_natCast]; exact hrow
theorem Sub_sim (b : Nat) (R : Room) (p n : Int) (w : World) (hR : RoomAt w b R) :
    Calls Tryd.prog 17 #[.pointer (some ⟨b, 0, none⟩), .int .i64 p, .int .i64 n] w fun e w' =>
      (∃ u : TSub, e = .returned (.tuple #[.agg #[.int .i64 u.peer, .int .i64 u.source, .int .i64 u.want, .bool u.paused], .bool (hears R p n)]) ∧ (hears R p n = true → u = subOf R p n)) ∧ Below w.heap.size w w' := by
  refine (Sub_any b R p n w hR).mono ?_
  rintro e w' ⟨rfl, hb⟩
  refine ⟨?_, hb⟩
  cases hh : hears R p n
  · exact ⟨⟨0, 0, 0, false⟩, rfl, fun h => by cases h⟩
  · exact ⟨subOf R p n, rfl, fun _ => rfl⟩
set_option maxRecDepth 100000 in
set_option maxHeartbeats 16000000 in
theorem RoomAsks_any (v : Value) (l : List OpV) (p n x : Int) (w : World) (hT : Tabs w) (hv : OpsR w v l)
    (hsh : ∀ w, Tabs w → Calls Tryd.prog 10 #[] w fun e w' => e = .returned (.bool true) ∧ Below w.heap.size w w') :
    Calls Tryd.prog 3 #[v, .int .i64 p, .int .i64 n, .int .u32 x] w fun e w' => e = .returned (.bool true) ∧ Below w.heap.size w w' := by
  have hlen := hv.row.len
  obtain ⟨va, vc, rfl, -, -⟩ := id hv.row
  have HSH := Lib.hid (hsh w hT)
  have HT : Hid (∀ w', Below w.heap.size w w' → Tabs w') := fun w' h => Utf8Tabs_below hT h
  have HV : Hid (∀ w', Below w.heap.size w w' → OpsR w' (.slice va l.length vc) l) := fun w' h => hv.below h
  clear hsh hT hv
  go_enter Tryd.func3, Tryd.ntmps3
  go_wp2_with fail
  refine HSH.out.mono ?_
  rintro e w1 ⟨rfl, hb1⟩
  have HB1 := Lib.hid hb1
  have hz1 := hb1.size
  clear hb1
  go_wp2_with fail
  refine (New_any _).mono ?_
  rintro e w2 ⟨rfl, hroom, hb2⟩
  have HB2 := Lib.hid (HB1.out.trans (hb2.mono HB1.out.size))
  have hbw : w.heap.size ≤ w1.heap.size := hz1
  have hbb : w.heap.size ≤ w2.heap.size := HB2.out.size
  have HB3 : Hid (Below w.heap.size w (w2.alloc (.cells #[.slice none 0 0, .slice none 0 0, .slice none 0 0] 32))) := HB2.out.alloc HB2.out.size _
  have HBOTH : Hid (Both (w2.alloc (.cells #[.slice none 0 0, .slice none 0 0, .slice none 0 0] 32)) w1.heap.size w2.heap.size empty ⟨[], [], []⟩) := ⟨inv_empty, slim_empty, hroom.below (below_alloc _ _), ref_new w2, sim_empty⟩
  clear hroom hb2
  generalize w1.heap.size = ba at *
  go_wp2_with fail
  go_loopw [11] (fun i w' => ∃ k : Nat, k ≤ l.length ∧ i = .int .i64 k ∧ Below w.heap.size w w' ∧ ∃ R T, Both w' ba w2.heap.size R T) (fun i _ => l.length - (intOf i).toNat)
  case atStart => exact ⟨0, Nat.zero_le _, rfl, HB3.out, empty, _, HBOTH.out⟩
  case round =>
    clear HBOTH HB3 HB2 HB1
    obtain ⟨k, hk, rfl, hbl, R, T, hboth⟩ := hrel
    have HBL := Lib.hid hbl
    have HBO := Lib.hid hboth
    have hsz := hbl.size
    have hal := hboth.room.lt
    have hbl2 := hboth.ref.lt
    generalize w2.heap.size = bb at *
    clear hbl hboth
    by_cases hkl : k < l.length ∧ k < 60
    · obtain ⟨hkl, hk60⟩ := hkl
      obtain ⟨g, off, rfl, hcells⟩ := opsR_at (HV.out _ HBL.out) (by omega)
      obtain ⟨c0, c1, c2, c3, c4, c5, c6⟩ := hcells k l[k] (List.getElem?_eq_getElem hkl)
      have HXR := Lib.hid (fun w' h => (HV.out w' h).each l[k] (List.getElem_mem hkl))
      have HCC := Lib.hid (fun w' (h : Below w.heap.size w w') => (show _ from by
        obtain ⟨g', off', e1, hc⟩ := opsR_at (HV.out _ h) (by omega)
        cases e1
        exact hc k l[k] (List.getElem?_eq_getElem hkl)))
      clear hcells
      generalize l[k] = y at *
      obtain ⟨o, xa, xc, ya, yl, yc⟩ := y
      dsimp only at c0 c1 c2 c3 c4 c5 c6 HXR HCC
      go_wp2_with fail
      refine (Do_any ba R o xa ya xc yl yc _ HBO.out.room HBO.out.inv (HT.out _ HBL.out) (HXR.out _ HBL.out).2 (HXR.out _ HBL.out).1).mono ?_
      rintro e w5 ⟨tv, sv, rfl, htr, hra5, hfr5⟩
      have HBL5 := Lib.hid (HBL.out.trans (fr_below hfr5 hbw HBL.out.size))
      have hrf5 := ref_room HBO.out.ref HBO.out.room hfr5
      have hI5 := inv_doo HBO.out.inv o sv
      have hS5 := slim_doo HBO.out.slim o sv
      have C2 := rDo_sim bb T R o sv xa ya xc yl yc w5 hrf5 HBO.out.sim HBO.out.inv (HT.out _ HBL5.out) (HXR.out _ HBL5.out).2 (HXR.out _ HBL5.out).1
      have HC2 := Lib.hid C2
      obtain ⟨d0, d1, d2, d3, d4, d5, d6⟩ := HCC.out _ HBL5.out
      have HI5 := Lib.hid hI5
      have HS5 := Lib.hid hS5
      have HRF5 := Lib.hid hrf5
      have HRA5 := Lib.hid hra5
      clear C2 hI5 hS5 hrf5 hra5 hfr5
      generalize doo R o sv = D at *
      obtain ⟨ta, tc, rfl, -, -⟩ := id htr
      clear htr
      go_wp2_with fail
      refine HC2.out.mono ?_
      rintro e w6 ⟨⟨uv, rfl, htr6⟩, ⟨T6, hrf6, hsim6⟩, hfr6⟩
      have HBL6 := Lib.hid (HBL5.out.trans (fr_below hfr6 hbb HBL5.out.size))
      have HB6 : Hid (Both w6 ba bb D.1.2 T6) := ⟨HI5.out, HS5.out, room_ref HRA5.out HRF5.out hfr6, hrf6, hsim6⟩
      obtain ⟨ua, uc, rfl, -, -⟩ := id htr6
      clear htr6 hrf6 hsim6 hfr6
      go_wp2
      go_roundw
      case rel => exact ⟨k + 1, by omega, by go_num, HBL6.out, D.1.2, T6, HB6.out⟩
      case measure => simp [intOf]; omega
    · have hcase : ¬ k < l.length ∨ (k < l.length ∧ ¬ k < 60) := by omega
      clear hkl HV HT
      have HO := Lib.hid (Of_any ba R x wr HBO.out.room)
      have HO2 := Lib.hid (fun w1 (h : RefAt w1 bb T) => rOf_any bb T x w1 h)
      rw [HBO.out.sim.of_eq HBO.out.inv] at HO2
      generalize of R x = O at *
      obtain ⟨o1, o2, o3⟩ := O
      dsimp only at HO HO2
      rcases hcase with h1 | ⟨h1, h2⟩
      all_goals
        go_wp2_with fail
        refine HO.out.mono ?_
        rintro e w3 ⟨rfl, hb3⟩
        have HB3 := Lib.hid (HBO.out.below hb3)
        have HL3 := Lib.hid (HBL.out.trans (hb3.mono HBL.out.size))
        clear hb3
        go_wp2_with fail
        refine (HO2.out _ HB3.out.ref).mono ?_
        rintro e w4 ⟨rfl, hb4⟩
        have HB4 := Lib.hid (HB3.out.below hb4)
        have HL4 := Lib.hid (HL3.out.trans (hb4.mono HL3.out.size))
        clear hb4
        go_wp2_with fail
        refine (Source_sim ba R n _ HB4.out.room HB4.out.inv HB4.out.slim.short).mono ?_
        rintro e w5 ⟨⟨s, sa, sc, rfl, hsr, hsy⟩, hb5⟩
        have HB5 := Lib.hid ((HB4.out.below hb5).below (below_alloc w5 (.cells #[.int .i64 s.num, .int .i64 s.own, .slice sa s.ss.length sc, .bool s.muted] 44)))
        have HL5 := Lib.hid ((HL4.out.trans (hb5.mono HL4.out.size)).trans ((below_alloc w5 (.cells #[.int .i64 s.num, .int .i64 s.own, .slice sa s.ss.length sc, .bool s.muted] 44)).mono (HL4.out.trans (hb5.mono HL4.out.size)).size))
        have HSR5 := Lib.hid (hsr.below (below_alloc w5 (.cells #[.int .i64 s.num, .int .i64 s.own, .slice sa s.ss.length sc, .bool s.muted] 44)))
        have HSB5 := Lib.hid (heap_new w5 (.cells #[.int .i64 s.num, .int .i64 s.own, .slice sa s.ss.length sc, .bool s.muted] 44))
        have HSY := Lib.hid hsy
        have hs5 := World.size_alloc w5 (.cells #[.int .i64 s.num, .int .i64 s.own, .slice sa s.ss.length sc, .bool s.muted] 44)
        clear hb5 hsr hsy
        go_upto_region 13 with fail
        generalize hW5 : w5.alloc (.cells #[.int .i64 s.num, .int .i64 s.own, .slice sa s.ss.length sc, .bool s.muted] 44) = W5 at *
        have hlt5 : w5.heap.size < W5.heap.size := by omega
        clear hW5 hs5
        generalize w5.heap.size = sb at *
        go_wp2_with fail
        refine (Sub_sim ba R p n _ HB5.out.room).mono ?_
        rintro e w6 ⟨⟨u, rfl, huy⟩, hb6⟩
        have HB6 := Lib.hid ((HB5.out.below hb6).below (below_alloc w6 (.cells #[.int .i64 u.peer, .int .i64 u.source, .int .i64 u.want, .bool u.paused] 48)))
        have HL6 := Lib.hid ((HL5.out.trans (hb6.mono HL5.out.size)).trans ((below_alloc w6 (.cells #[.int .i64 u.peer, .int .i64 u.source, .int .i64 u.want, .bool u.paused] 48)).mono (HL5.out.trans (hb6.mono HL5.out.size)).size))
        have HSR6 := Lib.hid ((HSR5.out.below hb6).below (below_alloc w6 (.cells #[.int .i64 u.peer, .int .i64 u.source, .int .i64 u.want, .bool u.paused] 48)))
        have HSB6 : Hid ((w6.alloc (.cells #[.int .i64 u.peer, .int .i64 u.source, .int .i64 u.want, .bool u.paused] 48)).heap[sb]? = some (.cells #[.int .i64 s.num, .int .i64 s.own, .slice sa s.ss.length sc, .bool s.muted] 44)) := by
          show _ = _
          rw [(below_alloc w6 _).block sb (Nat.lt_of_lt_of_le hlt5 hb6.size), hb6.block sb hlt5]; exact HSB5.out
        have HUB6 := Lib.hid (heap_new w6 (.cells #[.int .i64 u.peer, .int .i64 u.source, .int .i64 u.want, .bool u.paused] 48))
        have HUY := Lib.hid huy
        have hs6 := World.size_alloc w6 (.cells #[.int .i64 u.peer, .int .i64 u.source, .int .i64 u.want, .bool u.paused] 48)
        have hlt5' : sb < w6.heap.size := Nat.lt_of_lt_of_le hlt5 hb6.size
        clear hb6 huy
        go_upto_region 14 with fail
        generalize hW6 : w6.alloc (.cells #[.int .i64 u.peer, .int .i64 u.source, .int .i64 u.want, .bool u.paused] 48) = W6 at *
        have hlt6 : w6.heap.size < W6.heap.size := by omega
        have hltS : sb < W6.heap.size := by omega
        clear hW6 hs6 hlt5' hlt5
        generalize w6.heap.size = ub at *
        have E1 : hasI R n = decide (0 ≤ T.srcAt n) := by
          have h := HB6.out.sim.srcAt n
          cases hh : hasI R n
          · rw [hh] at h; rw [decide_eq_false (fun e => by have := h.1 e; cases this)]
          · rw [decide_eq_true (h.2 hh)]
        have E2 : hears R p n = decide (0 ≤ T.subAt p n) := by
          have h := HB6.out.sim.subAt p n
          cases hh : hears R p n
          · rw [hh] at h; rw [decide_eq_false (fun e => by have := h.1 e; cases this)]
          · rw [decide_eq_true (h.2 hh)]
        have E3 : joined R p = decide (0 ≤ T.peerAt p) := by
          have h := HB6.out.sim.peerAt p
          cases hh : joined R p
          · rw [hh] at h; rw [decide_eq_false (fun e => by have := h.1 e; cases this)]
          · rw [decide_eq_true (h.2 hh)]
        have HSX : Hid (hasI R n = true → ∃ (m : Nat) (hm : m < T.srcs.length), T.srcAt n = m ∧ T.srcs[m] = srcOf R n) := HB6.out.sim.src_yes
        have HUX : Hid (hears R p n = true → ∃ (m : Nat) (hm : m < T.subs.length), T.subAt p n = m ∧ T.subs[m] = subOf R p n) := HB6.out.sim.sub_yes
        have C1 := Lib.hid (SourceAt_any bb T n W6 HB6.out.ref)
        have C2 := Lib.hid (fun w1 (h : Below W6.heap.size W6 w1) => SubAt_any bb T p n w1 (HB6.out.ref.below h))
        have C3 := Lib.hid (fun w1 (h : Below W6.heap.size W6 w1) => Joined_any ba R p w1 (HB6.out.room.below h))
        have C4 := Lib.hid (fun w1 (h : Below W6.heap.size W6 w1) => PeerAt_any bb T p w1 (HB6.out.ref.below h))
        have CS := Lib.hid (fun w1 (h : Below W6.heap.size W6 w1) => Subs_any ba R n w1 (HB6.out.room.below h))
        have CH := Lib.hid (fun w1 (h : Below W6.heap.size W6 w1) => Hears_any bb T n w1 (HB6.out.ref.below h))
        rw [HB6.out.sim.hears_eq] at CH
        rw [E1] at HSX HSY
        rw [E2] at HUX HUY
        rw [E3] at C3
        rw [E1, E2]
        clear E1 E2 E3
        generalize T.srcAt n = si at *
        generalize T.subAt p n = ui at *
        generalize T.peerAt p = pi at *
        go_wp2_with (first | (go_at_call 18; (with_reducible refine C1.out.mono ?_); rintro e w7 ⟨rfl, hb7⟩) | (go_at_call 19; (with_reducible refine (C2.out _ hb7).mono ?_); rintro e w8 ⟨rfl, hb8⟩; have hb68 := hb7.trans (hb8.mono hb7.size)) | (go_at_call 20; (with_reducible refine (C3.out _ hb68).mono ?_); rintro e w8b ⟨rfl, rfl⟩) | (go_at_call 21; (with_reducible refine (C4.out _ hb68).mono ?_); rintro e w9 ⟨rfl, hb9⟩; have hb69 := hb68.trans (hb9.mono hb68.size)))
        have HB9 := Lib.hid hb69
        go_cut [149, 19, 21, 22, 23, 68, 71, 72, 73, 74, 78, 79, 80, 83, 87, 102, 103, 104, 108, 109, 110, 114, 115, 116, 117, 118, 119, 120, 121, 122] (fun s149 _ _ _ _ _ _ _ _ _ _ _ _ _ _ _ _ _ _ _ _ _ _ _ _ _ _ _ _ _ wx => s149 = .bool false ∧ Below W6.heap.size W6 wx)
        case first =>
          obtain ⟨pv, sv0, uv0, hcell, htab⟩ := HB6.out.ref.vals
          have hbbs := HB6.out.ref.lt
          have cS := cell_of hcell 1
          have cU := cell_of hcell 2
          have KS : Hid (0 ≤ si → ∃ (m NS : Nat) (gs offs pc : Nat) (ra : Option Addr) (rc : Nat) (sn so : Int) (sss : List Int) (sm : Bool), si = m ∧ m < NS ∧ s = ⟨sn, so, sss, sm⟩ ∧ ∀ w', Below W6.heap.size W6 w' → (w'.cell? ⟨sb, 0, none⟩ = some (.int .i64 sn) ∧ w'.cell? ⟨sb, 1, none⟩ = some (.int .i64 so) ∧ w'.cell? ⟨sb, 2, none⟩ = some (.slice sa sss.length sc) ∧ w'.cell? ⟨sb, 3, none⟩ = some (.bool sm) ∧ w'.cell? ⟨bb, 1, none⟩ = some (.slice (some ⟨gs, offs, none⟩) NS pc) ∧ w'.cell? ⟨gs, offs + m * 4, none⟩ = some (.int .i64 sn) ∧ w'.cell? ⟨gs, offs + m * 4 + 1, none⟩ = some (.int .i64 so) ∧ w'.cell? ⟨gs, offs + m * 4 + 2, none⟩ = some (.slice ra sss.length rc) ∧ w'.cell? ⟨gs, offs + m * 4 + 3, none⟩ = some (.bool sm)) ∧ Row w' 23 (.slice ra sss.length rc) sss.length (u32s sss)) := fun h0 => by
            obtain ⟨m, hm, hsi, hTm⟩ := HSX.out (decide_eq_true h0)
            obtain ⟨P, hms, hrowS, hrs⟩ := htab.srcs
            have hm' : m < P.length := by rw [← hms, List.length_map] at hm; exact hm
            obtain ⟨pa, pc, rfl, -, -⟩ := id hrowS
            obtain ⟨gs, offs, e1, hc⟩ := tsrc_at hrowS (by omega)
            subst e1
            obtain ⟨d0, d1, d2, d3⟩ := hc m P[m] (List.getElem?_eq_getElem hm')
            have hg := below_lt d0
            have hr := hrs P[m] (List.getElem_mem hm')
            obtain ⟨ra, rc, hv, -, -⟩ := id hr
            rw [hv] at d2 hr
            have hPs : P[m].1 = s := by
              have : (P.map Prod.fst)[m]? = T.srcs[m]? := by rw [hms]
              rw [List.getElem?_map, List.getElem?_eq_getElem hm', List.getElem?_eq_getElem hm] at this
              simp at this
              rw [this, hTm, HSY.out (decide_eq_true h0)]
            rw [hPs] at d0 d1 d2 d3 hr
            have hsb := HSB6.out
            obtain ⟨sn, so, sss, sm⟩ := s
            refine ⟨m, P.length, gs, offs, pc, ra, rc, sn, so, sss, sm, hsi, hm', rfl, fun w' h => ⟨⟨(h.cell (p := ⟨sb, 0, none⟩) hltS).trans (cell_of hsb 0), (h.cell (p := ⟨sb, 1, none⟩) hltS).trans (cell_of hsb 1), (h.cell (p := ⟨sb, 2, none⟩) hltS).trans (cell_of hsb 2), (h.cell (p := ⟨sb, 3, none⟩) hltS).trans (cell_of hsb 3), (h.cell (p := ⟨bb, 1, none⟩) hbbs).trans cS, (h.cell (p := ⟨gs, offs + m * 4, none⟩) hg).trans d0, (h.cell (p := ⟨gs, offs + m * 4 + 1, none⟩) hg).trans d1, (h.cell (p := ⟨gs, offs + m * 4 + 2, none⟩) hg).trans d2, (h.cell (p := ⟨gs, offs + m * 4 + 3, none⟩) hg).trans d3⟩, hr.below h⟩⟩
          have KU : Hid (0 ≤ ui → ∃ (j NU : Nat) (gu offu uc2 : Nat) (up un uw : Int) (uq : Bool), ui = j ∧ j < NU ∧ u = ⟨up, un, uw, uq⟩ ∧ ∀ w', Below W6.heap.size W6 w' → (w'.cell? ⟨ub, 0, none⟩ = some (.int .i64 up) ∧ w'.cell? ⟨ub, 1, none⟩ = some (.int .i64 un) ∧ w'.cell? ⟨ub, 2, none⟩ = some (.int .i64 uw) ∧ w'.cell? ⟨ub, 3, none⟩ = some (.bool uq) ∧ w'.cell? ⟨bb, 2, none⟩ = some (.slice (some ⟨gu, offu, none⟩) NU uc2) ∧ w'.cell? ⟨gu, offu + j * 4, none⟩ = some (.int .i64 up) ∧ w'.cell? ⟨gu, offu + j * 4 + 1, none⟩ = some (.int .i64 un) ∧ w'.cell? ⟨gu, offu + j * 4 + 2, none⟩ = some (.int .i64 uw) ∧ w'.cell? ⟨gu, offu + j * 4 + 3, none⟩ = some (.bool uq))) := fun h0 => by
            obtain ⟨j, hj, hui, hTj⟩ := HUX.out (decide_eq_true h0)
            have hrowU := htab.subs
            obtain ⟨pa, pc, rfl, -, -⟩ := id hrowU
            obtain ⟨gu, offu, e1, hc⟩ := tsub_at hrowU (by omega)
            subst e1
            obtain ⟨d0, d1, d2, d3⟩ := hc j T.subs[j] (List.getElem?_eq_getElem hj)
            have hg := below_lt d0
            rw [hTj, ← HUY.out (decide_eq_true h0)] at d0 d1 d2 d3
            have hub := HUB6.out
            obtain ⟨up, un, uw, uq⟩ := u
            exact ⟨j, T.subs.length, gu, offu, pc, up, un, uw, uq, hui, hj, rfl, fun w' h => ⟨(h.cell (p := ⟨ub, 0, none⟩) hlt6).trans (cell_of hub 0), (h.cell (p := ⟨ub, 1, none⟩) hlt6).trans (cell_of hub 1), (h.cell (p := ⟨ub, 2, none⟩) hlt6).trans (cell_of hub 2), (h.cell (p := ⟨ub, 3, none⟩) hlt6).trans (cell_of hub 3), (h.cell (p := ⟨bb, 2, none⟩) hbbs).trans cU, (h.cell (p := ⟨gu, offu + j * 4, none⟩) hg).trans d0, (h.cell (p := ⟨gu, offu + j * 4 + 1, none⟩) hg).trans d1, (h.cell (p := ⟨gu, offu + j * 4 + 2, none⟩) hg).trans d2, (h.cell (p := ⟨gu, offu + j * 4 + 3, none⟩) hg).trans d3⟩⟩
          have hbw9 : Below W6.heap.size W6 w9 := HB9.out
          clear hcell htab cS cU hb69 hb68 hb7 hb8 hb9
          by_cases hsi : 0 ≤ si
          · obtain ⟨m, NS, gs, offs, pc, ra, rc, sn, so, sss, sm, rfl, hmN, rfl, hks⟩ := KS.out hsi
            have CSS := Lib.hid (fun w1 (h : Below W6.heap.size W6 w1) => SameSource_any ⟨sn, so, sss, sm⟩ ⟨sn, so, sss, sm⟩ sa ra sc rc w1 (HSR6.out.below h) (hks w1 h).2)
            have KEEPS : Hid (∀ w', Below W6.heap.size W6 w' → w'.cell? ⟨sb, 0, none⟩ = some (.int .i64 sn) ∧ w'.cell? ⟨sb, 1, none⟩ = some (.int .i64 so) ∧ w'.cell? ⟨sb, 2, none⟩ = some (.slice sa sss.length sc) ∧ w'.cell? ⟨sb, 3, none⟩ = some (.bool sm) ∧ w'.cell? ⟨bb, 1, none⟩ = some (.slice (some ⟨gs, offs, none⟩) NS pc) ∧ w'.cell? ⟨gs, offs + m * 4, none⟩ = some (.int .i64 sn) ∧ w'.cell? ⟨gs, offs + m * 4 + 1, none⟩ = some (.int .i64 so) ∧ w'.cell? ⟨gs, offs + m * 4 + 2, none⟩ = some (.slice ra sss.length rc) ∧ w'.cell? ⟨gs, offs + m * 4 + 3, none⟩ = some (.bool sm) ∧ Below W6.heap.size W6 w') := fun w' h => by
              obtain ⟨⟨a1, a2, a3, a4, a5, a6, a7, a8, a9⟩, -⟩ := hks w' h
              exact ⟨a1, a2, a3, a4, a5, a6, a7, a8, a9, h⟩
            rw [decide_eq_true rfl] at CSS
            dsimp only at CSS
            have hmI : (m : Int) < (NS : Int) := Int.ofNat_lt.2 hmN
            have hm0 : (0 : Int) ≤ (m : Int) := Int.natCast_nonneg m
            have hdm : decide ((0 : Int) ≤ (m : Int)) = true := decide_eq_true hm0
            rw [hdm]
            have HKS := Lib.hid hks
            clear hks KS hsi hdm hmN
            by_cases hui : 0 ≤ ui
            · obtain ⟨j, NU, gu, offu, uc2, up, un, uw, uq, rfl, hjN, rfl, hku⟩ := KU.out hui
              have KEEPB : Hid (∀ w', Below W6.heap.size W6 w' → w'.cell? ⟨sb, 0, none⟩ = some (.int .i64 sn) ∧ w'.cell? ⟨sb, 1, none⟩ = some (.int .i64 so) ∧ w'.cell? ⟨sb, 2, none⟩ = some (.slice sa sss.length sc) ∧ w'.cell? ⟨sb, 3, none⟩ = some (.bool sm) ∧ w'.cell? ⟨bb, 1, none⟩ = some (.slice (some ⟨gs, offs, none⟩) NS pc) ∧ w'.cell? ⟨gs, offs + m * 4, none⟩ = some (.int .i64 sn) ∧ w'.cell? ⟨gs, offs + m * 4 + 1, none⟩ = some (.int .i64 so) ∧ w'.cell? ⟨gs, offs + m * 4 + 2, none⟩ = some (.slice ra sss.length rc) ∧ w'.cell? ⟨gs, offs + m * 4 + 3, none⟩ = some (.bool sm) ∧ w'.cell? ⟨ub, 0, none⟩ = some (.int .i64 up) ∧ w'.cell? ⟨ub, 1, none⟩ = some (.int .i64 un) ∧ w'.cell? ⟨ub, 2, none⟩ = some (.int .i64 uw) ∧ w'.cell? ⟨ub, 3, none⟩ = some (.bool uq) ∧ w'.cell? ⟨bb, 2, none⟩ = some (.slice (some ⟨gu, offu, none⟩) NU uc2) ∧ w'.cell? ⟨gu, offu + j * 4, none⟩ = some (.int .i64 up) ∧ w'.cell? ⟨gu, offu + j * 4 + 1, none⟩ = some (.int .i64 un) ∧ w'.cell? ⟨gu, offu + j * 4 + 2, none⟩ = some (.int .i64 uw) ∧ w'.cell? ⟨gu, offu + j * 4 + 3, none⟩ = some (.bool uq) ∧ Below W6.heap.size W6 w') := fun w' h => by
                obtain ⟨a1, a2, a3, a4, a5, a6, a7, a8, a9, -⟩ := KEEPS.out w' h
                obtain ⟨b1, b2, b3, b4, b5, b6, b7, b8, b9⟩ := hku w' h
                exact ⟨a1, a2, a3, a4, a5, a6, a7, a8, a9, b1, b2, b3, b4, b5, b6, b7, b8, b9, h⟩
              have hjI : (j : Int) < (NU : Int) := Int.ofNat_lt.2 hjN
              have hj0 : (0 : Int) ≤ (j : Int) := Int.natCast_nonneg j
              have hdj : decide ((0 : Int) ≤ (j : Int)) = true := decide_eq_true hj0
              rw [hdj]
              clear hku KU hui hdj hjN
              (first | go_region_held3 (fun w' => w'.cell? ⟨sb, 0, none⟩ = some (.int .i64 sn) ∧ w'.cell? ⟨sb, 1, none⟩ = some (.int .i64 so) ∧ w'.cell? ⟨sb, 2, none⟩ = some (.slice sa sss.length sc) ∧ w'.cell? ⟨sb, 3, none⟩ = some (.bool sm) ∧ w'.cell? ⟨bb, 1, none⟩ = some (.slice (some ⟨gs, offs, none⟩) NS pc) ∧ w'.cell? ⟨gs, offs + m * 4, none⟩ = some (.int .i64 sn) ∧ w'.cell? ⟨gs, offs + m * 4 + 1, none⟩ = some (.int .i64 so) ∧ w'.cell? ⟨gs, offs + m * 4 + 2, none⟩ = some (.slice ra sss.length rc) ∧ w'.cell? ⟨gs, offs + m * 4 + 3, none⟩ = some (.bool sm) ∧ w'.cell? ⟨ub, 0, none⟩ = some (.int .i64 up) ∧ w'.cell? ⟨ub, 1, none⟩ = some (.int .i64 un) ∧ w'.cell? ⟨ub, 2, none⟩ = some (.int .i64 uw) ∧ w'.cell? ⟨ub, 3, none⟩ = some (.bool uq) ∧ w'.cell? ⟨bb, 2, none⟩ = some (.slice (some ⟨gu, offu, none⟩) NU uc2) ∧ w'.cell? ⟨gu, offu + j * 4, none⟩ = some (.int .i64 up) ∧ w'.cell? ⟨gu, offu + j * 4 + 1, none⟩ = some (.int .i64 un) ∧ w'.cell? ⟨gu, offu + j * 4 + 2, none⟩ = some (.int .i64 uw) ∧ w'.cell? ⟨gu, offu + j * 4 + 3, none⟩ = some (.bool uq) ∧ Below W6.heap.size W6 w') (first | (exact KEEPB.out _ (by first | with_reducible assumption | exact Below.drew (by with_reducible assumption))) | go_keep) (first | (go_at_call 22; go_split_ands; (with_reducible refine Calls.mono (CSS.out _ (by first | with_reducible assumption | exact Below.drew (by with_reducible assumption))) ?_); rintro e wz ⟨rfl, hbz⟩; have hbz2 := Heap.Below.call (by first | with_reducible assumption | exact Below.drew (by with_reducible assumption)) (Nat.le_refl _) hbz) | fail) | fail)
              all_goals (go_wp2_with fail; go_meet; exact ⟨rfl, by first | with_reducible assumption | exact Below.drew (by with_reducible assumption)⟩)
            · have hdu : decide (0 ≤ ui) = false := decide_eq_false hui
              rw [hdu]
              clear KU hui hdu
              refine wp_region_noPanic ?_
              refine wp_region_held_drew (S := (fun w' => w'.cell? ⟨sb, 0, none⟩ = some (.int .i64 sn) ∧ w'.cell? ⟨sb, 1, none⟩ = some (.int .i64 so) ∧ w'.cell? ⟨sb, 2, none⟩ = some (.slice sa sss.length sc) ∧ w'.cell? ⟨sb, 3, none⟩ = some (.bool sm) ∧ w'.cell? ⟨bb, 1, none⟩ = some (.slice (some ⟨gs, offs, none⟩) NS pc) ∧ w'.cell? ⟨gs, offs + m * 4, none⟩ = some (.int .i64 sn) ∧ w'.cell? ⟨gs, offs + m * 4 + 1, none⟩ = some (.int .i64 so) ∧ w'.cell? ⟨gs, offs + m * 4 + 2, none⟩ = some (.slice ra sss.length rc) ∧ w'.cell? ⟨gs, offs + m * 4 + 3, none⟩ = some (.bool sm) ∧ Below W6.heap.size W6 w')) (by kernel_rfl) ?_ (fun hHeld => ?_)
              · (try dsimp only)
                (first | (exact KEEPS.out _ (by first | with_reducible assumption | exact Below.drew (by with_reducible assumption))) | go_keep)
              refine wpAnyH_take (i := 0) (v := ?_) rfl (by kernel_rfl) (by kernel_rfl) (by kernel_rfl) (fun _ _ _ h => h) (Or.inl ⟨by rfl, ?_⟩) (by assumption) ?_
              rotate_left
              · intro w hSw
                (try dsimp only at hSw)
                go_simp
                try with_reducible rfl
              try simp only [List.getElem_toArray, List.getElem_cons_succ, List.getElem_cons_zero, Act.put, List.setIfInBounds_toArray, List.set_cons_zero, List.set_cons_succ]
              refine wpAnyH_take (i := 1) (v := ?_) rfl (by kernel_rfl) (by kernel_rfl) (by kernel_rfl) (fun _ _ _ h => h) (Or.inl ⟨by rfl, ?_⟩) (by assumption) ?_
              rotate_left
              · intro w hSw
                (try dsimp only at hSw)
                go_simp
                try with_reducible rfl
              try simp only [List.getElem_toArray, List.getElem_cons_succ, List.getElem_cons_zero, Act.put, List.setIfInBounds_toArray, List.set_cons_zero, List.set_cons_succ]
              refine wpAnyH_take (i := 2) (v := ?_) rfl (by kernel_rfl) (by kernel_rfl) (by kernel_rfl) (fun _ _ _ h => h) (Or.inl ⟨by rfl, ?_⟩) (by assumption) ?_
              rotate_left
              · intro w hSw
                (try dsimp only at hSw)
                go_simp
                try with_reducible rfl
              try simp only [List.getElem_toArray, List.getElem_cons_succ, List.getElem_cons_zero, Act.put, List.setIfInBounds_toArray, List.set_cons_zero, List.set_cons_succ]
              refine wpAnyH_take (i := 3) (v := ?_) rfl (by kernel_rfl) (by kernel_rfl) (by kernel_rfl) (fun _ _ _ h => h) (Or.inl ⟨by rfl, ?_⟩) (by assumption) ?_
              rotate_left
              · intro w hSw
                (try dsimp only at hSw)
                go_simp
                try with_reducible rfl
              try simp only [List.getElem_toArray, List.getElem_cons_succ, List.getElem_cons_zero, Act.put, List.setIfInBounds_toArray, List.set_cons_zero, List.set_cons_succ]
              refine wpAnyH_take (i := 4) (v := ?_) rfl (by kernel_rfl) (by kernel_rfl) (by kernel_rfl) (fun _ _ _ h => h) (Or.inl ⟨by rfl, ?_⟩) (by assumption) ?_
              rotate_left
              · intro w hSw
                (try dsimp only at hSw)
                go_simp
                try with_reducible rfl
              try simp only [List.getElem_toArray, List.getElem_cons_succ, List.getElem_cons_zero, Act.put, List.setIfInBounds_toArray, List.set_cons_zero, List.set_cons_succ]
              refine wpAnyH_take (i := 5) (v := ?_) rfl (by kernel_rfl) (by kernel_rfl) (by kernel_rfl) (fun _ _ _ h => h) (Or.inl ⟨by rfl, ?_⟩) (by assumption) ?_
              rotate_left
              · intro w hSw
                (try dsimp only at hSw)
                go_simp
                try with_reducible rfl
              try simp only [List.getElem_toArray, List.getElem_cons_succ, List.getElem_cons_zero, Act.put, List.setIfInBounds_toArray, List.set_cons_zero, List.set_cons_succ]
              refine wpAnyH_take (i := 6) (v := ?_) rfl (by kernel_rfl) (by kernel_rfl) (by kernel_rfl) (fun _ _ _ h => h) (Or.inl ⟨by rfl, ?_⟩) (by assumption) ?_
              rotate_left
              · intro w hSw
                (try dsimp only at hSw)
                go_simp
                try with_reducible rfl
              try simp only [List.getElem_toArray, List.getElem_cons_succ, List.getElem_cons_zero, Act.put, List.setIfInBounds_toArray, List.set_cons_zero, List.set_cons_succ]
              refine wpAnyH_take (i := 7) (v := ?_) rfl (by kernel_rfl) (by kernel_rfl) (by kernel_rfl) (fun _ _ _ h => h) (Or.inl ⟨by rfl, ?_⟩) (by assumption) ?_
              rotate_left
              · intro w hSw
                (try dsimp only at hSw)
                go_simp
                try with_reducible rfl
              try simp only [List.getElem_toArray, List.getElem_cons_succ, List.getElem_cons_zero, Act.put, List.setIfInBounds_toArray, List.set_cons_zero, List.set_cons_succ]
              refine wpAnyH_take (i := 8) (v := ?_) rfl (by kernel_rfl) (by kernel_rfl) (by kernel_rfl) (fun _ _ _ h => h) (Or.inl ⟨by rfl, ?_⟩) (by assumption) ?_
              rotate_left
              · intro w hSw
                (try dsimp only at hSw)
                go_simp
                try with_reducible rfl
              try simp only [List.getElem_toArray, List.getElem_cons_succ, List.getElem_cons_zero, Act.put, List.setIfInBounds_toArray, List.set_cons_zero, List.set_cons_succ]
              refine wpAnyH_take (i := 9) (v := ?_) rfl (by kernel_rfl) (by kernel_rfl) (by kernel_rfl) (fun _ _ _ h => h) (Or.inl ⟨by rfl, ?_⟩) (by assumption) ?_
              rotate_left
              · intro w hSw
                (try dsimp only at hSw)
                go_simp
                try with_reducible rfl
              try simp only [List.getElem_toArray, List.getElem_cons_succ, List.getElem_cons_zero, Act.put, List.setIfInBounds_toArray, List.set_cons_zero, List.set_cons_succ]
              refine wpAnyH_ready (rs := [10]) (by kernel_rfl) (by simp) ?_
              refine AllReadyH.cons (i := 10) rfl (fun K hK => ?_) ?_
              · go_simp
                (first | (go_at_call 22; go_split_ands; (with_reducible refine Calls.mono (CSS.out _ (by first | with_reducible assumption | exact Below.drew (by with_reducible assumption))) ?_); rintro e wz ⟨rfl, hbz⟩; have hbz2 := Heap.Below.call (by first | with_reducible assumption | exact Below.drew (by with_reducible assumption)) (Nat.le_refl _) hbz) | fail)
                go_wp2_with fail
                refine hK.out _ _ ?_ (fun hHeld => ?_)
                · (try dsimp only)
                  (first | (exact KEEPS.out _ (by first | with_reducible assumption | exact Below.drew (by with_reducible assumption))) | go_keep)
                clear hK K
                try simp only [List.getElem_toArray, List.getElem_cons_succ, List.getElem_cons_zero, Act.put, List.setIfInBounds_toArray, List.set_cons_zero, List.set_cons_succ]
                refine wpAnyH_take (i := 11) (v := ?_) rfl (by kernel_rfl) (by kernel_rfl) (by kernel_rfl) (fun _ _ _ h => h) (Or.inl ⟨by rfl, ?_⟩) (by assumption) ?_
                rotate_left
                · intro w hSw
                  (try dsimp only at hSw)
                  go_simp
                  try with_reducible rfl
                try simp only [List.getElem_toArray, List.getElem_cons_succ, List.getElem_cons_zero, Act.put, List.setIfInBounds_toArray, List.set_cons_zero, List.set_cons_succ]
                refine wpAnyH_take (i := 12) (v := ?_) rfl (by kernel_rfl) (by kernel_rfl) (by kernel_rfl) (fun _ _ _ h => h) (Or.inl ⟨by rfl, ?_⟩) (by assumption) ?_
                rotate_left
                · intro w hSw
                  (try dsimp only at hSw)
                  go_simp
                  try with_reducible rfl
                try simp only [List.getElem_toArray, List.getElem_cons_succ, List.getElem_cons_zero, Act.put, List.setIfInBounds_toArray, List.set_cons_zero, List.set_cons_succ]
                refine wpAnyH_take (i := 13) (v := ?_) rfl (by kernel_rfl) (by kernel_rfl) (by kernel_rfl) (fun _ _ _ h => h) (Or.inl ⟨by rfl, ?_⟩) (by assumption) ?_
                rotate_left
                · intro w hSw
                  (try dsimp only at hSw)
                  go_simp
                  try with_reducible rfl
                try simp only [List.getElem_toArray, List.getElem_cons_succ, List.getElem_cons_zero, Act.put, List.setIfInBounds_toArray, List.set_cons_zero, List.set_cons_succ]
                refine wpAnyH_take (i := 14) (v := ?_) rfl (by kernel_rfl) (by kernel_rfl) (by kernel_rfl) (fun _ _ _ h => h) (Or.inl ⟨by rfl, ?_⟩) (by assumption) ?_
                rotate_left
                · intro w hSw
                  (try dsimp only at hSw)
                  go_simp
                  try with_reducible rfl
                try simp only [List.getElem_toArray, List.getElem_cons_succ, List.getElem_cons_zero, Act.put, List.setIfInBounds_toArray, List.set_cons_zero, List.set_cons_succ]
                refine wpAnyH_take (i := 15) (v := ?_) rfl (by kernel_rfl) (by kernel_rfl) (by kernel_rfl) (fun _ _ _ h => h) (Or.inl ⟨by rfl, ?_⟩) (by assumption) ?_
                rotate_left
                · intro w hSw
                  (try dsimp only at hSw)
                  go_simp
                  try with_reducible rfl
                try simp only [List.getElem_toArray, List.getElem_cons_succ, List.getElem_cons_zero, Act.put, List.setIfInBounds_toArray, List.set_cons_zero, List.set_cons_succ]
                refine wpAnyH_take (i := 16) (v := undef) rfl (by kernel_rfl) (by kernel_rfl) (by kernel_rfl) (fun _ _ _ h => h) (Or.inr ⟨by rfl, rfl⟩) (by assumption) ?_
                try simp only [List.getElem_toArray, List.getElem_cons_succ, List.getElem_cons_zero, Act.put, List.setIfInBounds_toArray, List.set_cons_zero, List.set_cons_succ]
                refine wpAnyH_take (i := 17) (v := undef) rfl (by kernel_rfl) (by kernel_rfl) (by kernel_rfl) (fun _ _ _ h => h) (Or.inr ⟨by rfl, rfl⟩) (by assumption) ?_
                try simp only [List.getElem_toArray, List.getElem_cons_succ, List.getElem_cons_zero, Act.put, List.setIfInBounds_toArray, List.set_cons_zero, List.set_cons_succ]
                refine wpAnyH_take (i := 18) (v := undef) rfl (by kernel_rfl) (by kernel_rfl) (by kernel_rfl) (fun _ _ _ h => h) (Or.inr ⟨by rfl, rfl⟩) (by assumption) ?_
                try simp only [List.getElem_toArray, List.getElem_cons_succ, List.getElem_cons_zero, Act.put, List.setIfInBounds_toArray, List.set_cons_zero, List.set_cons_succ]
                refine wpAnyH_take (i := 19) (v := undef) rfl (by kernel_rfl) (by kernel_rfl) (by kernel_rfl) (fun _ _ _ h => h) (Or.inr ⟨by rfl, rfl⟩) (by assumption) ?_
                try simp only [List.getElem_toArray, List.getElem_cons_succ, List.getElem_cons_zero, Act.put, List.setIfInBounds_toArray, List.set_cons_zero, List.set_cons_succ]
                refine wpAnyH_take (i := 20) (v := undef) rfl (by kernel_rfl) (by kernel_rfl) (by kernel_rfl) (fun _ _ _ h => h) (Or.inr ⟨by rfl, rfl⟩) (by assumption) ?_
                try simp only [List.getElem_toArray, List.getElem_cons_succ, List.getElem_cons_zero, Act.put, List.setIfInBounds_toArray, List.set_cons_zero, List.set_cons_succ]
                refine wpAnyH_take (i := 21) (v := undef) rfl (by kernel_rfl) (by kernel_rfl) (by kernel_rfl) (fun _ _ _ h => h) (Or.inr ⟨by rfl, rfl⟩) (by assumption) ?_
                try simp only [List.getElem_toArray, List.getElem_cons_succ, List.getElem_cons_zero, Act.put, List.setIfInBounds_toArray, List.set_cons_zero, List.set_cons_succ]
                refine wpAnyH_take (i := 22) (v := undef) rfl (by kernel_rfl) (by kernel_rfl) (by kernel_rfl) (fun _ _ _ h => h) (Or.inr ⟨by rfl, rfl⟩) (by assumption) ?_
                try simp only [List.getElem_toArray, List.getElem_cons_succ, List.getElem_cons_zero, Act.put, List.setIfInBounds_toArray, List.set_cons_zero, List.set_cons_succ]
                refine wpAnyH_take (i := 23) (v := undef) rfl (by kernel_rfl) (by kernel_rfl) (by kernel_rfl) (fun _ _ _ h => h) (Or.inr ⟨by rfl, rfl⟩) (by assumption) ?_
                try simp only [List.getElem_toArray, List.getElem_cons_succ, List.getElem_cons_zero, Act.put, List.setIfInBounds_toArray, List.set_cons_zero, List.set_cons_succ]
                refine wpAnyH_take (i := 24) (v := undef) rfl (by kernel_rfl) (by kernel_rfl) (by kernel_rfl) (fun _ _ _ h => h) (Or.inr ⟨by rfl, rfl⟩) (by assumption) ?_
                try simp only [List.getElem_toArray, List.getElem_cons_succ, List.getElem_cons_zero, Act.put, List.setIfInBounds_toArray, List.set_cons_zero, List.set_cons_succ]
                refine wpAnyH_take (i := 25) (v := ?_) rfl (by kernel_rfl) (by kernel_rfl) (by kernel_rfl) (fun _ _ _ h => h) (Or.inl ⟨by rfl, ?_⟩) (by assumption) ?_
                rotate_left
                · intro w hSw
                  (try dsimp only at hSw)
                  go_simp
                  try with_reducible rfl
                try simp only [List.getElem_toArray, List.getElem_cons_succ, List.getElem_cons_zero, Act.put, List.setIfInBounds_toArray, List.set_cons_zero, List.set_cons_succ]
                refine wpAnyH_take (i := 26) (v := ?_) rfl (by kernel_rfl) (by kernel_rfl) (by kernel_rfl) (fun _ _ _ h => h) (Or.inl ⟨by rfl, ?_⟩) (by assumption) ?_
                rotate_left
                · intro w hSw
                  (try dsimp only at hSw)
                  go_simp
                  try with_reducible rfl
                try simp only [List.getElem_toArray, List.getElem_cons_succ, List.getElem_cons_zero, Act.put, List.setIfInBounds_toArray, List.set_cons_zero, List.set_cons_succ]
                refine wpAnyH_done (by kernel_rfl) ?_ _
                refine NoPanic.normal ?_
                go_wp2_with fail
                go_meet
                exact ⟨rfl, by first | with_reducible assumption | exact Below.drew (by with_reducible assumption)⟩
              exact AllReadyH.nil
          · have hds : decide (0 ≤ si) = false := decide_eq_false hsi
            rw [hds]
            clear KS hsi hds
            by_cases hui : 0 ≤ ui
            · obtain ⟨j, NU, gu, offu, uc2, up, un, uw, uq, rfl, hjN, rfl, hku⟩ := KU.out hui
              have hjI : (j : Int) < (NU : Int) := Int.ofNat_lt.2 hjN
              have hj0 : (0 : Int) ≤ (j : Int) := Int.natCast_nonneg j
              have hdj : decide ((0 : Int) ≤ (j : Int)) = true := decide_eq_true hj0
              rw [hdj]
              have HKU := Lib.hid hku
              clear hku KU hui hdj hjN
              refine wp_region_noPanic ?_
              refine wp_region_held_drew (S := (fun w' => w'.cell? ⟨ub, 0, none⟩ = some (.int .i64 up) ∧ w'.cell? ⟨ub, 1, none⟩ = some (.int .i64 un) ∧ w'.cell? ⟨ub, 2, none⟩ = some (.int .i64 uw) ∧ w'.cell? ⟨ub, 3, none⟩ = some (.bool uq) ∧ w'.cell? ⟨bb, 2, none⟩ = some (.slice (some ⟨gu, offu, none⟩) NU uc2) ∧ w'.cell? ⟨gu, offu + j * 4, none⟩ = some (.int .i64 up) ∧ w'.cell? ⟨gu, offu + j * 4 + 1, none⟩ = some (.int .i64 un) ∧ w'.cell? ⟨gu, offu + j * 4 + 2, none⟩ = some (.int .i64 uw) ∧ w'.cell? ⟨gu, offu + j * 4 + 3, none⟩ = some (.bool uq))) (by kernel_rfl) ?_ (fun hHeld => ?_)
              · (try dsimp only)
                exact HKU.out _ (below_drewN HB9.out 1)
              refine wpAnyH_take (i := 0) (v := ?_) rfl (by kernel_rfl) (by kernel_rfl) (by kernel_rfl) (fun _ _ _ h => h) (Or.inl ⟨by rfl, ?_⟩) (by assumption) ?_
              rotate_left
              · intro w hSw
                (try dsimp only at hSw)
                go_simp
                try with_reducible rfl
              try simp only [List.getElem_toArray, List.getElem_cons_succ, List.getElem_cons_zero, Act.put, List.setIfInBounds_toArray, List.set_cons_zero, List.set_cons_succ]
              refine wpAnyH_take (i := 1) (v := ?_) rfl (by kernel_rfl) (by kernel_rfl) (by kernel_rfl) (fun _ _ _ h => h) (Or.inl ⟨by rfl, ?_⟩) (by assumption) ?_
              rotate_left
              · intro w hSw
                (try dsimp only at hSw)
                go_simp
                try with_reducible rfl
              try simp only [List.getElem_toArray, List.getElem_cons_succ, List.getElem_cons_zero, Act.put, List.setIfInBounds_toArray, List.set_cons_zero, List.set_cons_succ]
              refine wpAnyH_take (i := 2) (v := undef) rfl (by kernel_rfl) (by kernel_rfl) (by kernel_rfl) (fun _ _ _ h => h) (Or.inr ⟨by rfl, rfl⟩) (by assumption) ?_
              try simp only [List.getElem_toArray, List.getElem_cons_succ, List.getElem_cons_zero, Act.put, List.setIfInBounds_toArray, List.set_cons_zero, List.set_cons_succ]
              refine wpAnyH_take (i := 3) (v := undef) rfl (by kernel_rfl) (by kernel_rfl) (by kernel_rfl) (fun _ _ _ h => h) (Or.inr ⟨by rfl, rfl⟩) (by assumption) ?_
              try simp only [List.getElem_toArray, List.getElem_cons_succ, List.getElem_cons_zero, Act.put, List.setIfInBounds_toArray, List.set_cons_zero, List.set_cons_succ]
              refine wpAnyH_take (i := 4) (v := undef) rfl (by kernel_rfl) (by kernel_rfl) (by kernel_rfl) (fun _ _ _ h => h) (Or.inr ⟨by rfl, rfl⟩) (by assumption) ?_
              try simp only [List.getElem_toArray, List.getElem_cons_succ, List.getElem_cons_zero, Act.put, List.setIfInBounds_toArray, List.set_cons_zero, List.set_cons_succ]
              refine wpAnyH_take (i := 5) (v := undef) rfl (by kernel_rfl) (by kernel_rfl) (by kernel_rfl) (fun _ _ _ h => h) (Or.inr ⟨by rfl, rfl⟩) (by assumption) ?_
              try simp only [List.getElem_toArray, List.getElem_cons_succ, List.getElem_cons_zero, Act.put, List.setIfInBounds_toArray, List.set_cons_zero, List.set_cons_succ]
              refine wpAnyH_take (i := 6) (v := undef) rfl (by kernel_rfl) (by kernel_rfl) (by kernel_rfl) (fun _ _ _ h => h) (Or.inr ⟨by rfl, rfl⟩) (by assumption) ?_
              try simp only [List.getElem_toArray, List.getElem_cons_succ, List.getElem_cons_zero, Act.put, List.setIfInBounds_toArray, List.set_cons_zero, List.set_cons_succ]
              refine wpAnyH_take (i := 7) (v := undef) rfl (by kernel_rfl) (by kernel_rfl) (by kernel_rfl) (fun _ _ _ h => h) (Or.inr ⟨by rfl, rfl⟩) (by assumption) ?_
              try simp only [List.getElem_toArray, List.getElem_cons_succ, List.getElem_cons_zero, Act.put, List.setIfInBounds_toArray, List.set_cons_zero, List.set_cons_succ]
              refine wpAnyH_take (i := 8) (v := undef) rfl (by kernel_rfl) (by kernel_rfl) (by kernel_rfl) (fun _ _ _ h => h) (Or.inr ⟨by rfl, rfl⟩) (by assumption) ?_
              try simp only [List.getElem_toArray, List.getElem_cons_succ, List.getElem_cons_zero, Act.put, List.setIfInBounds_toArray, List.set_cons_zero, List.set_cons_succ]
              refine wpAnyH_take (i := 9) (v := undef) rfl (by kernel_rfl) (by kernel_rfl) (by kernel_rfl) (fun _ _ _ h => h) (Or.inr ⟨by rfl, rfl⟩) (by assumption) ?_
              try simp only [List.getElem_toArray, List.getElem_cons_succ, List.getElem_cons_zero, Act.put, List.setIfInBounds_toArray, List.set_cons_zero, List.set_cons_succ]
              refine wpAnyH_take (i := 10) (v := undef) rfl (by kernel_rfl) (by kernel_rfl) (by kernel_rfl) (fun _ _ _ h => h) (Or.inr ⟨by rfl, rfl⟩) (by assumption) ?_
              try simp only [List.getElem_toArray, List.getElem_cons_succ, List.getElem_cons_zero, Act.put, List.setIfInBounds_toArray, List.set_cons_zero, List.set_cons_succ]
              refine wpAnyH_take (i := 11) (v := undef) rfl (by kernel_rfl) (by kernel_rfl) (by kernel_rfl) (fun _ _ _ h => h) (Or.inr ⟨by rfl, rfl⟩) (by assumption) ?_
              try simp only [List.getElem_toArray, List.getElem_cons_succ, List.getElem_cons_zero, Act.put, List.setIfInBounds_toArray, List.set_cons_zero, List.set_cons_succ]
              refine wpAnyH_take (i := 12) (v := ?_) rfl (by kernel_rfl) (by kernel_rfl) (by kernel_rfl) (fun _ _ _ h => h) (Or.inl ⟨by rfl, ?_⟩) (by assumption) ?_
              rotate_left
              · intro w hSw
                (try dsimp only at hSw)
                go_simp
                try with_reducible rfl
              try simp only [List.getElem_toArray, List.getElem_cons_succ, List.getElem_cons_zero, Act.put, List.setIfInBounds_toArray, List.set_cons_zero, List.set_cons_succ]
              refine wpAnyH_take (i := 13) (v := ?_) rfl (by kernel_rfl) (by kernel_rfl) (by kernel_rfl) (fun _ _ _ h => h) (Or.inl ⟨by rfl, ?_⟩) (by assumption) ?_
              rotate_left
              · intro w hSw
                (try dsimp only at hSw)
                go_simp
                try with_reducible rfl
              try simp only [List.getElem_toArray, List.getElem_cons_succ, List.getElem_cons_zero, Act.put, List.setIfInBounds_toArray, List.set_cons_zero, List.set_cons_succ]
              refine wpAnyH_take (i := 14) (v := ?_) rfl (by kernel_rfl) (by kernel_rfl) (by kernel_rfl) (fun _ _ _ h => h) (Or.inl ⟨by rfl, ?_⟩) (by assumption) ?_
              rotate_left
              · intro w hSw
                (try dsimp only at hSw)
                go_simp
                try with_reducible rfl
              try simp only [List.getElem_toArray, List.getElem_cons_succ, List.getElem_cons_zero, Act.put, List.setIfInBounds_toArray, List.set_cons_zero, List.set_cons_succ]
              refine wpAnyH_take (i := 15) (v := ?_) rfl (by kernel_rfl) (by kernel_rfl) (by kernel_rfl) (fun _ _ _ h => h) (Or.inl ⟨by rfl, ?_⟩) (by assumption) ?_
              rotate_left
              · intro w hSw
                (try dsimp only at hSw)
                go_simp
                try with_reducible rfl
              try simp only [List.getElem_toArray, List.getElem_cons_succ, List.getElem_cons_zero, Act.put, List.setIfInBounds_toArray, List.set_cons_zero, List.set_cons_succ]
              refine wpAnyH_take (i := 16) (v := ?_) rfl (by kernel_rfl) (by kernel_rfl) (by kernel_rfl) (fun _ _ _ h => h) (Or.inl ⟨by rfl, ?_⟩) (by assumption) ?_
              rotate_left
              · intro w hSw
                (try dsimp only at hSw)
                go_simp
                try with_reducible rfl
              try simp only [List.getElem_toArray, List.getElem_cons_succ, List.getElem_cons_zero, Act.put, List.setIfInBounds_toArray, List.set_cons_zero, List.set_cons_succ]
              refine wpAnyH_take (i := 17) (v := ?_) rfl (by kernel_rfl) (by kernel_rfl) (by kernel_rfl) (fun _ _ _ h => h) (Or.inl ⟨by rfl, ?_⟩) (by assumption) ?_
              rotate_left
              · intro w hSw
                (try dsimp only at hSw)
                go_simp
                try with_reducible rfl
              try simp only [List.getElem_toArray, List.getElem_cons_succ, List.getElem_cons_zero, Act.put, List.setIfInBounds_toArray, List.set_cons_zero, List.set_cons_succ]
              refine wpAnyH_take (i := 18) (v := ?_) rfl (by kernel_rfl) (by kernel_rfl) (by kernel_rfl) (fun _ _ _ h => h) (Or.inl ⟨by rfl, ?_⟩) (by assumption) ?_
              rotate_left
              · intro w hSw
                (try dsimp only at hSw)
                go_simp
                try with_reducible rfl
              try simp only [List.getElem_toArray, List.getElem_cons_succ, List.getElem_cons_zero, Act.put, List.setIfInBounds_toArray, List.set_cons_zero, List.set_cons_succ]
              refine wpAnyH_take (i := 19) (v := ?_) rfl (by kernel_rfl) (by kernel_rfl) (by kernel_rfl) (fun _ _ _ h => h) (Or.inl ⟨by rfl, ?_⟩) (by assumption) ?_
              rotate_left
              · intro w hSw
                (try dsimp only at hSw)
                go_simp
                try with_reducible rfl
              try simp only [List.getElem_toArray, List.getElem_cons_succ, List.getElem_cons_zero, Act.put, List.setIfInBounds_toArray, List.set_cons_zero, List.set_cons_succ]
              refine wpAnyH_take (i := 20) (v := ?_) rfl (by kernel_rfl) (by kernel_rfl) (by kernel_rfl) (fun _ _ _ h => h) (Or.inl ⟨by rfl, ?_⟩) (by assumption) ?_
              rotate_left
              · intro w hSw
                (try dsimp only at hSw)
                go_simp
                try with_reducible rfl
              try simp only [List.getElem_toArray, List.getElem_cons_succ, List.getElem_cons_zero, Act.put, List.setIfInBounds_toArray, List.set_cons_zero, List.set_cons_succ]
              refine wpAnyH_take (i := 21) (v := ?_) rfl (by kernel_rfl) (by kernel_rfl) (by kernel_rfl) (fun _ _ _ h => h) (Or.inl ⟨by rfl, ?_⟩) (by assumption) ?_
              rotate_left
              · intro w hSw
                (try dsimp only at hSw)
                go_simp
                try with_reducible rfl
              try simp only [List.getElem_toArray, List.getElem_cons_succ, List.getElem_cons_zero, Act.put, List.setIfInBounds_toArray, List.set_cons_zero, List.set_cons_succ]
              refine wpAnyH_take (i := 22) (v := ?_) rfl (by kernel_rfl) (by kernel_rfl) (by kernel_rfl) (fun _ _ _ h => h) (Or.inl ⟨by rfl, ?_⟩) (by assumption) ?_
              rotate_left
              · intro w hSw
                (try dsimp only at hSw)
                go_simp
                try with_reducible rfl
              try simp only [List.getElem_toArray, List.getElem_cons_succ, List.getElem_cons_zero, Act.put, List.setIfInBounds_toArray, List.set_cons_zero, List.set_cons_succ]
              refine wpAnyH_take (i := 23) (v := ?_) rfl (by kernel_rfl) (by kernel_rfl) (by kernel_rfl) (fun _ _ _ h => h) (Or.inl ⟨by rfl, ?_⟩) (by assumption) ?_
              rotate_left
              · intro w hSw
                (try dsimp only at hSw)
                go_simp
                try with_reducible rfl
              try simp only [List.getElem_toArray, List.getElem_cons_succ, List.getElem_cons_zero, Act.put, List.setIfInBounds_toArray, List.set_cons_zero, List.set_cons_succ]
              refine wpAnyH_take (i := 24) (v := ?_) rfl (by kernel_rfl) (by kernel_rfl) (by kernel_rfl) (fun _ _ _ h => h) (Or.inl ⟨by rfl, ?_⟩) (by assumption) ?_
              rotate_left
              · intro w hSw
                (try dsimp only at hSw)
                go_simp
                try with_reducible rfl
              try simp only [List.getElem_toArray, List.getElem_cons_succ, List.getElem_cons_zero, Act.put, List.setIfInBounds_toArray, List.set_cons_zero, List.set_cons_succ]
              refine wpAnyH_take (i := 25) (v := ?_) rfl (by kernel_rfl) (by kernel_rfl) (by kernel_rfl) (fun _ _ _ h => h) (Or.inl ⟨by rfl, ?_⟩) (by assumption) ?_
              rotate_left
              · intro w hSw
                (try dsimp only at hSw)
                go_simp
                try with_reducible rfl
              try simp only [List.getElem_toArray, List.getElem_cons_succ, List.getElem_cons_zero, Act.put, List.setIfInBounds_toArray, List.set_cons_zero, List.set_cons_succ]
              refine wpAnyH_take (i := 26) (v := ?_) rfl (by kernel_rfl) (by kernel_rfl) (by kernel_rfl) (fun _ _ _ h => h) (Or.inl ⟨by rfl, ?_⟩) (by assumption) ?_
              rotate_left
              · intro w hSw
                (try dsimp only at hSw)
                go_simp
                try with_reducible rfl
              try simp only [List.getElem_toArray, List.getElem_cons_succ, List.getElem_cons_zero, Act.put, List.setIfInBounds_toArray, List.set_cons_zero, List.set_cons_succ]
              refine wpAnyH_done (by kernel_rfl) ?_ _
              refine NoPanic.normal ?_
              go_wp2_with fail
              go_meet
              exact ⟨rfl, Below.drew HB9.out⟩
            · have hdu : decide (0 ≤ ui) = false := decide_eq_false hui
              rw [hdu]
              clear KU hui hdu
              refine wp_region_noPanic ?_
              refine wp_region_held_drew (S := (fun _ => True)) (by kernel_rfl) ?_ (fun hHeld => ?_)
              · (try dsimp only)
                all_goals exact trivial
              refine wpAnyH_take (i := 0) (v := ?_) rfl (by kernel_rfl) (by kernel_rfl) (by kernel_rfl) (fun _ _ _ h => h) (Or.inl ⟨by rfl, ?_⟩) (by assumption) ?_
              rotate_left
              · intro w hSw
                (try dsimp only at hSw)
                go_simp
                try with_reducible rfl
              try simp only [List.getElem_toArray, List.getElem_cons_succ, List.getElem_cons_zero, Act.put, List.setIfInBounds_toArray, List.set_cons_zero, List.set_cons_succ]
              refine wpAnyH_take (i := 1) (v := ?_) rfl (by kernel_rfl) (by kernel_rfl) (by kernel_rfl) (fun _ _ _ h => h) (Or.inl ⟨by rfl, ?_⟩) (by assumption) ?_
              rotate_left
              · intro w hSw
                (try dsimp only at hSw)
                go_simp
                try with_reducible rfl
              try simp only [List.getElem_toArray, List.getElem_cons_succ, List.getElem_cons_zero, Act.put, List.setIfInBounds_toArray, List.set_cons_zero, List.set_cons_succ]
              refine wpAnyH_take (i := 2) (v := undef) rfl (by kernel_rfl) (by kernel_rfl) (by kernel_rfl) (fun _ _ _ h => h) (Or.inr ⟨by rfl, rfl⟩) (by assumption) ?_
              try simp only [List.getElem_toArray, List.getElem_cons_succ, List.getElem_cons_zero, Act.put, List.setIfInBounds_toArray, List.set_cons_zero, List.set_cons_succ]
              refine wpAnyH_take (i := 3) (v := undef) rfl (by kernel_rfl) (by kernel_rfl) (by kernel_rfl) (fun _ _ _ h => h) (Or.inr ⟨by rfl, rfl⟩) (by assumption) ?_
              try simp only [List.getElem_toArray, List.getElem_cons_succ, List.getElem_cons_zero, Act.put, List.setIfInBounds_toArray, List.set_cons_zero, List.set_cons_succ]
              refine wpAnyH_take (i := 4) (v := undef) rfl (by kernel_rfl) (by kernel_rfl) (by kernel_rfl) (fun _ _ _ h => h) (Or.inr ⟨by rfl, rfl⟩) (by assumption) ?_
              try simp only [List.getElem_toArray, List.getElem_cons_succ, List.getElem_cons_zero, Act.put, List.setIfInBounds_toArray, List.set_cons_zero, List.set_cons_succ]
              refine wpAnyH_take (i := 5) (v := undef) rfl (by kernel_rfl) (by kernel_rfl) (by kernel_rfl) (fun _ _ _ h => h) (Or.inr ⟨by rfl, rfl⟩) (by assumption) ?_
              try simp only [List.getElem_toArray, List.getElem_cons_succ, List.getElem_cons_zero, Act.put, List.setIfInBounds_toArray, List.set_cons_zero, List.set_cons_succ]
              refine wpAnyH_take (i := 6) (v := undef) rfl (by kernel_rfl) (by kernel_rfl) (by kernel_rfl) (fun _ _ _ h => h) (Or.inr ⟨by rfl, rfl⟩) (by assumption) ?_
              try simp only [List.getElem_toArray, List.getElem_cons_succ, List.getElem_cons_zero, Act.put, List.setIfInBounds_toArray, List.set_cons_zero, List.set_cons_succ]
              refine wpAnyH_take (i := 7) (v := undef) rfl (by kernel_rfl) (by kernel_rfl) (by kernel_rfl) (fun _ _ _ h => h) (Or.inr ⟨by rfl, rfl⟩) (by assumption) ?_
              try simp only [List.getElem_toArray, List.getElem_cons_succ, List.getElem_cons_zero, Act.put, List.setIfInBounds_toArray, List.set_cons_zero, List.set_cons_succ]
              refine wpAnyH_take (i := 8) (v := undef) rfl (by kernel_rfl) (by kernel_rfl) (by kernel_rfl) (fun _ _ _ h => h) (Or.inr ⟨by rfl, rfl⟩) (by assumption) ?_
              try simp only [List.getElem_toArray, List.getElem_cons_succ, List.getElem_cons_zero, Act.put, List.setIfInBounds_toArray, List.set_cons_zero, List.set_cons_succ]
              refine wpAnyH_take (i := 9) (v := undef) rfl (by kernel_rfl) (by kernel_rfl) (by kernel_rfl) (fun _ _ _ h => h) (Or.inr ⟨by rfl, rfl⟩) (by assumption) ?_
              try simp only [List.getElem_toArray, List.getElem_cons_succ, List.getElem_cons_zero, Act.put, List.setIfInBounds_toArray, List.set_cons_zero, List.set_cons_succ]
              refine wpAnyH_take (i := 10) (v := undef) rfl (by kernel_rfl) (by kernel_rfl) (by kernel_rfl) (fun _ _ _ h => h) (Or.inr ⟨by rfl, rfl⟩) (by assumption) ?_
              try simp only [List.getElem_toArray, List.getElem_cons_succ, List.getElem_cons_zero, Act.put, List.setIfInBounds_toArray, List.set_cons_zero, List.set_cons_succ]
              refine wpAnyH_take (i := 11) (v := undef) rfl (by kernel_rfl) (by kernel_rfl) (by kernel_rfl) (fun _ _ _ h => h) (Or.inr ⟨by rfl, rfl⟩) (by assumption) ?_
              try simp only [List.getElem_toArray, List.getElem_cons_succ, List.getElem_cons_zero, Act.put, List.setIfInBounds_toArray, List.set_cons_zero, List.set_cons_succ]
              refine wpAnyH_take (i := 12) (v := ?_) rfl (by kernel_rfl) (by kernel_rfl) (by kernel_rfl) (fun _ _ _ h => h) (Or.inl ⟨by rfl, ?_⟩) (by assumption) ?_
              rotate_left
              · intro w hSw
                (try dsimp only at hSw)
                go_simp
                try with_reducible rfl
              try simp only [List.getElem_toArray, List.getElem_cons_succ, List.getElem_cons_zero, Act.put, List.setIfInBounds_toArray, List.set_cons_zero, List.set_cons_succ]
              refine wpAnyH_take (i := 13) (v := ?_) rfl (by kernel_rfl) (by kernel_rfl) (by kernel_rfl) (fun _ _ _ h => h) (Or.inl ⟨by rfl, ?_⟩) (by assumption) ?_
              rotate_left
              · intro w hSw
                (try dsimp only at hSw)
                go_simp
                try with_reducible rfl
              try simp only [List.getElem_toArray, List.getElem_cons_succ, List.getElem_cons_zero, Act.put, List.setIfInBounds_toArray, List.set_cons_zero, List.set_cons_succ]
              refine wpAnyH_take (i := 14) (v := ?_) rfl (by kernel_rfl) (by kernel_rfl) (by kernel_rfl) (fun _ _ _ h => h) (Or.inl ⟨by rfl, ?_⟩) (by assumption) ?_
              rotate_left
              · intro w hSw
                (try dsimp only at hSw)
                go_simp
                try with_reducible rfl
              try simp only [List.getElem_toArray, List.getElem_cons_succ, List.getElem_cons_zero, Act.put, List.setIfInBounds_toArray, List.set_cons_zero, List.set_cons_succ]
              refine wpAnyH_take (i := 15) (v := ?_) rfl (by kernel_rfl) (by kernel_rfl) (by kernel_rfl) (fun _ _ _ h => h) (Or.inl ⟨by rfl, ?_⟩) (by assumption) ?_
              rotate_left
              · intro w hSw
                (try dsimp only at hSw)
                go_simp
                try with_reducible rfl
              try simp only [List.getElem_toArray, List.getElem_cons_succ, List.getElem_cons_zero, Act.put, List.setIfInBounds_toArray, List.set_cons_zero, List.set_cons_succ]
              refine wpAnyH_take (i := 16) (v := undef) rfl (by kernel_rfl) (by kernel_rfl) (by kernel_rfl) (fun _ _ _ h => h) (Or.inr ⟨by rfl, rfl⟩) (by assumption) ?_
              try simp only [List.getElem_toArray, List.getElem_cons_succ, List.getElem_cons_zero, Act.put, List.setIfInBounds_toArray, List.set_cons_zero, List.set_cons_succ]
              refine wpAnyH_take (i := 17) (v := undef) rfl (by kernel_rfl) (by kernel_rfl) (by kernel_rfl) (fun _ _ _ h => h) (Or.inr ⟨by rfl, rfl⟩) (by assumption) ?_
              try simp only [List.getElem_toArray, List.getElem_cons_succ, List.getElem_cons_zero, Act.put, List.setIfInBounds_toArray, List.set_cons_zero, List.set_cons_succ]
              refine wpAnyH_take (i := 18) (v := undef) rfl (by kernel_rfl) (by kernel_rfl) (by kernel_rfl) (fun _ _ _ h => h) (Or.inr ⟨by rfl, rfl⟩) (by assumption) ?_
              try simp only [List.getElem_toArray, List.getElem_cons_succ, List.getElem_cons_zero, Act.put, List.setIfInBounds_toArray, List.set_cons_zero, List.set_cons_succ]
              refine wpAnyH_take (i := 19) (v := undef) rfl (by kernel_rfl) (by kernel_rfl) (by kernel_rfl) (fun _ _ _ h => h) (Or.inr ⟨by rfl, rfl⟩) (by assumption) ?_
              try simp only [List.getElem_toArray, List.getElem_cons_succ, List.getElem_cons_zero, Act.put, List.setIfInBounds_toArray, List.set_cons_zero, List.set_cons_succ]
              refine wpAnyH_take (i := 20) (v := undef) rfl (by kernel_rfl) (by kernel_rfl) (by kernel_rfl) (fun _ _ _ h => h) (Or.inr ⟨by rfl, rfl⟩) (by assumption) ?_
              try simp only [List.getElem_toArray, List.getElem_cons_succ, List.getElem_cons_zero, Act.put, List.setIfInBounds_toArray, List.set_cons_zero, List.set_cons_succ]
              refine wpAnyH_take (i := 21) (v := undef) rfl (by kernel_rfl) (by kernel_rfl) (by kernel_rfl) (fun _ _ _ h => h) (Or.inr ⟨by rfl, rfl⟩) (by assumption) ?_
              try simp only [List.getElem_toArray, List.getElem_cons_succ, List.getElem_cons_zero, Act.put, List.setIfInBounds_toArray, List.set_cons_zero, List.set_cons_succ]
              refine wpAnyH_take (i := 22) (v := undef) rfl (by kernel_rfl) (by kernel_rfl) (by kernel_rfl) (fun _ _ _ h => h) (Or.inr ⟨by rfl, rfl⟩) (by assumption) ?_
              try simp only [List.getElem_toArray, List.getElem_cons_succ, List.getElem_cons_zero, Act.put, List.setIfInBounds_toArray, List.set_cons_zero, List.set_cons_succ]
              refine wpAnyH_take (i := 23) (v := undef) rfl (by kernel_rfl) (by kernel_rfl) (by kernel_rfl) (fun _ _ _ h => h) (Or.inr ⟨by rfl, rfl⟩) (by assumption) ?_
              try simp only [List.getElem_toArray, List.getElem_cons_succ, List.getElem_cons_zero, Act.put, List.setIfInBounds_toArray, List.set_cons_zero, List.set_cons_succ]
              refine wpAnyH_take (i := 24) (v := undef) rfl (by kernel_rfl) (by kernel_rfl) (by kernel_rfl) (fun _ _ _ h => h) (Or.inr ⟨by rfl, rfl⟩) (by assumption) ?_
              try simp only [List.getElem_toArray, List.getElem_cons_succ, List.getElem_cons_zero, Act.put, List.setIfInBounds_toArray, List.set_cons_zero, List.set_cons_succ]
              refine wpAnyH_take (i := 25) (v := ?_) rfl (by kernel_rfl) (by kernel_rfl) (by kernel_rfl) (fun _ _ _ h => h) (Or.inl ⟨by rfl, ?_⟩) (by assumption) ?_
              rotate_left
              · intro w hSw
                (try dsimp only at hSw)
                go_simp
                try with_reducible rfl
              try simp only [List.getElem_toArray, List.getElem_cons_succ, List.getElem_cons_zero, Act.put, List.setIfInBounds_toArray, List.set_cons_zero, List.set_cons_succ]
              refine wpAnyH_take (i := 26) (v := ?_) rfl (by kernel_rfl) (by kernel_rfl) (by kernel_rfl) (fun _ _ _ h => h) (Or.inl ⟨by rfl, ?_⟩) (by assumption) ?_
              rotate_left
              · intro w hSw
                (try dsimp only at hSw)
                go_simp
                try with_reducible rfl
              try simp only [List.getElem_toArray, List.getElem_cons_succ, List.getElem_cons_zero, Act.put, List.setIfInBounds_toArray, List.set_cons_zero, List.set_cons_succ]
              refine wpAnyH_done (by kernel_rfl) ?_ _
              refine NoPanic.normal ?_
              go_wp2_with fail
              go_meet
              exact ⟨rfl, Below.drew HB9.out⟩
        case rest =>
          obtain ⟨rfl, hbc⟩ := hcut
          have HCS := Lib.hid (CS.out _ hbc)
          have HBC := Lib.hid hbc
          clear hbc C1 C2 C3 C4 HSX HUX CS
          generalize subs R n = L at HCS CH
          go_wp2_with fail
          refine HCS.out.mono ?_
          rintro e w10 ⟨⟨v1, rfl, hr1⟩, hb10⟩
          have HB10 := Lib.hid (HBC.out.trans (hb10.mono HBC.out.size))
          have HR1 := Lib.hid hr1
          obtain ⟨a1, k1, rfl, -, -⟩ := id hr1
          clear hr1 hb10
          go_wp2_with fail
          refine (CH.out _ HB10.out).mono ?_
          rintro e w11 ⟨⟨v2, rfl, hr2⟩, hb11⟩
          have HR3 := Lib.hid (HR1.out.below hb11)
          have HR2 := Lib.hid hr2
          have HB11 := Lib.hid (HL6.out.trans ((HB10.out.trans (hb11.mono HB10.out.size)).mono HL6.out.size))
          obtain ⟨a2, k2, rfl, -, -⟩ := id hr2
          have hLL := hr2.len
          clear hr2 hb11
          go_wp2_with fail
          go_loopw [163] (fun i w' => ∃ k : Nat, k ≤ L.length ∧ i = .int .i64 k ∧ Below w11.heap.size w11 w') (fun i _ => L.length - (intOf i).toNat)
          case atStart => exact ⟨0, Nat.zero_le _, rfl, Below.refl _ _⟩
          case round =>
            obtain ⟨k, hk, rfl, hbl⟩ := hrel
            have HBL := Lib.hid hbl
            by_cases hkl : k < L.length
            · obtain ⟨g1, o1, c1, e1, _, hc1⟩ := int_open (HR3.out.below hbl) (by omega)
              obtain ⟨g2, o2, c2, e2, _, hc2⟩ := int_open (HR2.out.below hbl) (by omega)
              cases e1
              cases e2
              have d1 := hc1 k hkl
              have d2 := hc2 k hkl
              clear hc1 hc2 hbl
              generalize L.getD k 0 = u at *
              go_wp2_with fail
              go_quiet (fail)
              go_wp2_with fail
              go_roundw
              case rel => exact ⟨k + 1, by omega, by go_num, below_drewN HBL.out _⟩
              case measure => simp [intOf]; omega
            · go_wp2_with fail
              go_ret
              exact ⟨rfl, HB11.out.trans (hbl.mono HB11.out.size)⟩
end Go.Proofs.Rm
