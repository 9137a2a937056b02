/- Several texts in one: The walks of the reference's comparisons: SameTable. The laws' first part: the operations of 'start', and what 'shown' asks. The walk of the law RoomKeeps, out of the contracts. -/
import Derived.StillTailTactics
import Derived.Deep.RegionHeld3
import Derived.Test.YtpdjhlcbcomdkaaGreatDoorF15
import Derived.Test.YtpdjhlcbcomdkaaGreatDoorF16
import Derived.Test.YtpdjhlcbcomdkaaGreatDoorF17
namespace Go.Proofs.Rm
open Go.RowKit Go.Proofs.Heap Go.Proofs.Mem
theorem slice_inj {a b : Option Addr} {n m c d : Nat} (h : Value.slice a n c = .slice b m d) : a = b ∧ c = d := by
  injection h with h1 h2 h3
  exact ⟨h1, h3⟩
theorem peer_at {w : World} {a : Option Addr} {c : Nat} {l : List TPeer} (h : Row w 103 (.slice a l.length c) l.length (l.flatMap peerCells)) (hl : 0 < l.length) : ∃ g off, a = some ⟨g, off, none⟩ ∧ ∀ (i : Nat) (x : TPeer), l[i]? = some x →
    w.cell? ⟨g, off + i * 2, none⟩ = some (.int .i64 x.num) ∧ w.cell? ⟨g, off + i * 2 + 1, none⟩ = some (.string (str x.name)) := by
  obtain ⟨g, off, cap, h1, _, _, _, h5⟩ := row_at peerCells 2 (fun _ => rfl) (by omega) h hl
  exact ⟨g, off, (slice_inj h1).1, fun i x hx => ⟨h5 i x hx 0 (by omega), h5 i x hx 1 (by omega)⟩⟩
theorem tsub_at {w : World} {a : Option Addr} {c : Nat} {l : List TSub} (h : Row w 105 (.slice a l.length c) l.length (l.flatMap tsubCells)) (hl : 0 < l.length) : ∃ g off, a = some ⟨g, off, none⟩ ∧ ∀ (i : Nat) (x : TSub), l[i]? = some x →
    w.cell? ⟨g, off + i * 4, none⟩ = some (.int .i64 x.peer) ∧ w.cell? ⟨g, off + i * 4 + 1, none⟩ = some (.int .i64 x.source) ∧ w.cell? ⟨g, off + i * 4 + 2, none⟩ = some (.int .i64 x.want) ∧ w.cell? ⟨g, off + i * 4 + 3, none⟩ = some (.bool x.paused) := by
  obtain ⟨g, off, cap, h1, _, _, _, h5⟩ := row_at tsubCells 4 (fun _ => rfl) (by omega) h hl
  exact ⟨g, off, (slice_inj h1).1, fun i x hx => ⟨h5 i x hx 0 (by omega), h5 i x hx 1 (by omega), h5 i x hx 2 (by omega), h5 i x hx 3 (by omega)⟩⟩
theorem tsrc_at {w : World} {a : Option Addr} {c : Nat} {l : List (TSrc × Value)} (h : Row w 108 (.slice a l.length c) l.length (l.flatMap tsrcCells)) (hl : 0 < l.length) : ∃ g off, a = some ⟨g, off, none⟩ ∧ ∀ (i : Nat) (x : TSrc × Value), l[i]? = some x →
    w.cell? ⟨g, off + i * 4, none⟩ = some (.int .i64 x.1.num) ∧ w.cell? ⟨g, off + i * 4 + 1, none⟩ = some (.int .i64 x.1.own) ∧ w.cell? ⟨g, off + i * 4 + 2, none⟩ = some x.2 ∧ w.cell? ⟨g, off + i * 4 + 3, none⟩ = some (.bool x.1.muted) := by
  obtain ⟨g, off, cap, h1, _, _, _, h5⟩ := row_at tsrcCells 4 (fun _ => rfl) (by omega) h hl
  exact ⟨g, off, (slice_inj h1).1, fun i x hx => ⟨h5 i x hx 0 (by omega), h5 i x hx 1 (by omega), h5 i x hx 2 (by omega), h5 i x hx 3 (by omega)⟩⟩
theorem take_all {α : Type} {a b : List α} {k : Nat} (h : a.take k = b.take k) (ha : a.length ≤ k) (hb : b.length ≤ k) : a = b := by
  rw [List.take_of_length_le ha, List.take_of_length_le hb] at h
  exact h
set_option maxRecDepth 100000 in
set_option maxHeartbeats 8000000 in
theorem SameTable_any (pv sv uv pv' sv' uv' : Value) (A B : Tab) (w : World) (h1 : TabAt w pv sv uv A) (h2 : TabAt w pv' sv' uv' B) :
    Calls Tryz.prog 20 #[.agg #[pv, sv, uv], .agg #[pv', sv', uv']] w fun e w' => e = .returned (.bool (decide (A = B))) ∧ Below w.heap.size w w' := by
  obtain ⟨P, S, U⟩ := A
  obtain ⟨P', S', U'⟩ := B
  obtain ⟨hp, ⟨ms, hms, hs, hr⟩, hu⟩ := h1
  obtain ⟨hp', ⟨ms', hms', hs', hr'⟩, hu'⟩ := h2
  dsimp only at *
  have m1 := hp.len
  have m2 := hs.len
  have m3 := hu.len
  obtain ⟨pa, pc, rfl, _⟩ := id hp
  obtain ⟨sa, sc, rfl, _⟩ := id hs
  obtain ⟨ua, uc, rfl, _⟩ := id hu
  obtain ⟨pa', pc', rfl, _⟩ := id hp'
  obtain ⟨sa', sc', rfl, _⟩ := id hs'
  obtain ⟨ua', uc', rfl, _⟩ := id hu'
  have HP : Hid (∀ w', Below w.heap.size w w' → Row w' 103 (.slice pa P.length pc) P.length (P.flatMap peerCells) ∧ Row w' 103 (.slice pa' P'.length pc') P'.length (P'.flatMap peerCells)) := fun w' hb => ⟨hp.below hb, hp'.below hb⟩
  have HU : Hid (∀ w', Below w.heap.size w w' → Row w' 105 (.slice ua U.length uc) U.length (U.flatMap tsubCells) ∧ Row w' 105 (.slice ua' U'.length uc') U'.length (U'.flatMap tsubCells)) := fun w' hb => ⟨hu.below hb, hu'.below hb⟩
  have HS : Hid (∀ w', Below w.heap.size w w' → Row w' 108 (.slice sa ms.length sc) ms.length (ms.flatMap tsrcCells) ∧ Row w' 108 (.slice sa' ms'.length sc') ms'.length (ms'.flatMap tsrcCells) ∧ (∀ m ∈ ms, Row w' 66 m.2 m.1.ss.length (u32s m.1.ss)) ∧ (∀ m ∈ ms', Row w' 66 m.2 m.1.ss.length (u32s m.1.ss))) := fun w' hb => ⟨hs.below hb, hs'.below hb, fun m hm => (hr m hm).below hb, fun m hm => (hr' m hm).below hb⟩
  have HMS := Lib.hid hms
  have HMS' := Lib.hid hms'
  have HT : Hid ((⟨P, S, U⟩ : Tab) = ⟨P', S', U'⟩ ↔ P = P' ∧ S = S' ∧ U = U') := by show _ ↔ _; rw [Tab.mk.injEq]
  have HSL : Hid (S.length = ms.length ∧ S'.length = ms'.length) := ⟨by rw [← hms, List.length_map], by rw [← hms', List.length_map]⟩
  clear hp hp' hs hs' hr hr' hu hu' hms hms'
  by_cases l1 : P.length = P'.length
  rotate_left
  · have HF : Hid (¬ (⟨P, S, U⟩ : Tab) = ⟨P', S', U'⟩) := fun e => l1 (by rw [(HT.out.1 e).1])
    have hb : ((P.length : Int) != (P'.length : Int)) = true := by rw [bne_iff_ne]; omega
    have hb2 : (P.length != P'.length) = true := by rw [bne_iff_ne]; omega
    go_enter Tryz.func20, Tryz.ntmps20
    go_wp2
    go_ret
    exact ⟨ret_bool (by rw [decide_eq_false HF.out]), ((Below.refl _ _).alloc (Nat.le_refl _) _).alloc (by simp) _⟩
  by_cases l2 : ms.length = ms'.length
  rotate_left
  · have HF : Hid (¬ (⟨P, S, U⟩ : Tab) = ⟨P', S', U'⟩) := fun e => l2 (by rw [← HSL.out.1, ← HSL.out.2, (HT.out.1 e).2.1])
    have hb : ((ms.length : Int) != (ms'.length : Int)) = true := by rw [bne_iff_ne]; omega
    have hb2 : (ms.length != ms'.length) = true := by rw [bne_iff_ne]; omega
    rw [← l1]
    clear l1
    go_enter Tryz.func20, Tryz.ntmps20
    go_wp2
    go_ret
    exact ⟨ret_bool (by rw [decide_eq_false HF.out]), ((Below.refl _ _).alloc (Nat.le_refl _) _).alloc (by simp) _⟩
  by_cases l3 : U.length = U'.length
  rotate_left
  · have HF : Hid (¬ (⟨P, S, U⟩ : Tab) = ⟨P', S', U'⟩) := fun e => l3 (by rw [(HT.out.1 e).2.2])
    have hb : ((U.length : Int) != (U'.length : Int)) = true := by rw [bne_iff_ne]; omega
    have hb2 : (U.length != U'.length) = true := by rw [bne_iff_ne]; omega
    rw [← l1, ← l2]
    clear l1 l2
    go_enter Tryz.func20, Tryz.ntmps20
    go_wp2
    go_ret
    exact ⟨ret_bool (by rw [decide_eq_false HF.out]), ((Below.refl _ _).alloc (Nat.le_refl _) _).alloc (by simp) _⟩
  have HL1 := Lib.hid l1
  have HL2 := Lib.hid l2
  have HL3 := Lib.hid l3
  rw [← l1, ← l2, ← l3]
  clear l1 l2 l3
  obtain ⟨box1, hbox1⟩ : ∃ o : Obj, o = .cells #[.slice pa P.length pc, .slice sa ms.length sc, .slice ua U.length uc] 51 := ⟨_, rfl⟩
  obtain ⟨box2, hbox2⟩ : ∃ o : Obj, o = .cells #[.slice pa' P.length pc', .slice sa' ms.length sc', .slice ua' U.length uc'] 51 := ⟨_, rfl⟩
  have HB : Hid (∀ w', Below ((w.alloc box1).alloc box2).heap.size ((w.alloc box1).alloc box2) w' →
        (w'.cell? ⟨w.heap.size, 0, none⟩ = some (.slice pa P.length pc) ∧ w'.cell? ⟨w.heap.size, 1, none⟩ = some (.slice sa ms.length sc) ∧ w'.cell? ⟨w.heap.size, 2, none⟩ = some (.slice ua U.length uc)) ∧
        (w'.cell? ⟨w.heap.size + 1, 0, none⟩ = some (.slice pa' P.length pc') ∧ w'.cell? ⟨w.heap.size + 1, 1, none⟩ = some (.slice sa' ms.length sc') ∧ w'.cell? ⟨w.heap.size + 1, 2, none⟩ = some (.slice ua' U.length uc')) ∧ Below w.heap.size w w') := fun w' hb => by
    subst hbox1 hbox2
    exact ⟨⟨cell_below hb ((cell_new1 rfl _ _ _ _).trans rfl), cell_below hb ((cell_new1 rfl _ _ _ _).trans rfl), cell_below hb ((cell_new1 rfl _ _ _ _).trans rfl)⟩,
       ⟨cell_below hb ((cell_new2 rfl _ _ _ _).trans rfl), cell_below hb ((cell_new2 rfl _ _ _ _).trans rfl), cell_below hb ((cell_new2 rfl _ _ _ _).trans rfl)⟩,
       ((((Below.refl _ _).alloc (Nat.le_refl _) _).alloc (by simp) _).trans (hb.mono (by simp; omega)))⟩
  have HB1 := Lib.hid hbox1
  have HB2 := Lib.hid hbox2
  obtain ⟨WW, hWW⟩ : ∃ W : World, W = ((w.alloc box1).alloc box2) := ⟨_, rfl⟩
  rw [← hWW] at HB
  have HW : Hid (WW = ((w.alloc (.cells #[.slice pa P.length pc, .slice sa ms.length sc, .slice ua U.length uc] 51)).alloc (.cells #[.slice pa' P.length pc', .slice sa' ms.length sc', .slice ua' U.length uc'] 51))) := by show _ = _; rw [hWW, hbox1, hbox2]
  clear hbox1 hbox2 hWW HB1 HB2
  go_enter Tryz.func20, Tryz.ntmps20
  go_wp2
  go_loopw [36] (fun i w' => ∃ k : Nat, k ≤ P.length ∧ i = .int .i64 k ∧ Below WW.heap.size WW w' ∧ Hid (P.take k = P'.take k)) (fun i _ => P.length - (intOf i).toNat)
  case atStart => exact ⟨0, by omega, rfl, by rw [HW.out]; exact Below.refl _ _, rfl⟩
  case round =>
    obtain ⟨k, hk, rfl, hbl, HTK⟩ := hrel
    have HBL := Lib.hid hbl
    obtain ⟨⟨a0, a1, a2⟩, ⟨b0, b1, b2⟩, hbw⟩ := HB.out wr hbl
    clear hbl
    by_cases hkl : k < P.length
    · have hkl2 : k < P'.length := by have := HL1.out; omega
      obtain ⟨g1, o1, e1, hc1⟩ := peer_at (HP.out wr hbw).1 (by omega)
      obtain ⟨g2, o2, e2, hc2⟩ := peer_at (HP.out wr hbw).2 (by omega)
      subst e1 e2
      obtain ⟨c0, c1⟩ := hc1 k P[k] (List.getElem?_eq_getElem hkl)
      obtain ⟨d0, d1⟩ := hc2 k P'[k] (List.getElem?_eq_getElem hkl2)
      clear hc1 hc2
      have HEQ : Hid (P[k] = P'[k] → P.take (k + 1) = P'.take (k + 1)) := take_eq_succ hkl hkl2 HTK.out
      have HNE : Hid (¬ P[k] = P'[k] → ¬ (⟨P, S, U⟩ : Tab) = ⟨P', S', U'⟩) := fun h e => h (by have := (HT.out.1 e).1; subst this; rfl)
      generalize P[k] = x at *
      generalize P'[k] = y at *
      obtain ⟨x0, x1⟩ := x
      obtain ⟨y0, y1⟩ := y
      dsimp only at c0 c1 d0 d1
      by_cases f0 : x0 = y0
      · by_cases f1 : x1 = y1
        · have HF := Lib.hid (HEQ.out (by rw [f0, f1]))
          subst f0 f1
          clear HEQ HNE
          go_wp2
          go_quiet (fail)
          go_wp2
          go_roundw
          case rel => exact ⟨k + 1, by omega, by go_num, below_drewN HBL.out _, HF.out⟩
          case measure => simp [intOf]; omega
        · have HF := Lib.hid (HNE.out (fun e => f1 (by injection e)))
          have hq : ((str x1).toList == (str y1).toList) = false := by rw [beq_eq_false_iff_ne, ByteArray.toList_eq, ByteArray.toList_eq]; exact f1
          subst f0
          clear HEQ HNE f1
          go_wp2
          go_quiet (fail)
          go_wp2
          go_ret
          exact ⟨ret_bool (by rw [decide_eq_false HF.out]), below_drewN hbw _⟩
      · have HF := Lib.hid (HNE.out (fun e => f0 (by injection e)))
        clear HEQ HNE
        go_wp2
        go_quiet (fail)
        go_wp2
        go_ret
        exact ⟨ret_bool (by rw [decide_eq_false HF.out]), below_drewN hbw _⟩
    · have HPP : Hid (P = P') := take_all HTK.out (by omega) (by have := HL1.out; omega)
      clear HTK
      obtain ⟨wo, rfl⟩ : ∃ wo : World, wo = wr := ⟨_, rfl⟩
      go_wp2
      go_loopw [54] (fun i w' => ∃ k : Nat, k ≤ U.length ∧ i = .int .i64 k ∧ Below WW.heap.size WW w' ∧ Hid (U.take k = U'.take k)) (fun i _ => U.length - (intOf i).toNat)
      case atStart => exact ⟨0, by omega, rfl, HBL.out, rfl⟩
      case round =>
        clear HBL a0 a1 a2 b0 b1 b2 hbw
        obtain ⟨k, hk, rfl, hbl, HTK⟩ := hrel
        have HBL := Lib.hid hbl
        obtain ⟨⟨a0, a1, a2⟩, ⟨b0, b1, b2⟩, hbw⟩ := HB.out wr hbl
        clear hbl
        by_cases hkl : k < U.length
        · have hkl2 : k < U'.length := by have := HL3.out; omega
          obtain ⟨g1, o1, e1, hc1⟩ := tsub_at (HU.out wr hbw).1 (by omega)
          obtain ⟨g2, o2, e2, hc2⟩ := tsub_at (HU.out wr hbw).2 (by omega)
          subst e1 e2
          obtain ⟨c0, c1, c2, c3⟩ := hc1 k U[k] (List.getElem?_eq_getElem hkl)
          obtain ⟨d0, d1, d2, d3⟩ := hc2 k U'[k] (List.getElem?_eq_getElem hkl2)
          clear hc1 hc2
          have HEQ : Hid (U[k] = U'[k] → U.take (k + 1) = U'.take (k + 1)) := take_eq_succ hkl hkl2 HTK.out
          have HNE : Hid (¬ U[k] = U'[k] → ¬ (⟨P, S, U⟩ : Tab) = ⟨P', S', U'⟩) := fun h e => h (by have := (HT.out.1 e).2.2; subst this; rfl)
          generalize U[k] = x at *
          generalize U'[k] = y at *
          obtain ⟨x0, x1, x2, x3⟩ := x
          obtain ⟨y0, y1, y2, y3⟩ := y
          dsimp only at c0 c1 c2 c3 d0 d1 d2 d3
          by_cases f0 : x0 = y0
          rotate_left
          · have HF := Lib.hid (HNE.out (fun e => f0 (by injection e)))
            clear HEQ HNE
            go_wp2
            go_quiet (fail)
            go_wp2
            go_ret
            exact ⟨ret_bool (by rw [decide_eq_false HF.out]), below_drewN hbw _⟩
          subst f0
          by_cases f1 : x1 = y1
          rotate_left
          · have HF := Lib.hid (HNE.out (fun e => f1 (by injection e)))
            clear HEQ HNE
            go_wp2
            go_quiet (fail)
            go_wp2
            go_ret
            exact ⟨ret_bool (by rw [decide_eq_false HF.out]), below_drewN hbw _⟩
          subst f1
          by_cases f2 : x2 = y2
          rotate_left
          · have HF := Lib.hid (HNE.out (fun e => f2 (by injection e)))
            clear HEQ HNE
            go_wp2
            go_quiet (fail)
            go_wp2
            go_ret
            exact ⟨ret_bool (by rw [decide_eq_false HF.out]), below_drewN hbw _⟩
          subst f2
          by_cases f3 : x3 = y3
          rotate_left
          · have HF := Lib.hid (HNE.out (fun e => f3 (by injection e)))
            have hq : (x3 == y3) = false := by rw [beq_eq_false_iff_ne]; exact f3
            clear HEQ HNE
            go_wp2
            go_quiet (fail)
            go_wp2
            go_ret
            exact ⟨ret_bool (by rw [decide_eq_false HF.out]), below_drewN hbw _⟩
          subst f3
          have HF := Lib.hid (HEQ.out rfl)
          clear HEQ HNE
          go_wp2
          go_quiet (fail)
          go_wp2
          go_roundw
          case rel => exact ⟨k + 1, by omega, by go_num, below_drewN HBL.out _, HF.out⟩
          case measure => simp [intOf]; omega
        · have HUU : Hid (U = U') := take_all HTK.out (by omega) (by have := HL3.out; omega)
          clear HTK
          obtain ⟨wo2, rfl⟩ : ∃ wo : World, wo = wr := ⟨_, rfl⟩
          go_wp2
          go_loopw [72] (fun i w' => ∃ k : Nat, k ≤ ms.length ∧ i = .int .i64 k ∧ Below WW.heap.size WW w' ∧ Hid ((ms.map Prod.fst).take k = (ms'.map Prod.fst).take k)) (fun i _ => ms.length - (intOf i).toNat)
          case atStart => exact ⟨0, by omega, rfl, HBL.out, rfl⟩
          case round =>
            clear HBL a0 a1 a2 b0 b1 b2 hbw
            obtain ⟨k, hk, rfl, hbl, HTK⟩ := hrel
            have HBL := Lib.hid hbl
            obtain ⟨⟨a0, a1, a2⟩, ⟨b0, b1, b2⟩, hbw⟩ := HB.out wr hbl
            clear hbl
            by_cases hkl : k < ms.length
            · have hkl2 : k < ms'.length := by have := HL2.out; omega
              obtain ⟨q1, q2, q3, q4⟩ := HS.out wr hbw
              obtain ⟨g1, o1, e1, hc1⟩ := tsrc_at q1 (by omega)
              obtain ⟨g2, o2, e2, hc2⟩ := tsrc_at q2 (by omega)
              subst e1 e2
              obtain ⟨c0, c1, c2, c3⟩ := hc1 k ms[k] (List.getElem?_eq_getElem hkl)
              obtain ⟨d0, d1, d2, d3⟩ := hc2 k ms'[k] (List.getElem?_eq_getElem hkl2)
              have r1 := q3 ms[k] (List.getElem_mem hkl)
              have r2 := q4 ms'[k] (List.getElem_mem hkl2)
              clear hc1 hc2 q1 q2 q3 q4
              have HEQ : Hid (ms[k].1 = ms'[k].1 → (ms.map Prod.fst).take (k + 1) = (ms'.map Prod.fst).take (k + 1)) := fun e => take_eq_succ (by rw [List.length_map]; exact hkl) (by rw [List.length_map]; exact hkl2) HTK.out (by rw [List.getElem_map, List.getElem_map]; exact e)
              have HNE : Hid (¬ ms[k].1 = ms'[k].1 → ¬ (⟨P, S, U⟩ : Tab) = ⟨P', S', U'⟩) := fun h e => h (by
                have h1 := (HT.out.1 e).2.1
                rw [← HMS.out, ← HMS'.out] at h1
                have h2 : (ms.map Prod.fst)[k]? = (ms'.map Prod.fst)[k]? := by rw [h1]
                rw [List.getElem?_map, List.getElem?_map, List.getElem?_eq_getElem hkl, List.getElem?_eq_getElem hkl2] at h2
                simpa using h2)
              generalize ms[k] = x at *
              generalize ms'[k] = y at *
              obtain ⟨x, xv⟩ := x
              obtain ⟨y, yv⟩ := y
              dsimp only at *
              obtain ⟨xa, xc, rfl, _⟩ := id r1
              obtain ⟨ya, yc, rfl, _⟩ := id r2
              have CS : Hid (∀ w1, Below wr.heap.size wr w1 → _) := fun w1 h => SameSource_any x y xa ya xc yc w1 (r1.below h) (r2.below h)
              clear r1 r2
              by_cases he : x = y
              · have HF := Lib.hid (HEQ.out he)
                rw [decide_eq_true he] at CS
                clear HEQ HNE he
                go_wp2
                go_still_tail 10, (by kernel_rfl)
                go_wp2_with (go_at_call 45; refine (CS.out _ (by repeat (first | exact Below.refl _ _ | refine Below.drew ?_))).mono ?_; rintro e w2 ⟨rfl, hb2⟩)
                go_roundw
                case rel => exact ⟨k + 1, by omega, by go_num, HBL.out.drew.trans (hb2.mono HBL.out.size), HF.out⟩
                case measure => simp [intOf]; omega
              · have HF := Lib.hid (HNE.out he)
                rw [decide_eq_false he] at CS
                clear HEQ HNE he
                go_wp2
                go_still_tail 10, (by kernel_rfl)
                go_wp2_with (go_at_call 45; refine (CS.out _ (by repeat (first | exact Below.refl _ _ | refine Below.drew ?_))).mono ?_; rintro e w2 ⟨rfl, hb2⟩)
                go_ret
                exact ⟨ret_bool (by rw [decide_eq_false HF.out]), hbw.drew.trans (hb2.mono hbw.size)⟩
            · have HF : Hid ((⟨P, S, U⟩ : Tab) = ⟨P', S', U'⟩) := HT.out.2 ⟨HPP.out, by rw [← HMS.out, ← HMS'.out]; exact take_all HTK.out (by rw [List.length_map]; omega) (by rw [List.length_map]; have := HL2.out; omega), HUU.out⟩
              go_wp2
              go_ret
              exact ⟨ret_bool (by rw [decide_eq_true HF.out]), hbw⟩
end Go.Proofs.Rm
namespace Go.Proofs.Rm
open Go.RowKit Go.Proofs.Heap Go.Proofs.Mem
open Go.Proofs.Lab (may key Tabs)
/-- A slice value holds operations. -/
structure OpsRow (w : World) (v : Value) (l : List OpV) : Prop where
  row : Row w 32 v l.length (l.flatMap opvCells)
  each : ∀ x ∈ l, Row w 66 (.slice x.sa x.o.ssrcs.length x.sc) x.o.ssrcs.length (u32s x.o.ssrcs) ∧ x.o.name.length < 9223372036854775807
theorem OpsRow.below {w w' : World} {v : Value} {l : List OpV} (h : OpsRow w v l) (hb : Below w.heap.size w w') : OpsRow w' v l := ⟨h.row.below hb, fun x hx => ⟨(h.each x hx).1.below hb, (h.each x hx).2⟩⟩
theorem row_atR {α : Type} (f : α → List Value) (k : Nat) (hk : ∀ x, (f x).length = k) (hk0 : 0 < k) {w : World} {v : Value} {n : Nat} {l : List α} (h : RRow w v n (l.flatMap f)) (hl : 0 < l.length) :
    ∃ g off cap, v = .slice (some ⟨g, off, none⟩) n cap ∧ n ≤ cap ∧ cap ≤ maxLen ∧ g < w.heap.size ∧ ∀ (i : Nat) (x : α), l[i]? = some x → ∀ j, j < k → w.cell? ⟨g, off + i * k + j, none⟩ = (f x)[j]? := by
  have hfl := flat_length f k hk l
  obtain ⟨g, off, cap, h1, h2, h3, h4, h5⟩ := h.open (by rw [hfl]; exact Nat.mul_pos hl hk0)
  refine ⟨g, off, cap, h1, h2, h3, h4, fun i x hx j hj => ?_⟩
  have hi : i < l.length := (List.getElem?_eq_some_iff.1 hx).1
  have hlt : i * k + j < l.length * k := by
    have h6 : (i + 1) * k ≤ l.length * k := Nat.mul_le_mul_right _ hi
    rw [Nat.succ_mul] at h6
    omega
  rw [Nat.add_assoc, h5 _ (by rw [hfl]; exact hlt)]
  exact flat_at f k hk l i j x hx hj
theorem opsR_at {w : World} {a : Option Addr} {c : Nat} {l : List OpV} (h : OpsR w (.slice a l.length c) l) (hl : 0 < l.length) : ∃ g off, a = some ⟨g, off, none⟩ ∧ ∀ (i : Nat) (x : OpV), l[i]? = some x →
    w.cell? ⟨g, off + i * 7, none⟩ = some (.int .i64 x.o.kind) ∧ w.cell? ⟨g, off + i * 7 + 1, none⟩ = some (.int .i64 x.o.peer) ∧ w.cell? ⟨g, off + i * 7 + 2, none⟩ = some (.int .i64 x.o.source) ∧ w.cell? ⟨g, off + i * 7 + 3, none⟩ = some (.int .i64 x.o.layer) ∧ w.cell? ⟨g, off + i * 7 + 4, none⟩ = some (.string (str x.o.name)) ∧ w.cell? ⟨g, off + i * 7 + 5, none⟩ = some (.slice x.sa x.o.ssrcs.length x.sc) ∧ w.cell? ⟨g, off + i * 7 + 6, none⟩ = some (.slice x.ba x.bl x.bc) := by
  obtain ⟨g, off, cap, h1, _, _, _, h5⟩ := row_atR opvCells 7 (fun _ => rfl) (by omega) h.row hl
  exact ⟨g, off, (slice_inj h1).1, fun i x hx => ⟨h5 i x hx 0 (by omega), h5 i x hx 1 (by omega), h5 i x hx 2 (by omega), h5 i x hx 3 (by omega), h5 i x hx 4 (by omega), h5 i x hx 5 (by omega), h5 i x hx 6 (by omega)⟩⟩
theorem OpsRow.fr {w w' : World} {v : Value} {l : List OpV} {b : Nat} {R : Room} (h : OpsRow w v l) (hf : Fr w.heap.size (· = b) w w') (hR : RoomAt w b R) : OpsRow w' v l :=
  ⟨h.row.fr hf (Nat.le_refl _) (hR.typ (by decide)), fun x hx => ⟨(h.each x hx).1.fr hf (Nat.le_refl _) (hR.typ (by decide)), (h.each x hx).2⟩⟩
theorem ops_at {w : World} {a : Option Addr} {c : Nat} {l : List OpV} (h : OpsRow w (.slice a l.length c) l) (hl : 0 < l.length) : ∃ g off, a = some ⟨g, off, none⟩ ∧ ∀ (i : Nat) (x : OpV), l[i]? = some x →
    w.cell? ⟨g, off + i * 7, none⟩ = some (.int .i64 x.o.kind) ∧ w.cell? ⟨g, off + i * 7 + 1, none⟩ = some (.int .i64 x.o.peer) ∧ w.cell? ⟨g, off + i * 7 + 2, none⟩ = some (.int .i64 x.o.source) ∧ w.cell? ⟨g, off + i * 7 + 3, none⟩ = some (.int .i64 x.o.layer) ∧ w.cell? ⟨g, off + i * 7 + 4, none⟩ = some (.string (str x.o.name)) ∧ w.cell? ⟨g, off + i * 7 + 5, none⟩ = some (.slice x.sa x.o.ssrcs.length x.sc) ∧ w.cell? ⟨g, off + i * 7 + 6, none⟩ = some (.slice x.ba x.bl x.bc) := by
  obtain ⟨g, off, cap, h1, _, _, _, h5⟩ := row_at opvCells 7 (fun _ => rfl) (by omega) h.row hl
  exact ⟨g, off, (slice_inj h1).1, fun i x hx => ⟨h5 i x hx 0 (by omega), h5 i x hx 1 (by omega), h5 i x hx 2 (by omega), h5 i x hx 3 (by omega), h5 i x hx 4 (by omega), h5 i x hx 5 (by omega), h5 i x hx 6 (by omega)⟩⟩
/-- The room after some operations; the slice values of its sources are as they may be. -/
inductive Runs : List Op → Room → Prop
  | nil : Runs [] empty
  | snoc {l : List Op} {R : Room} (o : Op) (sv : Value) : Runs l R → Runs (l ++ [o]) (doo R o sv).1.2
theorem Runs.inv {l : List Op} {R : Room} (h : Runs l R) : Inv R := by
  induction h with
  | nil => exact inv_empty
  | snoc o sv _ ih => exact inv_doo ih o sv
theorem inv_short {R : Room} (h : Inv R) : ∀ n, (R.src n).there = true → (R.src n).ss.length ≤ 1000000 := fun n ht => by have := (h.srcAt n ht).2.2.2.2.2.1; omega
/-- Of a room that keeps what is not there empty, every list of SSRCs is short. -/
structure Slim (R : Room) : Prop where
  short : ∀ n, (R.src n).ss.length ≤ 1000000
theorem slim_setSrc {R : Room} (h : Slim R) (n : Nat) (x : Src) (hx : x.ss.length ≤ 1000000) : Slim (R.setSrc n x) := ⟨fun m => by rw [setSrc_src]; split; exact hx; exact h.short m⟩
theorem slim_gone {R : Room} (h : Slim R) (n : Nat) : Slim (gone R n).2 := ⟨fun m => by rw [gone_src]; split; exact Nat.zero_le _; exact h.short m⟩
theorem slim_leave {R : Room} (h : Slim R) (p : Nat) : Slim (leave R p).2 := by
  have h1 : Slim (leave1 p R 9).2 := ⟨fun m => by rw [(leave1_names R p 9).2]; exact h.short m⟩
  exact ⟨fun m => by show ((leave2 (leave1 p R 9).2 p 9).2.src m).ss.length ≤ _; rw [leave2_src]; split; exact Nat.zero_le _; exact h1.short m⟩
theorem slim_turns {R : Room} {o : Op} (h : Slim R) (ok : Ok R o) (sv : Value) : Slim (turns R o sv).2 := by
  unfold turns
  dsimp only
  by_cases k2 : o.kind = 2
  · rw [if_pos k2]; exact ⟨h.short⟩
  rw [if_neg k2]
  by_cases k3 : o.kind = 3
  · rw [if_pos k3]; exact slim_leave h _
  rw [if_neg k3]
  by_cases k4 : o.kind = 4
  · rw [if_pos k4]; exact slim_setSrc h _ _ (by have := (pub_ok (ok.pub k4)).2.1; show o.ssrcs.length ≤ _; omega)
  rw [if_neg k4]
  by_cases k5 : o.kind = 5
  · rw [if_pos k5]; exact slim_gone h _
  rw [if_neg k5]
  by_cases k6 : o.kind = 6
  · rw [if_pos k6]; exact ⟨h.short⟩
  rw [if_neg k6]
  by_cases k7 : o.kind = 7
  · rw [if_pos k7]; exact ⟨h.short⟩
  rw [if_neg k7]
  by_cases k8 : o.kind = 8
  · rw [if_pos k8]; exact slim_setSrc h _ _ (h.short _)
  rw [if_neg k8]
  by_cases k9 : o.kind = 9
  · rw [if_pos k9]; exact slim_setSrc h _ _ (h.short _)
  rw [if_neg k9]
  split
  · exact ⟨h.short⟩
  split
  · exact ⟨h.short⟩
  split
  · exact ⟨h.short⟩
  · exact h
theorem slim_doo {R : Room} (h : Slim R) (o : Op) (sv : Value) : Slim (doo R o sv).1.2 := by
  unfold doo
  by_cases h0 : wrong R o = 0
  · rw [if_neg (by simpa using h0)]; exact slim_turns h (wrong_ok h0) sv
  · rw [if_pos h0]; exact h
theorem slim_empty : Slim empty := ⟨fun _ => Nat.zero_le _⟩
theorem slim_goneOp {R : Room} (h : Slim R) (p x : Int) : Slim (goneOp R p x).1.2 := by
  unfold goneOp
  split
  · exact h
  · exact slim_gone h _
def op1 : Op := ⟨2, 1, 0, 0, [97, 110, 110], []⟩
def op2 : Op := ⟨2, 2, 0, 0, [98, 111, 98], []⟩
def op3 : Op := ⟨4, 1, 3, 0, [], [10, 11]⟩
def op4 : Op := ⟨6, 2, 3, 1, [], []⟩
def op5 : Op := ⟨2, 3, 0, 0, [65, 78, 78], []⟩
end Go.Proofs.Rm
namespace Go.Proofs.Rm
open Go.RowKit Go.Proofs.Heap Go.Proofs.Mem
open Go.Proofs.Lab (may key Tabs)
theorem doo_wrong {R : Room} {o : Op} {sv : Value} (h : (doo R o sv).2 ≠ 0) : (doo R o sv).1 = ([], R) := by
  unfold doo at h ⊢
  by_cases h0 : wrong R o = 0
  · rw [if_neg (by simpa using h0)] at h; exact absurd rfl h
  · rw [if_pos h0]
theorem fr_below {B b : Nat} {w3 w5 : World} (h : Fr w3.heap.size (· = b) w3 w5) (hb : B ≤ b) (h3 : B ≤ w3.heap.size) : Below B w3 w5 := Fr.below (h.mono h3 (fun k hk hs => by have hs : k = b := hs; omega))
theorem fr_alloc {b : Nat} {w3 w5 : World} {o : Obj} (h : Fr (w3.alloc o).heap.size (· = b) (w3.alloc o) w5) : Fr w3.heap.size (· = b) w3 w5 := (Fr.of_below _ (below_alloc w3 o)).trans (h.mono (by simp) (fun _ _ h => h))
end Go.Proofs.Rm
