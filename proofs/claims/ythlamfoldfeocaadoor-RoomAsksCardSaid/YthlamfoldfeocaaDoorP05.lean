/- Several texts in one: The walks of the reference's comparisons: SameTable. The reference's room: what it computes, by plain lists; and in memory: one block of three slice cells. The walks of the reference's room: PeerAt, SourceAt, SubAt. The walks of the reference's room: Of, Owner, Hears. -/
import Derived.StillTailTactics
import Derived.Test.YthlamfoldfeocaaDoorP04
namespace Go.Proofs.Rm
open Go.RowKit Go.Proofs.Heap Go.Proofs.Mem
theorem slice_inj {a b : Option Addr} {n m c d : Nat} (h : Value.slice a n c = .slice b m d) : a = b ∧ c = d := by
  injection h with h1 h2 h3
  exact ⟨h1, h3⟩
theorem peer_at {w : World} {a : Option Addr} {c : Nat} {l : List TPeer} (h : Row w 66 (.slice a l.length c) l.length (l.flatMap peerCells)) (hl : 0 < l.length) : ∃ g off, a = some ⟨g, off, none⟩ ∧ ∀ (i : Nat) (x : TPeer), l[i]? = some x →
    w.cell? ⟨g, off + i * 2, none⟩ = some (.int .i64 x.num) ∧ w.cell? ⟨g, off + i * 2 + 1, none⟩ = some (.string (str x.name)) := by
  obtain ⟨g, off, cap, h1, _, _, _, h5⟩ := row_at peerCells 2 (fun _ => rfl) (by omega) h hl
  exact ⟨g, off, (slice_inj h1).1, fun i x hx => ⟨h5 i x hx 0 (by omega), h5 i x hx 1 (by omega)⟩⟩
theorem tsub_at {w : World} {a : Option Addr} {c : Nat} {l : List TSub} (h : Row w 48 (.slice a l.length c) l.length (l.flatMap tsubCells)) (hl : 0 < l.length) : ∃ g off, a = some ⟨g, off, none⟩ ∧ ∀ (i : Nat) (x : TSub), l[i]? = some x →
    w.cell? ⟨g, off + i * 4, none⟩ = some (.int .i64 x.peer) ∧ w.cell? ⟨g, off + i * 4 + 1, none⟩ = some (.int .i64 x.source) ∧ w.cell? ⟨g, off + i * 4 + 2, none⟩ = some (.int .i64 x.want) ∧ w.cell? ⟨g, off + i * 4 + 3, none⟩ = some (.bool x.paused) := by
  obtain ⟨g, off, cap, h1, _, _, _, h5⟩ := row_at tsubCells 4 (fun _ => rfl) (by omega) h hl
  exact ⟨g, off, (slice_inj h1).1, fun i x hx => ⟨h5 i x hx 0 (by omega), h5 i x hx 1 (by omega), h5 i x hx 2 (by omega), h5 i x hx 3 (by omega)⟩⟩
theorem tsrc_at {w : World} {a : Option Addr} {c : Nat} {l : List (TSrc × Value)} (h : Row w 44 (.slice a l.length c) l.length (l.flatMap tsrcCells)) (hl : 0 < l.length) : ∃ g off, a = some ⟨g, off, none⟩ ∧ ∀ (i : Nat) (x : TSrc × Value), l[i]? = some x →
    w.cell? ⟨g, off + i * 4, none⟩ = some (.int .i64 x.1.num) ∧ w.cell? ⟨g, off + i * 4 + 1, none⟩ = some (.int .i64 x.1.own) ∧ w.cell? ⟨g, off + i * 4 + 2, none⟩ = some x.2 ∧ w.cell? ⟨g, off + i * 4 + 3, none⟩ = some (.bool x.1.muted) := by
  obtain ⟨g, off, cap, h1, _, _, _, h5⟩ := row_at tsrcCells 4 (fun _ => rfl) (by omega) h hl
  exact ⟨g, off, (slice_inj h1).1, fun i x hx => ⟨h5 i x hx 0 (by omega), h5 i x hx 1 (by omega), h5 i x hx 2 (by omega), h5 i x hx 3 (by omega)⟩⟩
theorem take_all {α : Type} {a b : List α} {k : Nat} (h : a.take k = b.take k) (ha : a.length ≤ k) (hb : b.length ≤ k) : a = b := by
  rw [List.take_of_length_le ha, List.take_of_length_le hb] at h
  exact h
set_option maxRecDepth 100000 in
set_option maxHeartbeats 8000000 in
theorem SameTable_any (pv sv uv pv' sv' uv' : Value) (A B : Tab) (w : World) (h1 : TabAt w pv sv uv A) (h2 : TabAt w pv' sv' uv' B) :
    Calls Tryd.prog 26 #[.agg #[pv, sv, uv], .agg #[pv', sv', uv']] w fun e w' => e = .returned (.bool (decide (A = B))) ∧ Below w.heap.size w w' := by
  obtain ⟨P, S, U⟩ := A
  obtain ⟨P', S', U'⟩ := B
  obtain ⟨hp, ⟨ms, hms, hs, hr⟩, hu⟩ := h1
  obtain ⟨hp', ⟨ms', hms', hs', hr'⟩, hu'⟩ := h2
  dsimp only at *
  have m1 := hp.len
  have m2 := hs.len
  have m3 := hu.len
  obtain ⟨pa, pc, rfl, _⟩ := id hp
  obtain ⟨sa, sc, rfl, _⟩ := id hs
  obtain ⟨ua, uc, rfl, _⟩ := id hu
  obtain ⟨pa', pc', rfl, _⟩ := id hp'
  obtain ⟨sa', sc', rfl, _⟩ := id hs'
  obtain ⟨ua', uc', rfl, _⟩ := id hu'
  have HP : Hid (∀ w', Below w.heap.size w w' → Row w' 66 (.slice pa P.length pc) P.length (P.flatMap peerCells) ∧ Row w' 66 (.slice pa' P'.length pc') P'.length (P'.flatMap peerCells)) := fun w' hb => ⟨hp.below hb, hp'.below hb⟩
  have HU : Hid (∀ w', Below w.heap.size w w' → Row w' 48 (.slice ua U.length uc) U.length (U.flatMap tsubCells) ∧ Row w' 48 (.slice ua' U'.length uc') U'.length (U'.flatMap tsubCells)) := fun w' hb => ⟨hu.below hb, hu'.below hb⟩
  have HS : Hid (∀ w', Below w.heap.size w w' → Row w' 44 (.slice sa ms.length sc) ms.length (ms.flatMap tsrcCells) ∧ Row w' 44 (.slice sa' ms'.length sc') ms'.length (ms'.flatMap tsrcCells) ∧ (∀ m ∈ ms, Row w' 23 m.2 m.1.ss.length (u32s m.1.ss)) ∧ (∀ m ∈ ms', Row w' 23 m.2 m.1.ss.length (u32s m.1.ss))) := fun w' hb => ⟨hs.below hb, hs'.below hb, fun m hm => (hr m hm).below hb, fun m hm => (hr' m hm).below hb⟩
  have HMS := Lib.hid hms
  have HMS' := Lib.hid hms'
  have HT : Hid ((⟨P, S, U⟩ : Tab) = ⟨P', S', U'⟩ ↔ P = P' ∧ S = S' ∧ U = U') := by show _ ↔ _; rw [Tab.mk.injEq]
  have HSL : Hid (S.length = ms.length ∧ S'.length = ms'.length) := ⟨by rw [← hms, List.length_map], by rw [← hms', List.length_map]⟩
  clear hp hp' hs hs' hr hr' hu hu' hms hms'
  by_cases l1 : P.length = P'.length
  rotate_left
  · have HF : Hid (¬ (⟨P, S, U⟩ : Tab) = ⟨P', S', U'⟩) := fun e => l1 (by rw [(HT.out.1 e).1])
    have hb : ((P.length : Int) != (P'.length : Int)) = true := by rw [bne_iff_ne]; omega
    have hb2 : (P.length != P'.length) = true := by rw [bne_iff_ne]; omega
    go_enter Tryd.func26, Tryd.ntmps26
    go_wp2
    go_ret
    exact ⟨ret_bool (by rw [decide_eq_false HF.out]), ((Below.refl _ _).alloc (Nat.le_refl _) _).alloc (by simp) _⟩
  by_cases l2 : ms.length = ms'.length
  rotate_left
  · have HF : Hid (¬ (⟨P, S, U⟩ : Tab) = ⟨P', S', U'⟩) := fun e => l2 (by rw [← HSL.out.1, ← HSL.out.2, (HT.out.1 e).2.1])
    have hb : ((ms.length : Int) != (ms'.length : Int)) = true := by rw [bne_iff_ne]; omega
    have hb2 : (ms.length != ms'.length) = true := by rw [bne_iff_ne]; omega
    rw [← l1]
    clear l1
    go_enter Tryd.func26, Tryd.ntmps26
    go_wp2
    go_ret
    exact ⟨ret_bool (by rw [decide_eq_false HF.out]), ((Below.refl _ _).alloc (Nat.le_refl _) _).alloc (by simp) _⟩
  by_cases l3 : U.length = U'.length
  rotate_left
  · have HF : Hid (¬ (⟨P, S, U⟩ : Tab) = ⟨P', S', U'⟩) := fun e => l3 (by rw [(HT.out.1 e).2.2])
    have hb : ((U.length : Int) != (U'.length : Int)) = true := by rw [bne_iff_ne]; omega
    have hb2 : (U.length != U'.length) = true := by rw [bne_iff_ne]; omega
    rw [← l1, ← l2]
    clear l1 l2
    go_enter Tryd.func26, Tryd.ntmps26
    go_wp2
    go_ret
    exact ⟨ret_bool (by rw [decide_eq_false HF.out]), ((Below.refl _ _).alloc (Nat.le_refl _) _).alloc (by simp) _⟩
  have HL1 := Lib.hid l1
  have HL2 := Lib.hid l2
  have HL3 := Lib.hid l3
  rw [← l1, ← l2, ← l3]
  clear l1 l2 l3
  obtain ⟨box1, hbox1⟩ : ∃ o : Obj, o = .cells #[.slice pa P.length pc, .slice sa ms.length sc, .slice ua U.length uc] 61 := ⟨_, rfl⟩
  obtain ⟨box2, hbox2⟩ : ∃ o : Obj, o = .cells #[.slice pa' P.length pc', .slice sa' ms.length sc', .slice ua' U.length uc'] 61 := ⟨_, rfl⟩
  have HB : Hid (∀ w', Below ((w.alloc box1).alloc box2).heap.size ((w.alloc box1).alloc box2) w' →
        (w'.cell? ⟨w.heap.size, 0, none⟩ = some (.slice pa P.length pc) ∧ w'.cell? ⟨w.heap.size, 1, none⟩ = some (.slice sa ms.length sc) ∧ w'.cell? ⟨w.heap.size, 2, none⟩ = some (.slice ua U.length uc)) ∧
        (w'.cell? ⟨w.heap.size + 1, 0, none⟩ = some (.slice pa' P.length pc') ∧ w'.cell? ⟨w.heap.size + 1, 1, none⟩ = some (.slice sa' ms.length sc') ∧ w'.cell? ⟨w.heap.size + 1, 2, none⟩ = some (.slice ua' U.length uc')) ∧ Below w.heap.size w w') := fun w' hb => by
    subst hbox1 hbox2
    exact ⟨⟨cell_below hb ((cell_new1 rfl _ _ _ _).trans rfl), cell_below hb ((cell_new1 rfl _ _ _ _).trans rfl), cell_below hb ((cell_new1 rfl _ _ _ _).trans rfl)⟩,
       ⟨cell_below hb ((cell_new2 rfl _ _ _ _).trans rfl), cell_below hb ((cell_new2 rfl _ _ _ _).trans rfl), cell_below hb ((cell_new2 rfl _ _ _ _).trans rfl)⟩,
       ((((Below.refl _ _).alloc (Nat.le_refl _) _).alloc (by simp) _).trans (hb.mono (by simp; omega)))⟩
  have HB1 := Lib.hid hbox1
  have HB2 := Lib.hid hbox2
  obtain ⟨WW, hWW⟩ : ∃ W : World, W = ((w.alloc box1).alloc box2) := ⟨_, rfl⟩
  rw [← hWW] at HB
  have HW : Hid (WW = ((w.alloc (.cells #[.slice pa P.length pc, .slice sa ms.length sc, .slice ua U.length uc] 61)).alloc (.cells #[.slice pa' P.length pc', .slice sa' ms.length sc', .slice ua' U.length uc'] 61))) := by show _ = _; rw [hWW, hbox1, hbox2]
  clear hbox1 hbox2 hWW HB1 HB2
  go_enter Tryd.func26, Tryd.ntmps26
  go_wp2
  go_loopw [36] (fun i w' => ∃ k : Nat, k ≤ P.length ∧ i = .int .i64 k ∧ Below WW.heap.size WW w' ∧ Hid (P.take k = P'.take k)) (fun i _ => P.length - (intOf i).toNat)
  case atStart => exact ⟨0, by omega, rfl, by rw [HW.out]; exact Below.refl _ _, rfl⟩
  case round =>
    obtain ⟨k, hk, rfl, hbl, HTK⟩ := hrel
    have HBL := Lib.hid hbl
    obtain ⟨⟨a0, a1, a2⟩, ⟨b0, b1, b2⟩, hbw⟩ := HB.out wr hbl
    clear hbl
    by_cases hkl : k < P.length
    · have hkl2 : k < P'.length := by have := HL1.out; omega
      obtain ⟨g1, o1, e1, hc1⟩ := peer_at (HP.out wr hbw).1 (by omega)
      obtain ⟨g2, o2, e2, hc2⟩ := peer_at (HP.out wr hbw).2 (by omega)
      subst e1 e2
      obtain ⟨c0, c1⟩ := hc1 k P[k] (List.getElem?_eq_getElem hkl)
      obtain ⟨d0, d1⟩ := hc2 k P'[k] (List.getElem?_eq_getElem hkl2)
      clear hc1 hc2
      have HEQ : Hid (P[k] = P'[k] → P.take (k + 1) = P'.take (k + 1)) := take_eq_succ hkl hkl2 HTK.out
      have HNE : Hid (¬ P[k] = P'[k] → ¬ (⟨P, S, U⟩ : Tab) = ⟨P', S', U'⟩) := fun h e => h (by have := (HT.out.1 e).1; subst this; rfl)
      generalize P[k] = x at *
      generalize P'[k] = y at *
      obtain ⟨x0, x1⟩ := x
      obtain ⟨y0, y1⟩ := y
      dsimp only at c0 c1 d0 d1
      by_cases f0 : x0 = y0
      · by_cases f1 : x1 = y1
        · have HF := Lib.hid (HEQ.out (by rw [f0, f1]))
          subst f0 f1
          clear HEQ HNE
          go_wp2
          go_quiet (fail)
          go_wp2
          go_roundw
          case rel => exact ⟨k + 1, by omega, by go_num, below_drewN HBL.out _, HF.out⟩
          case measure => simp [intOf]; omega
        · have HF := Lib.hid (HNE.out (fun e => f1 (by injection e)))
          have hq : ((str x1).toList == (str y1).toList) = false := by rw [beq_eq_false_iff_ne, ByteArray.toList_eq, ByteArray.toList_eq]; exact f1
          subst f0
          clear HEQ HNE f1
          go_wp2
          go_quiet (fail)
          go_wp2
          go_ret
          exact ⟨ret_bool (by rw [decide_eq_false HF.out]), below_drewN hbw _⟩
      · have HF := Lib.hid (HNE.out (fun e => f0 (by injection e)))
        clear HEQ HNE
        go_wp2
        go_quiet (fail)
        go_wp2
        go_ret
        exact ⟨ret_bool (by rw [decide_eq_false HF.out]), below_drewN hbw _⟩
    · have HPP : Hid (P = P') := take_all HTK.out (by omega) (by have := HL1.out; omega)
      clear HTK
      obtain ⟨wo, rfl⟩ : ∃ wo : World, wo = wr := ⟨_, rfl⟩
      go_wp2
      go_loopw [54] (fun i w' => ∃ k : Nat, k ≤ U.length ∧ i = .int .i64 k ∧ Below WW.heap.size WW w' ∧ Hid (U.take k = U'.take k)) (fun i _ => U.length - (intOf i).toNat)
      case atStart => exact ⟨0, by omega, rfl, HBL.out, rfl⟩
      case round =>
        clear HBL a0 a1 a2 b0 b1 b2 hbw
        obtain ⟨k, hk, rfl, hbl, HTK⟩ := hrel
        have HBL := Lib.hid hbl
        obtain ⟨⟨a0, a1, a2⟩, ⟨b0, b1, b2⟩, hbw⟩ := HB.out wr hbl
        clear hbl
        by_cases hkl : k < U.length
        · have hkl2 : k < U'.length := by have := HL3.out; omega
          obtain ⟨g1, o1, e1, hc1⟩ := tsub_at (HU.out wr hbw).1 (by omega)
          obtain ⟨g2, o2, e2, hc2⟩ := tsub_at (HU.out wr hbw).2 (by omega)
          subst e1 e2
          obtain ⟨c0, c1, c2, c3⟩ := hc1 k U[k] (List.getElem?_eq_getElem hkl)
          obtain ⟨d0, d1, d2, d3⟩ := hc2 k U'[k] (List.getElem?_eq_getElem hkl2)
          clear hc1 hc2
          have HEQ : Hid (U[k] = U'[k] → U.take (k + 1) = U'.take (k + 1)) := take_eq_succ hkl hkl2 HTK.out
          have HNE : Hid (¬ U[k] = U'[k] → ¬ (⟨P, S, U⟩ : Tab) = ⟨P', S', U'⟩) := fun h e => h (by have := (HT.out.1 e).2.2; subst this; rfl)
          generalize U[k] = x at *
          generalize U'[k] = y at *
          obtain ⟨x0, x1, x2, x3⟩ := x
          obtain ⟨y0, y1, y2, y3⟩ := y
          dsimp only at c0 c1 c2 c3 d0 d1 d2 d3
          by_cases f0 : x0 = y0
          rotate_left
          · have HF := Lib.hid (HNE.out (fun e => f0 (by injection e)))
            clear HEQ HNE
            go_wp2
            go_quiet (fail)
            go_wp2
            go_ret
            exact ⟨ret_bool (by rw [decide_eq_false HF.out]), below_drewN hbw _⟩
          subst f0
          by_cases f1 : x1 = y1
          rotate_left
          · have HF := Lib.hid (HNE.out (fun e => f1 (by injection e)))
            clear HEQ HNE
            go_wp2
            go_quiet (fail)
            go_wp2
            go_ret
            exact ⟨ret_bool (by rw [decide_eq_false HF.out]), below_drewN hbw _⟩
          subst f1
          by_cases f2 : x2 = y2
          rotate_left
          · have HF := Lib.hid (HNE.out (fun e => f2 (by injection e)))
            clear HEQ HNE
            go_wp2
            go_quiet (fail)
            go_wp2
            go_ret
            exact ⟨ret_bool (by rw [decide_eq_false HF.out]), below_drewN hbw _⟩
          subst f2
          by_cases f3 : x3 = y3
          rotate_left
          · have HF := Lib.hid (HNE.out (fun e => f3 (by injection e)))
            have hq : (x3 == y3) = false := by rw [beq_eq_false_iff_ne]; exact f3
            clear HEQ HNE
            go_wp2
            go_quiet (fail)
            go_wp2
            go_ret
            exact ⟨ret_bool (by rw [decide_eq_false HF.out]), below_drewN hbw _⟩
          subst f3
          have HF := Lib.hid (HEQ.out rfl)
          clear HEQ HNE
          go_wp2
          go_quiet (fail)
          go_wp2
          go_roundw
          case rel => exact ⟨k + 1, by omega, by go_num, below_drewN HBL.out _, HF.out⟩
          case measure => simp [intOf]; omega
        · have HUU : Hid (U = U') := take_all HTK.out (by omega) (by have := HL3.out; omega)
          clear HTK
          obtain ⟨wo2, rfl⟩ : ∃ wo : World, wo = wr := ⟨_, rfl⟩
          go_wp2
          go_loopw [72] (fun i w' => ∃ k : Nat, k ≤ ms.length ∧ i = .int .i64 k ∧ Below WW.heap.size WW w' ∧ Hid ((ms.map Prod.fst).take k = (ms'.map Prod.fst).take k)) (fun i _ => ms.length - (intOf i).toNat)
          case atStart => exact ⟨0, by omega, rfl, HBL.out, rfl⟩
          case round =>
            clear HBL a0 a1 a2 b0 b1 b2 hbw
            obtain ⟨k, hk, rfl, hbl, HTK⟩ := hrel
            have HBL := Lib.hid hbl
            obtain ⟨⟨a0, a1, a2⟩, ⟨b0, b1, b2⟩, hbw⟩ := HB.out wr hbl
            clear hbl
            by_cases hkl : k < ms.length
            · have hkl2 : k < ms'.length := by have := HL2.out; omega
              obtain ⟨q1, q2, q3, q4⟩ := HS.out wr hbw
              obtain ⟨g1, o1, e1, hc1⟩ := tsrc_at q1 (by omega)
              obtain ⟨g2, o2, e2, hc2⟩ := tsrc_at q2 (by omega)
              subst e1 e2
              obtain ⟨c0, c1, c2, c3⟩ := hc1 k ms[k] (List.getElem?_eq_getElem hkl)
              obtain ⟨d0, d1, d2, d3⟩ := hc2 k ms'[k] (List.getElem?_eq_getElem hkl2)
              have r1 := q3 ms[k] (List.getElem_mem hkl)
              have r2 := q4 ms'[k] (List.getElem_mem hkl2)
              clear hc1 hc2 q1 q2 q3 q4
              have HEQ : Hid (ms[k].1 = ms'[k].1 → (ms.map Prod.fst).take (k + 1) = (ms'.map Prod.fst).take (k + 1)) := fun e => take_eq_succ (by rw [List.length_map]; exact hkl) (by rw [List.length_map]; exact hkl2) HTK.out (by rw [List.getElem_map, List.getElem_map]; exact e)
              have HNE : Hid (¬ ms[k].1 = ms'[k].1 → ¬ (⟨P, S, U⟩ : Tab) = ⟨P', S', U'⟩) := fun h e => h (by
                have h1 := (HT.out.1 e).2.1
                rw [← HMS.out, ← HMS'.out] at h1
                have h2 : (ms.map Prod.fst)[k]? = (ms'.map Prod.fst)[k]? := by rw [h1]
                rw [List.getElem?_map, List.getElem?_map, List.getElem?_eq_getElem hkl, List.getElem?_eq_getElem hkl2] at h2
                simpa using h2)
              generalize ms[k] = x at *
              generalize ms'[k] = y at *
              obtain ⟨x, xv⟩ := x
              obtain ⟨y, yv⟩ := y
              dsimp only at *
              obtain ⟨xa, xc, rfl, _⟩ := id r1
              obtain ⟨ya, yc, rfl, _⟩ := id r2
              have CS : Hid (∀ w1, Below wr.heap.size wr w1 → _) := fun w1 h => SameSource_any x y xa ya xc yc w1 (r1.below h) (r2.below h)
              clear r1 r2
              by_cases he : x = y
              · have HF := Lib.hid (HEQ.out he)
                rw [decide_eq_true he] at CS
                clear HEQ HNE he
                go_wp2
                go_still_tail 10, (by kernel_rfl)
                go_wp2_with (go_at_call 22; refine (CS.out _ (by repeat (first | exact Below.refl _ _ | refine Below.drew ?_))).mono ?_; rintro e w2 ⟨rfl, hb2⟩)
                go_roundw
                case rel => exact ⟨k + 1, by omega, by go_num, HBL.out.drew.trans (hb2.mono HBL.out.size), HF.out⟩
                case measure => simp [intOf]; omega
              · have HF := Lib.hid (HNE.out he)
                rw [decide_eq_false he] at CS
                clear HEQ HNE he
                go_wp2
                go_still_tail 10, (by kernel_rfl)
                go_wp2_with (go_at_call 22; refine (CS.out _ (by repeat (first | exact Below.refl _ _ | refine Below.drew ?_))).mono ?_; rintro e w2 ⟨rfl, hb2⟩)
                go_ret
                exact ⟨ret_bool (by rw [decide_eq_false HF.out]), hbw.drew.trans (hb2.mono hbw.size)⟩
            · have HF : Hid ((⟨P, S, U⟩ : Tab) = ⟨P', S', U'⟩) := HT.out.2 ⟨HPP.out, by rw [← HMS.out, ← HMS'.out]; exact take_all HTK.out (by rw [List.length_map]; omega) (by rw [List.length_map]; have := HL2.out; omega), HUU.out⟩
              go_wp2
              go_ret
              exact ⟨ret_bool (by rw [decide_eq_true HF.out]), hbw⟩
end Go.Proofs.Rm
namespace Go.Proofs.Rm
open Go.RowKit Go.Proofs.Heap Go.Proofs.Mem
open Go.Proofs.Lab (may key)
def findAt {α : Type} (p : α → Bool) (l : List α) : Int := match l.findIdx? p with | some i => i | none => -1
theorem findAt_hit {α : Type} {p : α → Bool} {l : List α} {k : Nat} (hk : k < l.length) (hp : p l[k] = true) (hn : ∀ j (h : j < l.length), j < k → p l[j] = false) : findAt p l = k := by
  unfold findAt
  have : l.findIdx? p = some k := by
    rw [List.findIdx?_eq_some_iff_getElem]
    exact ⟨hk, hp, fun j hj => by rw [hn j (by omega) hj]; simp⟩
  rw [this]
theorem findAt_miss {α : Type} {p : α → Bool} {l : List α} (hn : ∀ j (h : j < l.length), p l[j] = false) : findAt p l = -1 := by
  unfold findAt
  have : l.findIdx? p = none := by
    rw [List.findIdx?_eq_none_iff]
    intro x hx
    obtain ⟨j, hj, rfl⟩ := List.getElem_of_mem hx
    exact hn j hj
  rw [this]
theorem findAt_map {α β : Type} (f : α → β) (p : β → Bool) (l : List α) : findAt p (l.map f) = findAt (fun x => p (f x)) l := by
  unfold findAt
  rw [List.findIdx?_map]
  rfl
/-- Where something stands, and what stands there. -/
theorem findAt_at {α : Type} {p : α → Bool} {l : List α} (h : 0 ≤ findAt p l) : ∃ (k : Nat) (hk : k < l.length), findAt p l = k ∧ p l[k] = true ∧ ∀ j (h : j < l.length), j < k → p l[j] = false := by
  unfold findAt at h ⊢
  cases hf : l.findIdx? p with
  | none => rw [hf] at h; exact absurd h (by decide)
  | some k =>
    obtain ⟨hk, hp, hn⟩ := List.findIdx?_eq_some_iff_getElem.1 hf
    exact ⟨k, hk, rfl, hp, fun j h hj => by have := hn j hj; simpa using this⟩
def Tab.peerAt (T : Tab) (n : Int) : Int := findAt (fun x : TPeer => x.num == n) T.peers
def Tab.srcAt (T : Tab) (n : Int) : Int := findAt (fun x : TSrc => x.num == n) T.srcs
def Tab.subAt (T : Tab) (p s : Int) : Int := findAt (fun x : TSub => x.peer == p && x.source == s) T.subs
def noTSrc : TSrc := ⟨0, 0, [], false⟩
def Tab.srcD (T : Tab) (n : Int) : TSrc := T.srcs.getD (T.srcAt n).toNat noTSrc
def Tab.owner (T : Tab) (n : Int) : Int := if T.srcAt n < 0 then 0 else (T.srcD n).own
def Tab.hearsTo (T : Tab) (n : Int) (k : Nat) : List Nat := ((List.range k).map (· + 1)).filter fun p : Nat => decide (0 ≤ T.subAt p n)
def Tab.hears (T : Tab) (n : Int) : List Nat := T.hearsTo n 8
theorem hearsTo_succ (T : Tab) (n : Int) (k : Nat) : T.hearsTo n (k + 1) = T.hearsTo n k ++ if 0 ≤ T.subAt ((k : Int) + 1) n then [k + 1] else [] := by
  unfold Tab.hearsTo
  rw [List.range_succ, List.map_append, List.filter_append]
  congr 1
  have : ((k + 1 : Nat) : Int) = (k : Int) + 1 := by omega
  by_cases h : 0 ≤ T.subAt ((k : Int) + 1) n <;> simp [h]
theorem hearsTo_len (T : Tab) (n : Int) (k : Nat) : (T.hearsTo n k).length ≤ k := by
  unfold Tab.hearsTo
  have := List.length_filter_le (fun p : Nat => decide (0 ≤ T.subAt p n)) ((List.range k).map (· + 1))
  rw [List.length_map, List.length_range] at this
  exact this
def Tab.hasAt (T : Tab) (x : Int) : Int := findAt (fun s : TSrc => s.ss.contains x) T.srcs
def Tab.of (T : Tab) (x : Int) : Int × Int × Bool := if T.hasAt x < 0 then (0, 0, false) else ((T.srcs.getD (T.hasAt x).toNat noTSrc).num, index (T.srcs.getD (T.hasAt x).toNat noTSrc).ss x, true)
/-- Is an SSRC ahead in the same list, or there already? -/
def Tab.twice (T : Tab) (l : List Int) (i : Nat) : Bool := (l.take i).contains (l.getD i 0) || (T.of (l.getD i 0)).2.2
def Tab.wrongSsrcs (T : Tab) (o : Op) (at' : Int) : Int :=
  if o.ssrcs.length < 1 ∨ 3 < o.ssrcs.length then 5
  else if o.ssrcs.any (fun s => decide (s < 2) || decide (3221225472 ≤ s)) then 5
  else if 0 ≤ at' then 9
  else if (List.range o.ssrcs.length).any (T.twice o.ssrcs) then 9 else 0
def noTSub : TSub := ⟨0, 0, 0, false⟩
def Tab.subD (T : Tab) (p s : Int) : TSub := T.subs.getD (T.subAt p s).toNat noTSub
def layerOk (s : TSrc) (q : Int) : Bool := decide (0 ≤ q) && decide (q < s.ss.length)
def Tab.wrongSub (T : Tab) (o : Op) (s : TSrc) : Int :=
  if o.kind = 5 ∨ o.kind = 8 ∨ o.kind = 9 then
    (if s.own ≠ o.peer then 10 else if o.kind = 8 ∧ s.muted = true then 9 else if o.kind = 9 ∧ s.muted = false then 11 else 0)
  else if o.kind = 6 then
    (if s.own = o.peer then 10 else if 0 ≤ T.subAt o.peer o.source then 9 else if layerOk s o.layer then 0 else 5)
  else if T.subAt o.peer o.source < 0 then 8
  else if o.kind = 10 ∧ (T.subD o.peer o.source).paused = true then 9
  else if o.kind = 11 ∧ (T.subD o.peer o.source).paused = false then 11
  else if o.kind = 12 ∧ layerOk s o.layer = false then 5
  else if o.kind = 12 ∧ (T.subD o.peer o.source).want = o.layer then 9
  else 0
def Tab.wrong (T : Tab) (o : Op) : Int :=
  if o.kind < 2 ∨ 12 < o.kind then 4
  else if o.peer < 1 ∨ 8 < o.peer then 5
  else if o.kind = 2 then
    (if 0 ≤ T.peerAt o.peer then 9 else if !may o.name then 12 else if T.peers.any (fun x => decide (key x.name = key o.name)) then 9 else 0)
  else if T.peerAt o.peer < 0 then 8
  else if o.kind = 3 then 0
  else if o.source < 1 ∨ 8 < o.source then 5
  else if o.kind = 4 then T.wrongSsrcs o (T.srcAt o.source)
  else if T.srcAt o.source < 0 then 8
  else T.wrongSub o (T.srcD o.source)
/-- The turn by which a subscription's layer is asked for. -/
def Tab.ask (T : Tab) (x : TSub) : Turn := ⟨9, (T.srcD x.source).own, (T.srcD x.source).num, 0, (T.srcD x.source).ss.getD x.want.toNat 0⟩
def Tab.endSub (T : Tab) (p s : Int) : Tab := { T with subs := T.subs.eraseIdx (T.subAt p s).toNat }
def Tab.noSrc (T : Tab) (n : Int) : Tab := { T with srcs := T.srcs.eraseIdx (T.srcAt n).toNat }
def Tab.noPeer (T : Tab) (n : Int) : Tab := { T with peers := T.peers.eraseIdx (T.peerAt n).toNat }
/-- The subscriptions of some peers to a source are over. -/
def Tab.endGo (n : Int) : List Nat → Tab → List Turn × Tab
  | [], T => ([], T)
  | p :: l, T => let x := Tab.endGo n l (T.endSub p n); (⟨3, p, n, 0, 0⟩ :: ⟨2, p, n, 0, 0⟩ :: x.1, x.2)
def Tab.endSource (T : Tab) (n : Int) : List Turn × Tab := ((Tab.endGo n (T.hears n) T).1, (Tab.endGo n (T.hears n) T).2.noSrc n)
/-- Block b holds the reference's room. -/
structure RefAt (w : World) (b : Nat) (T : Tab) : Prop where
  vals : ∃ pv sv uv, w.heap[b]? = some (.cells #[pv, sv, uv] 32) ∧ TabAt w pv sv uv T
theorem RefAt.lt {w : World} {b : Nat} {T : Tab} (h : RefAt w b T) : b < w.heap.size := by
  obtain ⟨_, _, _, hc, _⟩ := h.vals
  rcases Nat.lt_or_ge b w.heap.size with h | h
  · exact h
  · rw [Array.getElem?_eq_none h] at hc; cases hc
theorem RefAt.below {w w' : World} {b : Nat} {T : Tab} (h : RefAt w b T) (hb : Below w.heap.size w w') : RefAt w' b T := by
  have hl := h.lt
  obtain ⟨pv, sv, uv, hc, ht⟩ := h.vals
  exact ⟨pv, sv, uv, by rw [hb.block b hl]; exact hc, ht.below hb⟩
theorem cell_of {w : World} {b : Nat} {cs : Array Value} {e : TypeId} (h : w.heap[b]? = some (.cells cs e)) (j : Nat) : w.cell? ⟨b, j, none⟩ = cs[j]? := by
  simp only [World.cell?, h]
  rfl
end Go.Proofs.Rm
namespace Go.Proofs.Rm
open Go.RowKit Go.Proofs.Heap Go.Proofs.Mem
set_option maxHeartbeats 2000000 in
theorem PeerAt_any (b : Nat) (T : Tab) (n : Int) (w : World) (hR : RefAt w b T) :
    Calls Tryd.prog 21 #[.pointer (some ⟨b, 0, none⟩), .int .i64 n] w fun e w' => e = .returned (.int .i64 (T.peerAt n)) ∧ Below w.heap.size w w' := by
  obtain ⟨pv, sv, uv, hcell, htab⟩ := hR.vals
  have hb := hR.lt
  have hlen := htab.peers.len
  have c0 := cell_of hcell 0
  have HP : Hid (∀ w', Below w.heap.size w w' → Row w' 66 pv T.peers.length (T.peers.flatMap peerCells)) := fun w' h => htab.peers.below h
  obtain ⟨pa, pc, rfl, _⟩ := id htab.peers
  have HPA : Hid (T.peerAt n = findAt (fun x : TPeer => x.num == n) T.peers) := rfl
  clear hR htab hcell
  generalize T.peers = P at *
  go_enter Tryd.func21, Tryd.ntmps21
  go_wp2
  go_loopw [12] (fun i w' => ∃ k : Nat, k ≤ P.length ∧ i = .int .i64 k ∧ Below w.heap.size w w' ∧ Hid (∀ j (h : j < P.length), j < k → (fun x : TPeer => x.num == n) P[j] = false)) (fun i _ => P.length - (intOf i).toNat)
  case atStart => exact ⟨0, by omega, rfl, Below.refl _ _, fun j h hj => by omega⟩
  case round =>
    obtain ⟨k, hk, rfl, hbl, HN⟩ := hrel
    by_cases hkl : k < P.length
    · obtain ⟨g, off, e1, hc⟩ := peer_at (HP.out wr hbl) (by omega)
      subst e1
      obtain ⟨d0, d1⟩ := hc k P[k] (List.getElem?_eq_getElem hkl)
      have HH : Hid ((fun x : TPeer => x.num == n) P[k] = true → T.peerAt n = k) := fun h => by rw [HPA.out]; exact findAt_hit hkl h HN.out
      have HM : Hid ((fun x : TPeer => x.num == n) P[k] = false → ∀ j (h : j < P.length), j < k + 1 → (fun x : TPeer => x.num == n) P[j] = false) := fun h j hj hjk => by
        by_cases e : j = k
        · subst e; exact h
        · exact HN.out j hj (by omega)
      clear hc
      generalize P[k] = x at *
      obtain ⟨x0, x1⟩ := x
      dsimp only at d0 d1 HH HM
      by_cases hx : x0 = n
      · have HF := Lib.hid (HH.out (by rw [hx]; simp))
        subst hx
        go_wp2
        go_ret
        exact ⟨ret_int HF.out.symm, hbl.alloc hbl.size _⟩
      · have hbq : (x0 == n) = false := by rw [beq_eq_false_iff_ne]; exact hx
        have HF := Lib.hid (HM.out hbq)
        clear hx
        go_wp2
        go_roundw
        case rel => exact ⟨k + 1, by omega, by go_num, hbl.alloc hbl.size _, HF.out⟩
        case measure => simp [intOf]; omega
    · have HF : Hid (T.peerAt n = -1) := by show _ = _; rw [HPA.out]; exact findAt_miss fun j h => HN.out j h (by omega)
      go_wp2
      go_ret
      exact ⟨ret_int HF.out.symm, hbl⟩
set_option maxHeartbeats 2000000 in
theorem SourceAt_any (b : Nat) (T : Tab) (n : Int) (w : World) (hR : RefAt w b T) :
    Calls Tryd.prog 18 #[.pointer (some ⟨b, 0, none⟩), .int .i64 n] w fun e w' => e = .returned (.int .i64 (T.srcAt n)) ∧ Below w.heap.size w w' := by
  obtain ⟨pv, sv, uv, hcell, htab⟩ := hR.vals
  have hb := hR.lt
  obtain ⟨P, hms, hrow, hrs⟩ := htab.srcs
  have hlen := hrow.len
  have c0 := cell_of hcell 1
  have HP : Hid (∀ w', Below w.heap.size w w' → Row w' 44 sv P.length (P.flatMap tsrcCells)) := fun w' h => hrow.below h
  have HV : Hid (∀ m ∈ P, ∃ a k c, m.2 = .slice a k c) := fun m hm => by
    obtain ⟨a, c, h, _⟩ := hrs m hm
    exact ⟨a, _, c, h⟩
  obtain ⟨pa, pc, rfl, _⟩ := id hrow
  have HPA : Hid (T.srcAt n = findAt (fun x : TSrc × Value => x.1.num == n) P) := by show _ = _; unfold Tab.srcAt; rw [← hms, findAt_map]
  clear hR htab hcell hms hrow hrs
  go_enter Tryd.func18, Tryd.ntmps18
  go_wp2
  go_loopw [12] (fun i w' => ∃ k : Nat, k ≤ P.length ∧ i = .int .i64 k ∧ Below w.heap.size w w' ∧ Hid (∀ j (h : j < P.length), j < k → (fun x : TSrc × Value => x.1.num == n) P[j] = false)) (fun i _ => P.length - (intOf i).toNat)
  case atStart => exact ⟨0, by omega, rfl, Below.refl _ _, fun j h hj => by omega⟩
  case round =>
    obtain ⟨k, hk, rfl, hbl, HN⟩ := hrel
    by_cases hkl : k < P.length
    · obtain ⟨g, off, e1, hc⟩ := tsrc_at (HP.out wr hbl) (by omega)
      subst e1
      obtain ⟨d0, d1, d2, d3⟩ := hc k P[k] (List.getElem?_eq_getElem hkl)
      obtain ⟨va, vk, vc, hv⟩ := HV.out P[k] (List.getElem_mem hkl)
      rw [hv] at d2
      have HH : Hid ((fun x : TSrc × Value => x.1.num == n) P[k] = true → T.srcAt n = k) := fun h => by rw [HPA.out]; exact findAt_hit hkl h HN.out
      have HM : Hid ((fun x : TSrc × Value => x.1.num == n) P[k] = false → ∀ j (h : j < P.length), j < k + 1 → (fun x : TSrc × Value => x.1.num == n) P[j] = false) := fun h j hj hjk => by
        by_cases e : j = k
        · subst e; exact h
        · exact HN.out j hj (by omega)
      clear hc hv
      generalize P[k] = x at *
      obtain ⟨⟨x0, x1, x2, x3⟩, x4⟩ := x
      dsimp only at d0 d1 d3 HH HM
      by_cases hx : x0 = n
      · have HF := Lib.hid (HH.out (by rw [hx]; simp))
        subst hx
        go_wp2
        go_ret
        exact ⟨ret_int HF.out.symm, hbl.alloc hbl.size _⟩
      · have hbq : (x0 == n) = false := by rw [beq_eq_false_iff_ne]; exact hx
        have HF := Lib.hid (HM.out hbq)
        clear hx
        go_wp2
        go_roundw
        case rel => exact ⟨k + 1, by omega, by go_num, hbl.alloc hbl.size _, HF.out⟩
        case measure => simp [intOf]; omega
    · have HF : Hid (T.srcAt n = -1) := by show _ = _; rw [HPA.out]; exact findAt_miss fun j h => HN.out j h (by omega)
      go_wp2
      go_ret
      exact ⟨ret_int HF.out.symm, hbl⟩
set_option maxHeartbeats 2000000 in
theorem SubAt_any (b : Nat) (T : Tab) (p n : Int) (w : World) (hR : RefAt w b T) :
    Calls Tryd.prog 19 #[.pointer (some ⟨b, 0, none⟩), .int .i64 p, .int .i64 n] w fun e w' => e = .returned (.int .i64 (T.subAt p n)) ∧ Below w.heap.size w w' := by
  obtain ⟨pv, sv, uv, hcell, htab⟩ := hR.vals
  have hb := hR.lt
  have hlen := htab.subs.len
  have c0 := cell_of hcell 2
  have HP : Hid (∀ w', Below w.heap.size w w' → Row w' 48 uv T.subs.length (T.subs.flatMap tsubCells)) := fun w' h => htab.subs.below h
  obtain ⟨pa, pc, rfl, _⟩ := id htab.subs
  have HPA : Hid (T.subAt p n = findAt (fun x : TSub => x.peer == p && x.source == n) T.subs) := rfl
  clear hR htab hcell
  generalize T.subs = P at *
  go_enter Tryd.func19, Tryd.ntmps19
  go_wp2
  go_loopw [14] (fun i w' => ∃ k : Nat, k ≤ P.length ∧ i = .int .i64 k ∧ Below w.heap.size w w' ∧ Hid (∀ j (h : j < P.length), j < k → (fun x : TSub => x.peer == p && x.source == n) P[j] = false)) (fun i _ => P.length - (intOf i).toNat)
  case atStart => exact ⟨0, by omega, rfl, Below.refl _ _, fun j h hj => by omega⟩
  case round =>
    obtain ⟨k, hk, rfl, hbl, HN⟩ := hrel
    by_cases hkl : k < P.length
    · obtain ⟨g, off, e1, hc⟩ := tsub_at (HP.out wr hbl) (by omega)
      subst e1
      obtain ⟨d0, d1, d2, d3⟩ := hc k P[k] (List.getElem?_eq_getElem hkl)
      have HH : Hid ((fun x : TSub => x.peer == p && x.source == n) P[k] = true → T.subAt p n = k) := fun h => by rw [HPA.out]; exact findAt_hit hkl h HN.out
      have HM : Hid ((fun x : TSub => x.peer == p && x.source == n) P[k] = false → ∀ j (h : j < P.length), j < k + 1 → (fun x : TSub => x.peer == p && x.source == n) P[j] = false) := fun h j hj hjk => by
        by_cases e : j = k
        · subst e; exact h
        · exact HN.out j hj (by omega)
      clear hc
      generalize P[k] = x at *
      obtain ⟨x0, x1, x2, x3⟩ := x
      dsimp only at d0 d1 d2 d3 HH HM
      by_cases hx : x0 = p
      · by_cases hy : x1 = n
        · have HF := Lib.hid (HH.out (by rw [hx, hy]; simp))
          subst hx hy
          go_wp2
          go_ret
          exact ⟨ret_int HF.out.symm, hbl.alloc hbl.size _⟩
        · have hbq : (x1 == n) = false := by rw [beq_eq_false_iff_ne]; exact hy
          have HF := Lib.hid (HM.out (by rw [hbq, Bool.and_false]))
          subst hx
          clear hy
          go_wp2
          go_roundw
          case rel => exact ⟨k + 1, by omega, by go_num, hbl.alloc hbl.size _, HF.out⟩
          case measure => simp [intOf]; omega
      · have hbq : (x0 == p) = false := by rw [beq_eq_false_iff_ne]; exact hx
        have HF := Lib.hid (HM.out (by rw [hbq, Bool.false_and]))
        clear hx
        go_wp2
        go_roundw
        case rel => exact ⟨k + 1, by omega, by go_num, hbl.alloc hbl.size _, HF.out⟩
        case measure => simp [intOf]; omega
    · have HF : Hid (T.subAt p n = -1) := by show _ = _; rw [HPA.out]; exact findAt_miss fun j h => HN.out j h (by omega)
      go_wp2
      go_ret
      exact ⟨ret_int HF.out.symm, hbl⟩
end Go.Proofs.Rm
namespace Go.Proofs.Rm
open Go.RowKit Go.Proofs.Heap Go.Proofs.Mem
theorem getD_map_fst {l : List (TSrc × Value)} {k : Nat} (h : k < l.length) : (l.map Prod.fst).getD k noTSrc = l[k].1 := by
  rw [List.getD_eq_getElem?_getD, List.getElem?_map, List.getElem?_eq_getElem h]; rfl
theorem getD_at {l : List Int} {k : Nat} (h : k < l.length) : l.getD k 0 = l[k] := by
  rw [List.getD_eq_getElem?_getD, List.getElem?_eq_getElem h]; rfl
set_option maxHeartbeats 4000000 in
theorem rOf_any (b : Nat) (T : Tab) (x : Int) (w : World) (hR : RefAt w b T) :
    Calls Tryd.prog 15 #[.pointer (some ⟨b, 0, none⟩), .int .u32 x] w fun e w' => e = .returned (.tuple #[.int .i64 (T.of x).1, .int .i64 (T.of x).2.1, .bool (T.of x).2.2]) ∧ Below w.heap.size w w' := by
  obtain ⟨pv, sv, uv, hcell, htab⟩ := hR.vals
  have hb := hR.lt
  obtain ⟨P, hms, hrow, hrs⟩ := htab.srcs
  have hlen := hrow.len
  have c0 := cell_of hcell 1
  have HP : Hid (∀ w', Below w.heap.size w w' → Row w' 44 sv P.length (P.flatMap tsrcCells) ∧ ∀ m ∈ P, Row w' 23 m.2 m.1.ss.length (u32s m.1.ss)) := fun w' h => ⟨hrow.below h, fun m hm => (hrs m hm).below h⟩
  obtain ⟨pa, pc, rfl, _⟩ := id hrow
  have HPA : Hid (T.hasAt x = findAt (fun s : TSrc × Value => s.1.ss.contains x) P) := by show _ = _; unfold Tab.hasAt; rw [← hms, findAt_map]
  have HOF : Hid (T.of x = if T.hasAt x < 0 then (0, 0, false) else ((T.srcs.getD (T.hasAt x).toNat noTSrc).num, index (T.srcs.getD (T.hasAt x).toNat noTSrc).ss x, true)) := rfl
  have HMS := Lib.hid hms
  clear hR htab hcell hms hrow hrs
  go_enter Tryd.func15, Tryd.ntmps15
  go_wp2
  go_loopw [16] (fun i w' => ∃ k : Nat, k ≤ P.length ∧ i = .int .i64 k ∧ Below w.heap.size w w' ∧ Hid (∀ j (h : j < P.length), j < k → (fun s : TSrc × Value => s.1.ss.contains x) P[j] = false)) (fun i _ => P.length - (intOf i).toNat)
  case atStart => exact ⟨0, by omega, rfl, Below.refl _ _, fun j h hj => by omega⟩
  case round =>
    obtain ⟨k, hk, rfl, hbl, HN⟩ := hrel
    by_cases hkl : k < P.length
    · obtain ⟨g, off, e1, hc⟩ := tsrc_at (HP.out wr hbl).1 (by omega)
      subst e1
      obtain ⟨d0, d1, d2, d3⟩ := hc k P[k] (List.getElem?_eq_getElem hkl)
      have hr := (HP.out wr hbl).2 P[k] (List.getElem_mem hkl)
      have HH : Hid ((fun s : TSrc × Value => s.1.ss.contains x) P[k] = true → T.of x = (P[k].1.num, index P[k].1.ss x, true)) := fun h => by
        have e := findAt_hit (p := fun s : TSrc × Value => s.1.ss.contains x) hkl h HN.out
        rw [HOF.out, HPA.out, e, if_neg (by omega), Int.toNat_natCast, ← HMS.out, getD_map_fst hkl]
      have HM : Hid ((fun s : TSrc × Value => s.1.ss.contains x) P[k] = false → ∀ j (h : j < P.length), j < k + 1 → (fun s : TSrc × Value => s.1.ss.contains x) P[j] = false) := fun h j hj hjk => by
        by_cases e : j = k
        · subst e; exact h
        · exact HN.out j hj (by omega)
      clear hc
      generalize P[k] = y at *
      obtain ⟨⟨x0, x1, x2, x3⟩, x4⟩ := y
      dsimp only at d0 d1 d2 d3 HH HM hr
      have hln := hr.len
      obtain ⟨ya, yc, rfl, _⟩ := id hr
      have HRW : Hid (0 < x2.length → ∃ g off, ya = some ⟨g, off, none⟩ ∧ g < wr.heap.size ∧ ∀ j, j < x2.length → wr.cell? ⟨g, off + j, none⟩ = some (.int .u32 (x2.getD j 0))) := fun h => by
        obtain ⟨g, off, cap, e1, _, _, hg, hc⟩ := u32_open hr h
        exact ⟨g, off, (slice_inj e1).1, hg, hc⟩
      clear hr
      obtain ⟨wo, rfl⟩ : ∃ wo : World, wo = wr := ⟨_, rfl⟩
      go_wp2
      go_loop [23] (fun i => ∃ m : Nat, m ≤ x2.length ∧ i = .int .i64 m ∧ Hid (∀ j, j < m → x2.getD j 0 ≠ x)) (fun i => x2.length - (intOf i).toNat)
      case atStart => exact ⟨0, by omega, rfl, fun j hj => by omega⟩
      case round =>
        obtain ⟨m, hm, rfl, HNO⟩ := hrel
        by_cases hml : m < x2.length
        · obtain ⟨g3, off3, e3, hg3, hc3⟩ := HRW.out (by omega)
          subst e3
          have hd := hc3 m hml
          clear hc3
          by_cases hx : x2.getD m 0 = x
          · have HF := Lib.hid (HH.out (by rw [List.contains_iff_mem, ← hx, getD_at hml]; exact List.getElem_mem hml))
            have HI : Hid (index x2 x = m) := index_hit hml hx HNO.out
            rw [hx] at hd
            clear hx
            go_wp2
            go_ret3
            exact ⟨by rw [HF.out, HI.out]; rfl, hbl.alloc hbl.size _⟩
          · have hbq : (x2.getD m 0 == x) = false := by rw [beq_eq_false_iff_ne]; exact hx
            have HX := Lib.hid hx
            clear hx
            generalize hy : x2.getD m 0 = y at *
            have HY := Lib.hid hy
            clear hy
            go_wp2
            go_round
            case rel => exact ⟨m + 1, by omega, by go_num, fun j hj => by by_cases hjm : j < m; exact HNO.out j hjm; rw [show j = m by omega, HY.out]; exact HX.out⟩
            case measure => simp [intOf]; omega
        · have HF := Lib.hid (HM.out (by
            rw [Bool.eq_false_iff]
            intro h
            rw [List.contains_iff_mem] at h
            obtain ⟨j, hj, e⟩ := List.getElem_of_mem h
            exact HNO.out j (by omega) (by rw [getD_at hj]; exact e)))
          go_wp2
          go_roundw
          case rel => exact ⟨k + 1, by omega, by go_num, hbl.alloc hbl.size _, HF.out⟩
          case measure => simp [intOf]; omega
    · have HF : Hid (T.of x = (0, 0, false)) := by
        show _ = _
        rw [HOF.out, HPA.out, findAt_miss (fun j h => HN.out j h (by omega)), if_pos (by decide)]
      go_wp2
      go_ret3
      exact ⟨by rw [HF.out]; rfl, hbl⟩
set_option maxHeartbeats 2000000 in
theorem Owner_any (b : Nat) (T : Tab) (n : Int) (w : World) (hR : RefAt w b T) :
    Calls Tryd.prog 51 #[.pointer (some ⟨b, 0, none⟩), .int .i64 n] w fun e w' => e = .returned (.int .i64 (T.owner n)) ∧ Below w.heap.size w w' := by
  have CS := Lib.hid (SourceAt_any b T n w hR)
  have HOW : Hid (T.owner n = if T.srcAt n < 0 then 0 else (T.srcs.getD (T.srcAt n).toNat noTSrc).own) := rfl
  have HAT : Hid (0 ≤ T.srcAt n → ∃ k : Nat, k < T.srcs.length ∧ T.srcAt n = k) := fun h => by
    obtain ⟨k, hk, e, _⟩ := findAt_at h
    exact ⟨k, hk, e⟩
  have hb := hR.lt
  have HR := Lib.hid hR
  clear hR
  by_cases hneg : T.srcAt n < 0
  · have HF : Hid (T.owner n = 0) := by show _ = _; rw [HOW.out, if_pos hneg]
    generalize T.srcAt n = q at *
    go_enter Tryd.func51, Tryd.ntmps51
    go_wp2_with (go_at_call 18; refine CS.out.mono ?_; rintro e w1 ⟨rfl, hb1⟩)
    go_ret
    exact ⟨ret_int HF.out.symm, hb1⟩
  · obtain ⟨k, hk, e⟩ := HAT.out (by omega)
    have HF : Hid (T.owner n = (T.srcs.getD k noTSrc).own) := by show _ = _; rw [HOW.out, if_neg hneg, e, Int.toNat_natCast]
    rw [e] at CS
    clear e hneg HAT HOW
    go_enter Tryd.func51, Tryd.ntmps51
    go_wp2_with fail
    refine CS.out.mono ?_
    rintro e w1 ⟨rfl, hb1⟩
    obtain ⟨pv, sv, uv, hcell, htab⟩ := (HR.out.below hb1).vals
    obtain ⟨P, hms, hrow, hrs⟩ := htab.srcs
    have hkl : k < P.length := by rw [← hms, List.length_map] at hk; exact hk
    have hlen := hrow.len
    have c0 := cell_of hcell 1
    obtain ⟨pa, pc, rfl, _⟩ := id hrow
    obtain ⟨g, off, e1, hc⟩ := tsrc_at hrow (by omega)
    subst e1
    obtain ⟨d0, d1, d2, d3⟩ := hc k P[k] (List.getElem?_eq_getElem hkl)
    have HX : Hid ((T.srcs.getD k noTSrc).own = P[k].1.own) := by show _ = _; rw [← hms, getD_map_fst hkl]
    clear hc d0 d2 d3 htab hcell hms hrow hrs
    generalize P[k].1.own = ow at *
    go_wp2
    go_ret
    exact ⟨ret_int (by rw [HF.out, HX.out]), hb1⟩
set_option maxHeartbeats 2000000 in
theorem Hears_any (b : Nat) (T : Tab) (n : Int) (w : World) (hR : RefAt w b T) :
    Calls Tryd.prog 24 #[.pointer (some ⟨b, 0, none⟩), .int .i64 n] w fun e w' => (∃ v, e = .returned v ∧ Row w' 3 v (T.hears n).length (ints (T.hears n))) ∧ Below w.heap.size w w' := by
  have HR := Lib.hid hR
  have hb := hR.lt
  have HS : Hid (T.hears n = T.hearsTo n 8) := rfl
  clear hR
  go_enter Tryd.func24, Tryd.ntmps24
  go_wp2
  go_loopw [5, 6] (fun v i w' => ∃ k : Nat, k ≤ 8 ∧ i = .int .i64 ((k : Int) + 1) ∧ Below w.heap.size w w' ∧ w'.ownsRow w.heap.size 3 1 v (T.hearsTo n k).length (ints (T.hearsTo n k))) (fun _ i _ => 9 - (intOf i).toNat)
  case atStart => exact ⟨0, by omega, rfl, Below.refl _ _, World.ownsRow_nil _ _ _ _⟩
  case round =>
    obtain ⟨k, hk, rfl, hbl, hown⟩ := hrel
    have HOWN := Lib.hid hown
    clear hown
    by_cases hk8 : k < 8
    · have CS := Lib.hid (SubAt_any b T ((k : Int) + 1) n wr (HR.out.below hbl))
      have HSS := Lib.hid (hearsTo_succ T n k)
      have HSL := hearsTo_len T n k
      by_cases hs : 0 ≤ T.subAt ((k : Int) + 1) n
      · have HF : Hid (T.hearsTo n (k + 1) = T.hearsTo n k ++ [k + 1]) := by show _ = _; rw [HSS.out, if_pos hs]
        generalize T.subAt ((k : Int) + 1) n = q at *
        generalize T.hearsTo n k = G at *
        go_wp2_with (first | (go_at_call 19; refine CS.out.mono ?_; rintro e w1 ⟨rfl, hb1⟩) | (at_builtin; refine wpList_app rfl (.tmp 16) (.tmp 18) 55 rfl w.heap.size elemInt _ G.length (ints G) rfl ?a1 _ 1 [.int .i64 ((k : Int) + 1)] rfl ?a2 rfl ?a4 ?a5 ?a6 ?a7 (fun v' w2 HO2 HG => ?_)))
        case a1 => exact (owns_below HOWN.out hb1).alloc _
        case a2 => exact row_new' _ _ 1 _ [.int .i64 ((k : Int) + 1)] (by decide) (by simp)
        case a4 => intro u hu; simp at hu; subst hu; rfl
        case a5 => omega
        case a6 => omega
        case a7 => have h1 := hbl.size; have h2 := hb1.size; simp; omega
        go_roundw
        case rel =>
          refine ⟨k + 1, by omega, by go_num, ?_, ?_⟩
          · have h1 := hbl.trans (hb1.mono hbl.size)
            have h2 := h1.alloc h1.size (.cells #[.int .i64 ((k : Int) + 1)] 3)
            exact h2.grown HG.out h2.size (own_le HOWN.out)
          · rw [HF.out, List.length_append, ints_append]
            exact HO2.out
        case measure => simp [intOf]; omega
      · have HF : Hid (T.hearsTo n (k + 1) = T.hearsTo n k) := by show _ = _; rw [HSS.out, if_neg hs, List.append_nil]
        generalize T.subAt ((k : Int) + 1) n = q at *
        go_wp2_with (go_at_call 19; refine CS.out.mono ?_; rintro e w1 ⟨rfl, hb1⟩)
        go_roundw
        case rel =>
          refine ⟨k + 1, by omega, by go_num, hbl.trans (hb1.mono hbl.size), ?_⟩
          rw [HF.out]
          exact owns_below HOWN.out hb1
        case measure => simp [intOf]; omega
    · have hk' : k = 8 := by omega
      subst hk'
      go_wp2
      go_ret
      exact ⟨⟨_, rfl, by rw [HS.out]; exact Row.of_owns HOWN.out⟩, hbl⟩
end Go.Proofs.Rm
