/- The walk of the law RoomKeeps, out of the contracts. -/
import Derived.Test.YthlamfoldfeocaaDoorRoomLawDef
import Derived.StillTailTactics
import Derived.Deep.RegionHeld3
namespace Go.Proofs.Rm
open Go.RowKit Go.Proofs.Heap Go.Proofs.Mem
open Go.Proofs.Lab (may key Tabs)
theorem doo_wrong {R : Room} {o : Op} {sv : Value} (h : (doo R o sv).2 ≠ 0) : (doo R o sv).1 = ([], R) := by
  unfold doo at h ⊢
  by_cases h0 : wrong R o = 0
  · rw [if_neg (by simpa using h0)] at h; exact absurd rfl h
  · rw [if_pos h0]
theorem fr_below {B b : Nat} {w3 w5 : World} (h : Fr w3.heap.size (· = b) w3 w5) (hb : B ≤ b) (h3 : B ≤ w3.heap.size) : Below B w3 w5 := Fr.below (h.mono h3 (fun k hk hs => by have hs : k = b := hs; omega))
theorem fr_alloc {b : Nat} {w3 w5 : World} {o : Obj} (h : Fr (w3.alloc o).heap.size (· = b) (w3.alloc o) w5) : Fr w3.heap.size (· = b) w3 w5 := (Fr.of_below _ (below_alloc w3 o)).trans (h.mono (by simp) (fun _ _ h => h))
set_option maxRecDepth 100000 in
set_option maxHeartbeats 8000000 in
theorem RoomKeeps_any (v : Value) (l : List OpV) (w : World) (hT : Tabs w) (hv : OpsR w v l)
    (hsh : ∀ w, Tabs w → Calls Tryd.prog 10 #[] w fun e w' => e = .returned (.bool true) ∧ Below w.heap.size w w') :
    Calls Tryd.prog 5 #[v] w fun e w' => e = .returned (.bool true) ∧ Below w.heap.size w w' := by
  have hlen := hv.row.len
  obtain ⟨va, vc, rfl, _⟩ := id hv.row
  have HSH := Lib.hid (hsh w hT)
  have HT : Hid (∀ w', Below w.heap.size w w' → Tabs w') := fun w' h => Utf8Tabs_below hT h
  have HV : Hid (∀ w', Below w.heap.size w w' → OpsR w' (.slice va l.length vc) l) := fun w' h => hv.below h
  clear hsh hT hv
  go_enter Tryd.func5, Tryd.ntmps5
  go_wp2_with fail
  refine HSH.out.mono ?_
  rintro e w1 ⟨rfl, hb1⟩
  have HB1 := Lib.hid hb1
  have hz1 := hb1.size
  clear hb1
  go_wp2_with fail
  refine (New_any _).mono ?_
  rintro e w2 ⟨rfl, hroom, hb2⟩
  have HBEL := Lib.hid (HB1.out.trans (hb2.mono HB1.out.size))
  have HROOM := Lib.hid hroom
  have hbw : w.heap.size ≤ w1.heap.size := hz1
  clear hroom hb2
  generalize w1.heap.size = b at *
  go_wp2_with fail
  go_loopw [4] (fun i w' => ∃ k : Nat, k ≤ l.length ∧ i = .int .i64 k ∧ Below w.heap.size w w' ∧ ∃ R, Inv R ∧ Slim R ∧ RoomAt w' b R) (fun i _ => l.length - (intOf i).toNat)
  case atStart => exact ⟨0, Nat.zero_le _, rfl, HBEL.out, empty, inv_empty, slim_empty, HROOM.out⟩
  case round =>
    clear HROOM HBEL
    obtain ⟨k, hk, rfl, hbl, R, hinv, hslim, hroom⟩ := hrel
    have HBL := Lib.hid hbl
    have HINV := Lib.hid hinv
    have HSL := Lib.hid hslim
    have HROOM := Lib.hid hroom
    have hsz := hbl.size
    clear hbl hinv hslim hroom
    by_cases hkl : k < l.length ∧ k < 80
    · obtain ⟨hkl, hk80⟩ := hkl
      obtain ⟨g, off, rfl, hcells⟩ := opsR_at (HV.out _ HBL.out) (by omega)
      clear hcells
      go_wp2_with fail
      refine (Table_any b R _ HROOM.out HSL.out.short).mono ?_
      rintro e w3 ⟨⟨pv, sv, uv, rfl, htab⟩, hb3⟩
      have HTAB := Lib.hid htab
      obtain ⟨⟨pa, pc, rfl, _⟩, ⟨ms, _, ⟨sa, sc, rfl, _⟩, _⟩, ⟨ua, uc, rfl, _⟩⟩ := id htab
      clear htab
      have HROOM3 := Lib.hid (HROOM.out.below hb3)
      have HBL3 := Lib.hid (HBL.out.trans (hb3.mono HBL.out.size))
      have HOPS3 := Lib.hid (HV.out _ HBL3.out)
      have hs3 := HBL3.out.size
      obtain ⟨g', off', e1, hcells⟩ := opsR_at HOPS3.out (by omega)
      cases e1
      have hx := hcells k l[k] (List.getElem?_eq_getElem hkl)
      have HXR := Lib.hid (HOPS3.out.each l[k] (List.getElem_mem hkl))
      clear hcells hb3
      generalize l[k] = x at *
      obtain ⟨o, xa, xc, ya, yl, yc⟩ := x
      dsimp only at hx HXR
      obtain ⟨c0, c1, c2, c3, c4, c5, c6⟩ := hx
      have hgl : g < w3.heap.size := World.block_lt_of_cell? w3 ⟨g, off + k * 7, none⟩ c0
      have CD : Hid (∀ w4, Below w3.heap.size w3 w4 → Calls Tryd.prog 12 #[.pointer (some ⟨b, 0, none⟩), .agg #[.int .i64 o.kind, .int .i64 o.peer, .int .i64 o.source, .int .i64 o.layer, .string (str o.name), .slice xa o.ssrcs.length xc, .slice ya yl yc]] w4 (DoPost b R o w4)) :=
        fun w4 h => Do_any b R o xa ya xc yl yc w4 (HROOM3.out.below h) HINV.out (HT.out _ (HBL3.out.trans (h.mono HBL3.out.size))) HXR.out.2 (HXR.out.1.below h)
      go_wp2_with fail
      refine (CD.out _ (below_alloc _ _)).mono ?_
      rintro e w5 ⟨tv, sv', rfl, htr, hroom5, hfr5⟩
      have HINV5 := Lib.hid (inv_doo HINV.out o sv')
      have HSL5 := Lib.hid (slim_doo HSL.out o sv')
      have HDW : Hid ((doo R o sv').2 ≠ 0 → (doo R o sv').1 = ([], R)) := fun h => doo_wrong h
      have HROOM5 := Lib.hid hroom5
      have HTR := Lib.hid htr
      have HFR5 := Lib.hid (fr_alloc hfr5)
      have HBL5 : Hid (Below w.heap.size w w5) := HBL3.out.trans (fr_below HFR5.out hbw HBL3.out.size)
      have hb3 : w3.heap.size ≠ b := by have := HROOM3.out.lt; omega
      have hs5 : w3.heap.size < w5.heap.size := by have := hfr5.size; simp at this; omega
      have k0 : w5.cell? ⟨w3.heap.size, 0, none⟩ = some (.slice pa (table R).peers.length pc) := (hfr5.cell (p := ⟨w3.heap.size, 0, none⟩) (by simp) hb3).trans (by simp)
      have k1 : w5.cell? ⟨w3.heap.size, 1, none⟩ = some (.slice sa ms.length sc) := (hfr5.cell (p := ⟨w3.heap.size, 1, none⟩) (by simp) hb3).trans (by simp)
      have k2 : w5.cell? ⟨w3.heap.size, 2, none⟩ = some (.slice ua (table R).subs.length uc) := (hfr5.cell (p := ⟨w3.heap.size, 2, none⟩) (by simp) hb3).trans (by simp)
      have HTAB5 : Hid (TabAt w5 (.slice pa (table R).peers.length pc) (.slice sa ms.length sc) (.slice ua (table R).subs.length uc) (table R)) := HTAB.out.fr HFR5.out (Nat.le_refl _) (HROOM3.out.typ (by decide)) (HROOM3.out.typ (by decide)) (HROOM3.out.typ (by decide)) (HROOM3.out.typ (by decide))
      obtain ⟨ta, tc, rfl, _⟩ := id htr
      clear hroom5 hfr5 htr
      by_cases he : (doo R o sv').2 = 0
      · rw [he]
        clear he HDW
        generalize (doo R o sv').1.1 = D1 at *
        generalize (doo R o sv').1.2 = D2 at *
        go_wp2
        go_quiet (fail)
        go_wp2
        go_roundw
        case rel => exact ⟨k + 1, by omega, by go_num, below_drewN HBL5.out _, D2, HINV5.out, HSL5.out, RoomAt.drewN HROOM5.out _⟩
        case measure => simp [intOf]; omega
      · have HD := Lib.hid (HDW.out he)
        have hd1 : (doo R o sv').1.1 = [] := by rw [HD.out]
        have hd2 : (doo R o sv').1.2 = R := by rw [HD.out]
        rw [hd2] at HROOM5 HINV5 HSL5
        rw [hd1]
        rw [hd1] at HTR
        have hbq : ((doo R o sv').2 != 0) = true := by rw [bne_iff_ne]; exact he
        clear he HDW HD hd1 hd2
        generalize (doo R o sv').2 = er at *
        go_wp2
        go_region_held3 (fun w' => w'.cell? ⟨w3.heap.size, 0, none⟩ = some (.slice pa (table R).peers.length pc) ∧ w'.cell? ⟨w3.heap.size, 1, none⟩ = some (.slice sa ms.length sc) ∧ w'.cell? ⟨w3.heap.size, 2, none⟩ = some (.slice ua (table R).subs.length uc) ∧ Below w5.heap.size w5 w') ((go_split_ands; ((repeat' apply And.intro) <;> first | with_reducible assumption | ((with_reducible apply cell_drew); with_reducible assumption) | (exact (Below.refl _ _).drew)))) (first | (go_at_call 25; go_split_ands; refine Calls.mono (Table_any b R _ (HROOM5.out.below (by with_reducible assumption)) HSL5.out.short) ?_; rintro e w6 ⟨⟨pv', sv2, uv', rfl, htab6⟩, hb6⟩; have HTAB6 := Lib.hid htab6; clear htab6; have q0 := cell_below (a := ⟨w3.heap.size, 0, none⟩) hb6 (by with_reducible assumption); have q1 := cell_below (a := ⟨w3.heap.size, 1, none⟩) hb6 (by with_reducible assumption); have q2 := cell_below (a := ⟨w3.heap.size, 2, none⟩) hb6 (by with_reducible assumption); have q3 : Below w5.heap.size w5 w6 := Below.trans (by with_reducible assumption) (hb6.mono (by simp))) | (go_at_call 26; go_split_ands; refine Calls.mono (SameTable_any _ _ _ _ _ _ (table R) (table R) _ (HTAB5.out.below (by with_reducible assumption)) HTAB6.out) ?_; rintro e w7 ⟨rfl, hb7⟩; have q0 := cell_below (a := ⟨w3.heap.size, 0, none⟩) hb7 (by with_reducible assumption); have q1 := cell_below (a := ⟨w3.heap.size, 1, none⟩) hb7 (by with_reducible assumption); have q2 := cell_below (a := ⟨w3.heap.size, 2, none⟩) hb7 (by with_reducible assumption); have q7 : Below w5.heap.size w5 w7 := Below.trans q3 (hb7.mono q3.size)))
        go_wp2
        refine ⟨⟨k + 1, by omega, by go_num, HBL5.out.trans (q7.mono HBL5.out.size), R, HINV5.out, HSL5.out, HROOM5.out.below q7⟩, by simp [intOf]; omega⟩
    · have hcase : ¬ k < l.length ∨ (k < l.length ∧ ¬ k < 80) := by omega
      rcases hcase with h1 | ⟨h1, h2⟩
      · clear hkl
        go_wp2
        go_ret
        exact ⟨rfl, HBL.out⟩
      · clear hkl
        go_wp2
        go_ret
        exact ⟨rfl, HBL.out⟩
end Go.Proofs.Rm
