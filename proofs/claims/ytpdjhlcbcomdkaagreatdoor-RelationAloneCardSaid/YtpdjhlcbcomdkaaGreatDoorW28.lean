/- Several texts in one: The walks of law 21's begin, shown and few. What is not let in could as well not have come. Plain. The law RelationWrong. -/
import Derived.Test.YtpdjhlcbcomdkaaGreatDoorW13
import Derived.Test.YtpdjhlcbcomdkaaGreatDoorW27
set_option linter.unusedVariables false
set_option linter.unusedSimpArgs false
set_option linter.unusedSimpArgs false
namespace Go.Proofs.By
open Go.RowKit Go.Proofs.Heap Go.Proofs
open Go.Proofs.Rm (opvCells u32s)
open Go.Proofs.Lab (Tabs)
open Go.Proofs.Mem
theorem packet21_any (w : World) : Calls Tryz.prog 86 #[.int .u8 7, .int .u8 10] w fun e w' => e = .returned (.slice (some ⟨w.heap.size, 0, none⟩) 17 17) ∧ w' = w.alloc (.cells (bys pk7).toArray 5) := by
  go_enter Tryz.func86, Tryz.ntmps86
  go_wp2
  go_ret
  exact ⟨rfl, rfl⟩
theorem begin21_any (w : World) : Calls Tryz.prog 54 #[] w fun e w' => e = .returned (.slice (some ⟨w.heap.size + 2, 0, none⟩) 5 5) ∧ OpBsT w' (.slice (some ⟨w.heap.size + 2, 0, none⟩) 5 5) (bOps w.heap.size) ∧ Below w.heap.size w w' := by
  have C := Lib.hid packet21_any
  go_enter Tryz.func54, Tryz.ntmps54
  go_wp2_with (go_at_call 86; refine (C.out _).mono ?_; rintro e w2 ⟨rfl, rfl⟩)
  go_ret
  have h1 : Row (w.alloc (.cells (u32s [10, 11]).toArray 66)) 66 (.slice (some ⟨w.heap.size, 0, none⟩) 2 2) 2 (u32s [10, 11]) := rowNew w _ 2 (u32s [10, 11]) (by decide)
  have h2 := rowNew (w.alloc (.cells (u32s [10, 11]).toArray 66)) 5 17 (bys pk7) (by decide)
  have h3 := rowNew ((w.alloc (.cells (u32s [10, 11]).toArray 66)).alloc (.cells (bys pk7).toArray 5)) 32 5 ((bOps w.heap.size).flatMap fun y => opvCells y.x) (by decide)
  have e1 : (w.alloc (.cells (u32s [10, 11]).toArray 66)).heap.size = w.heap.size + 1 := by show (w.heap.push _).size = _; rw [Array.size_push]
  have e2 : ((w.alloc (.cells (u32s [10, 11]).toArray 66)).alloc (.cells (bys pk7).toArray 5)).heap.size = w.heap.size + 2 := by show ((w.heap.push _).push _).size = _; rw [Array.size_push, Array.size_push]
  rw [e1] at h2
  rw [e2] at h3
  refine ⟨rfl, ⟨h3, ?_⟩, bel_alloc (bel_alloc (below_alloc w _) (Nat.le_refl _) _) (Nat.le_refl _) _⟩
  intro x hx
  simp only [bOps, List.mem_cons, List.mem_nil_iff, or_false] at hx
  rcases hx with rfl | rfl | rfl | rfl | rfl
  · exact ⟨Row.nil _ _, Row.nil _ _, by decide⟩
  · exact ⟨Row.nil _ _, Row.nil _ _, by decide⟩
  · exact ⟨(h1.below (below_alloc _ _)).below (below_alloc _ _), Row.nil _ _, by show (bop 2).name.length < _; decide⟩
  · exact ⟨Row.nil _ _, Row.nil _ _, by decide⟩
  · exact ⟨Row.nil _ _, h2.below (below_alloc _ _), by show (bop 4).name.length < _; decide⟩
theorem opbs_r {w : World} {v : Value} {L : List OpB} (h : OpBsT w v L) : OpBsR w v L := ⟨h.row.r, fun y hy => ⟨(h.each y hy).1.r, (h.each y hy).2.1.r, (h.each y hy).2.2⟩⟩
theorem row_cells {w : World} {e : TypeId} {a : Option Addr} {n c : Nat} {xs : List Value} (h : Row w e (.slice a n c) n xs) (hl : 0 < xs.length) : ∃ g o, a = some ⟨g, o, none⟩ ∧ w.rangeAt g o xs := by
  obtain ⟨g, o, cap, h1, _, _, _, h5⟩ := Row.open h hl
  injection h1 with e1 _ _
  exact ⟨g, o, e1, fun m v hm => (h5 m (List.getElem?_eq_some_iff.1 hm).1).trans hm⟩
theorem few21_any (v : Value) (L : List OpB) (w : World) (h : OpBsR w v L) : Calls Tryz.prog 26 #[v] w fun e w' => (∃ v', e = .returned v' ∧ OpBsR w' v' (L.take 60)) ∧ w = w' := by
  obtain ⟨va, vc, rfl, hvc, hmx⟩ := h.form
  obtain ⟨K, hKd⟩ : ∃ K, K = min L.length 60 := ⟨_, rfl⟩
  have hK1 : K ≤ L.length := by omega
  have hKm : min (L.length : Int) 60 = (K : Int) := by omega
  obtain ⟨vs, hsl, -, hslR⟩ := slice_to (P := Tryz.prog) elemOp va L.length vc K (by omega)
  have HO : Hid (OpBsR w (.slice vs K vc) (L.take 60)) := by
    have h2 := h.take hK1 hslR
    have e : L.take K = L.take 60 := by
      rcases Nat.le_total L.length 60 with h3 | h3
      · rw [hKd, Nat.min_eq_left h3, List.take_length, List.take_of_length_le h3]
      · rw [hKd, Nat.min_eq_right h3]
    rwa [e] at h2
  clear h hslR hKd
  go_enter Tryz.func26, Tryz.ntmps26
  go_wp2
  go_ret
  exact ⟨⟨_, rfl, HO.out⟩, rfl⟩
theorem b21sent (h : Nat) : sentOf (bOps h) bX = [⟨4, 0, 0, outOf 2 3, 0, true⟩] := by kernel_rfl
theorem b21cur5 (h : Nat) : curOf (bOps h) bX 5 = 0 := by kernel_rfl
theorem b21cur4 (h : Nat) : curOf (bOps h) bX 4 = -1 := by kernel_rfl
theorem b21quiet (h : Nat) : quietOf (bOps h) noLife 1 = true := by kernel_rfl
set_option maxRecDepth 100000 in
set_option maxHeartbeats 8000000 in
theorem shown21_any (w : World) (hT : Tabs w) : Calls Tryz.prog 25 #[] w fun e w' => e = .returned (.bool true) ∧ Below w.heap.size w w' := by
  have CB := Lib.hid (begin21_any w)
  have HT : Hid (∀ w', Below w.heap.size w w' → Tabs w') := fun w' h => Utf8Tabs_below hT h
  have CO := Lib.hid (fun w' => sOut_any 2 3 w')
  clear hT
  go_enter Tryz.func25, Tryz.ntmps25
  go_upto_region 2 with (go_at_call 54; refine CB.out.mono ?_; rintro e w1 ⟨rfl, ho, hb1⟩; have HO := Lib.hid (opbs_r ho); have HB0 := Lib.hid hb1; clear ho hb1)
  generalize (w.heap.size + 2) = H2 at *
  have CA := Lib.hid (RAdmits_any _ _ w1 (HT.out _ HB0.out) HO.out (by show 5 ≤ 256; decide))
  have CL := Lib.hid (fun (w' : World) (hb : Below w1.heap.size w1 w') => RLives_any _ _ w' (HT.out _ (HB0.out.trans (hb.mono HB0.out.size))) (HO.out.below hb) (by show 5 ≤ 256; decide))
  have CS := Lib.hid (fun (w' : World) (hb : Below w1.heap.size w1 w') => RSent_any _ _ bX w' (HT.out _ (HB0.out.trans (hb.mono HB0.out.size))) (HO.out.below hb) (by show 5 ≤ 256; decide))
  have C5' := (fun (at' : Int) (w' : World) (hb : Below w1.heap.size w1 w') => RCur_any _ _ bX at' w' (HT.out _ (HB0.out.trans (hb.mono HB0.out.size))) (HO.out.below hb) (by show 5 ≤ 256; decide))
  have CQ' := (fun (w' : World) (hb : Below w1.heap.size w1 w') => RQuiet_any _ _ noLife 1 w' (HT.out _ (HB0.out.trans (hb.mono HB0.out.size))) (HO.out.below hb) (by show 5 ≤ 256; decide))
  have hlen : (bOps w.heap.size).length = 5 := rfl
  rw [hlen] at CA CL
  rw [bAdms] at CA
  simp only [bLives] at CL
  have hsent := b21sent w.heap.size
  have hc5 := b21cur5 w.heap.size
  have hc4 := b21cur4 w.heap.size
  have hq := b21quiet w.heap.size
  simp only [hsent] at CS
  have C5 := Lib.hid (C5' 5)
  have C4 := Lib.hid (C5' 4)
  have CQ := Lib.hid CQ'
  rw [hc5] at C5
  rw [hc4] at C4
  rw [hq] at CQ
  clear C5' CQ' hc5 hc4 hq hsent hlen HT CB HO
  dsimp only [lifeCells, bX, noLife] at CS C5 C4 CQ
  generalize outOf 2 3 = OU at *
  go_upto_region 4 with (first | (go_at_call 24; refine CA.out.mono ?_; rintro e w2 ⟨⟨av, rfl, ha⟩, hb2⟩; obtain ⟨aa, ac, hav⟩ := Row.form ha; subst hav; have HA := Lib.hid ha; have HB2 := Lib.hid hb2; clear ha hb2) | (go_at_call 27; refine (CL.out _ HB2.out).mono ?_; rintro e w3 ⟨⟨lv, rfl, hl⟩, hb3⟩; obtain ⟨la, lc, hlv⟩ := Row.form hl; subst hlv; have HL := Lib.hid hl; have HB3 := Lib.hid (HB2.out.trans (hb3.mono HB2.out.size)); have HA3 := Lib.hid (Row.below HA.out hb3); clear hl hb3))
  obtain ⟨ga, oa, hga, hra⟩ := row_cells HA3.out (by decide)
  obtain ⟨gx, ox, hgx, hrx⟩ := row_cells HL.out (by decide)
  subst hga
  subst hgx
  have a16 : w3.cell? ⟨ga, oa + 16, none⟩ = some (.int .i64 1) := hra 16 _ rfl
  have a18 : w3.cell? ⟨ga, oa + 16 + 2, none⟩ = some (.int .i64 4) := hra 18 _ rfl
  have x0 : w3.cell? ⟨gx, ox, none⟩ = some (.int .i64 2) := hrx 0 _ rfl
  have x1 : w3.cell? ⟨gx, ox + 1, none⟩ = some (.int .i64 3) := hrx 1 _ rfl
  have x2 : w3.cell? ⟨gx, ox + 2, none⟩ = some (.int .i64 3) := hrx 2 _ rfl
  have x3 : w3.cell? ⟨gx, ox + 3, none⟩ = some (.int .i64 5) := hrx 3 _ rfl
  have X0 := Lib.hid x0
  have X1 := Lib.hid x1
  have X2 := Lib.hid x2
  have X3 := Lib.hid x3
  clear hra hrx
  go_upto_region 7 with (go_at_call 29; refine (CS.out _ HB3.out).mono ?_; rintro e w6 ⟨⟨ev, rfl, he⟩, hb6⟩; obtain ⟨ea, ec, hev⟩ := Row.form he; subst hev; have HE := Lib.hid he; have HB36 := Lib.hid hb6; have HB6 := Lib.hid (HB3.out.trans (hb6.mono HB3.out.size)); clear he hb6)
  obtain ⟨ge, oe, hge, hre⟩ := row_cells HE.out (by show 0 < 6; decide)
  subst hge
  have HRE := Lib.hid hre
  clear a16 a18 x0 x1 x2 x3 hre
  have KEEP : Hid (∀ w', Below w6.heap.size w6 w' → w'.cell? ⟨gx, ox, none⟩ = some (.int .i64 2) ∧ w'.cell? ⟨gx, ox + 1, none⟩ = some (.int .i64 3) ∧ w'.cell? ⟨gx, ox + 2, none⟩ = some (.int .i64 3) ∧ w'.cell? ⟨gx, ox + 3, none⟩ = some (.int .i64 5) ∧ w'.cell? ⟨ge, oe, none⟩ = some (.int .i64 4) ∧ w'.cell? ⟨ge, oe + 1, none⟩ = some (.int .u16 0) ∧ w'.cell? ⟨ge, oe + 2, none⟩ = some (.int .u32 0) ∧ w'.cell? ⟨ge, oe + 3, none⟩ = some (.int .u32 OU) ∧ w'.cell? ⟨ge, oe + 4, none⟩ = some (.int .u16 0) ∧ w'.cell? ⟨ge, oe + 5, none⟩ = some (.bool true)) := fun w' hb =>
    have hb3 := HB36.out.trans (hb.mono HB36.out.size)
    ⟨cell_old X0.out hb3, cell_old X1.out hb3, cell_old X2.out hb3, cell_old X3.out hb3, cell_old (HRE.out 0 _ rfl) hb, cell_old (HRE.out 1 _ rfl) hb, cell_old (HRE.out 2 _ rfl) hb, cell_old (HRE.out 3 _ rfl) hb, cell_old (HRE.out 4 _ rfl) hb, cell_old (HRE.out 5 _ rfl) hb⟩
  refine wp_region_noPanic ?_
  refine AnyT.region_start (d := 51) (S := (fun w' => w'.cell? ⟨gx, ox, none⟩ = some (.int .i64 2) ∧ w'.cell? ⟨gx, ox + 1, none⟩ = some (.int .i64 3) ∧ w'.cell? ⟨gx, ox + 2, none⟩ = some (.int .i64 3) ∧ w'.cell? ⟨gx, ox + 3, none⟩ = some (.int .i64 5) ∧ w'.cell? ⟨ge, oe, none⟩ = some (.int .i64 4) ∧ w'.cell? ⟨ge, oe + 1, none⟩ = some (.int .u16 0) ∧ w'.cell? ⟨ge, oe + 2, none⟩ = some (.int .u32 0) ∧ w'.cell? ⟨ge, oe + 3, none⟩ = some (.int .u32 OU) ∧ w'.cell? ⟨ge, oe + 4, none⟩ = some (.int .u16 0) ∧ w'.cell? ⟨ge, oe + 5, none⟩ = some (.bool true))) (by kernel_rfl) ?_ (fun hHeld0 => ?_)
  · (try dsimp only)
    exact KEEP.out _ (Below.refl _ _).drew
  refine AnyT.tp 0 ?_ rfl ?_ <| AnyT.tp 1 ?_ rfl ?_ <| AnyT.tp 3 ?_ rfl ?_ <| AnyT.tkp 2 [48, 45, 40, 37, 32, 28, 23, 17, 10, 5, 4] ?_ rfl ?_ <| AnyT.tp 4 ?_ rfl ?_ <| AnyT.tp 5 ?_ rfl ?_ <| ?_
  any_goals (intro wS hSw; (try dsimp only at hSw); (try simp only [AnyT.pt]); go_simp; try with_reducible rfl)
  try simp only [AnyT.pt]
  refine AnyT.tp 6 ?_ rfl ?_ <| AnyT.tp 7 ?_ rfl ?_ <| AnyT.tp 8 ?_ rfl ?_ <| AnyT.tp 9 ?_ rfl ?_ <| AnyT.tp 10 ?_ rfl ?_ <| ?_
  any_goals (intro wS hSw; (try dsimp only at hSw); (try simp only [AnyT.pt]); go_simp; try with_reducible rfl)
  try simp only [AnyT.pt]
  refine AnyT.tp 11 ?_ rfl ?_ <| AnyT.tp 12 ?_ rfl ?_ <| AnyT.tp 13 ?_ rfl ?_ <| AnyT.tkp 14 [48, 45, 40, 37, 32, 28, 23, 17, 16, 15] ?_ rfl ?_ <| AnyT.tp 15 ?_ rfl ?_ <| AnyT.tp 16 ?_ rfl ?_ <| AnyT.tp 17 ?_ rfl ?_ <| ?_
  any_goals (intro wS hSw; (try dsimp only at hSw); (try simp only [AnyT.pt]); go_simp; try with_reducible rfl)
  try simp only [AnyT.pt]
  refine AnyT.tp 18 ?_ rfl ?_ <| AnyT.tp 19 ?_ rfl ?_ <| AnyT.tp 20 ?_ rfl ?_ <| AnyT.tkp 21 [48, 45, 40, 37, 32, 28, 23, 22] ?_ rfl ?_ <| AnyT.tp 22 ?_ rfl ?_ <| AnyT.tp 23 ?_ rfl ?_ <| ?_
  any_goals (intro wS hSw; (try dsimp only at hSw); (try simp only [AnyT.pt]); go_simp; try with_reducible rfl)
  try simp only [AnyT.pt]
  refine AnyT.tp 24 ?_ rfl ?_ <| AnyT.tp 25 ?_ rfl ?_ <| AnyT.tp 26 ?_ rfl ?_ <| AnyT.tkp 27 [48, 45, 40, 37, 32, 31, 30] ?_ rfl ?_ <| ?_
  any_goals (intro wS hSw; (try dsimp only at hSw); (try simp only [AnyT.pt]); go_simp; try with_reducible rfl)
  try simp only [AnyT.pt]
  refine AnyT.till_ready (rs := [28]) (by kernel_rfl) (by simp) ?_
  refine AnyT.each_cons (i := 28) rfl (fun K hK => ?_) AnyT.each_nil
  go_simp
  refine (CO.out _).mono ?_
  rintro e w' ⟨rfl, rfl⟩
  go_wp2_with fail
  refine AnyT.go_on hK _ _ ?_ (fun hHeld1 => ?_)
  · (try dsimp only)
    exact KEEP.out _ (by first | with_reducible exact HB8.out | with_reducible exact HB7.out | with_reducible exact (Below.refl _ _).drew)
  clear hK K
  try simp only [AnyT.pt]
  refine AnyT.tp 29 ?_ rfl ?_ <| AnyT.tp 30 ?_ rfl ?_ <| AnyT.tp 31 ?_ rfl ?_ <| AnyT.tp 32 ?_ rfl ?_ <| ?_
  any_goals (intro wS hSw; (try dsimp only at hSw); (try simp only [AnyT.pt]); go_simp; try with_reducible rfl)
  try simp only [AnyT.pt]
  refine AnyT.tp 33 ?_ rfl ?_ <| AnyT.tp 34 ?_ rfl ?_ <| AnyT.tp 35 ?_ rfl ?_ <| AnyT.tkp 36 [48, 45, 40, 37] ?_ rfl ?_ <| ?_
  any_goals (intro wS hSw; (try dsimp only at hSw); (try simp only [AnyT.pt]); go_simp; try with_reducible rfl)
  try simp only [AnyT.pt]
  refine AnyT.till_ready (rs := [37]) (by kernel_rfl) (by simp) ?_
  refine AnyT.each_cons (i := 37) rfl (fun K hK => ?_) AnyT.each_nil
  go_simp
  refine (C5.out _ (HB6.out.trans ((Below.refl w6.heap.size w6).drew.mono HB6.out.size))).mono ?_
  rintro e w7 ⟨rfl, hb7⟩
  have HB7 := Lib.hid ((Below.refl w6.heap.size w6).drew.trans hb7)
  clear hb7
  go_wp2_with fail
  refine AnyT.go_on hK _ _ ?_ (fun hHeld2 => ?_)
  · (try dsimp only)
    exact KEEP.out _ (by first | with_reducible exact HB8.out | with_reducible exact HB7.out | with_reducible exact (Below.refl _ _).drew)
  clear hK K
  try simp only [AnyT.pt]
  refine AnyT.tp 38 ?_ rfl ?_ <| AnyT.tp 39 ?_ rfl ?_ <| AnyT.tp 40 ?_ rfl ?_ <| ?_
  any_goals (intro wS hSw; (try dsimp only at hSw); (try simp only [AnyT.pt]); go_simp; try with_reducible rfl)
  try simp only [AnyT.pt]
  refine AnyT.tp 41 ?_ rfl ?_ <| AnyT.tp 42 ?_ rfl ?_ <| AnyT.tp 43 ?_ rfl ?_ <| AnyT.tkp 44 [48, 45] ?_ rfl ?_ <| ?_
  any_goals (intro wS hSw; (try dsimp only at hSw); (try simp only [AnyT.pt]); go_simp; try with_reducible rfl)
  try simp only [AnyT.pt]
  refine AnyT.till_ready (rs := [45]) (by kernel_rfl) (by simp) ?_
  refine AnyT.each_cons (i := 45) rfl (fun K hK => ?_) AnyT.each_nil
  go_simp
  refine (C4.out _ (HB6.out.trans (HB7.out.mono HB6.out.size))).mono ?_
  rintro e w8 ⟨rfl, hb8⟩
  have HB8 := Lib.hid (HB7.out.trans (hb8.mono HB7.out.size))
  clear hb8
  go_wp2_with fail
  refine AnyT.go_on hK _ _ ?_ (fun hHeld3 => ?_)
  · (try dsimp only)
    exact KEEP.out _ (by first | with_reducible exact HB8.out | with_reducible exact HB7.out | with_reducible exact (Below.refl _ _).drew)
  clear hK K
  try simp only [AnyT.pt]
  refine AnyT.tp 46 ?_ rfl ?_ <| AnyT.tp 47 ?_ rfl ?_ <| AnyT.tp 48 ?_ rfl ?_ <| ?_
  any_goals (intro wS hSw; (try dsimp only at hSw); (try simp only [AnyT.pt]); go_simp; try with_reducible rfl)
  try simp only [AnyT.pt]
  refine AnyT.tp 49 ?_ rfl ?_ <| AnyT.tp 50 ?_ rfl ?_ <| ?_
  any_goals (intro wS hSw; (try dsimp only at hSw); (try simp only [AnyT.pt]); go_simp; try with_reducible rfl)
  try simp only [AnyT.pt]
  refine AnyT.till_ready (rs := [51]) (by kernel_rfl) (by simp) ?_
  refine AnyT.each_cons (i := 51) rfl (fun K hK => ?_) AnyT.each_nil
  go_simp
  refine (CQ.out _ (HB6.out.trans (HB8.out.mono HB6.out.size))).mono ?_
  rintro e w9 ⟨rfl, hb9⟩
  have HB9 := Lib.hid (HB8.out.trans (hb9.mono HB8.out.size))
  clear hb9
  go_wp2_with fail
  refine AnyT.go_past hK _ _ (by kernel_rfl) ?_
  clear hK K
  try simp only [AnyT.pt]
  refine AnyT.tp 52 ?_ rfl ?_ <| AnyT.tp 53 ?_ rfl ?_ <| ?_
  any_goals (intro wS hSw; (try dsimp only at hSw); (try simp only [AnyT.pt]); go_simp; try with_reducible rfl)
  try simp only [AnyT.pt]
  refine AnyT.till_done (by kernel_rfl) ?_ _
  refine NoPanic.normal ?_
  go_wp2_with fail
  go_ret
  exact ⟨rfl, HB0.out.trans ((HB6.out.trans (HB9.out.mono HB6.out.size)).mono HB0.out.size)⟩
end Go.Proofs.By
set_option linter.unusedSimpArgs false
namespace Go.Proofs.By
open Go.Proofs.Rm (Room Turn)
theorem take_kind (R : Room) (ep : Int) (o : Rm.Op) (b : List UInt8) (sv : Value) : ((take R ep o b sv).1.1.adm.kind = 1 ∨ (take R ep o b sv).1.1.adm.kind = 2) ∨ ((take R ep o b sv).1.1.turns = [] ∧ (take R ep o b sv).1.2 = R ∧ (take R ep o b sv).2 = ep) := by
  unfold take
  split
  · unfold datagram
    split
    · exact Or.inr ⟨rfl, rfl, rfl⟩
    split
    · exact Or.inr ⟨rfl, rfl, rfl⟩
    split
    · next p d _ =>
      show ((mediaT R ep o.peer p d).adm.kind = 1 ∨ _) ∨ ((mediaT R ep o.peer p d).turns = [] ∧ R = R ∧ ep = ep)
      unfold mediaT
      split
      · exact Or.inl (Or.inl rfl)
      · exact Or.inr ⟨rfl, rfl, rfl⟩
    · exact Or.inl (Or.inr rfl)
    · exact Or.inl (Or.inr rfl)
  · split
    · exact Or.inr ⟨rfl, rfl, rfl⟩
    · exact Or.inl (Or.inr rfl)
theorem run_bare (L : List OpB) : ∀ k, (runTo L k).1.bare = (runTo L k).1
  | 0 => rfl
  | k + 1 => by
    unfold runTo
    split
    · exact run_bare L k
    · rfl
theorem run_at {L : List OpB} {k : Nat} {y : OpB} (hy : L[k]? = some y) : takenAt L k = (take (runTo L k).1 (runTo L k).2 y.x.o y.b (.slice none 0 0)).1.1 ∧ runTo L (k + 1) = ((take (runTo L k).1 (runTo L k).2 y.x.o y.b (.slice none 0 0)).1.2.bare, (take (runTo L k).1 (runTo L k).2 y.x.o y.b (.slice none 0 0)).2) := by
  constructor
  · unfold takenAt; rw [hy]
  · conv => lhs; unfold runTo
    rw [hy]
def accd (L : List OpB) (k : Nat) : Bool := decide ((takenAt L k).adm.kind = 1) || decide ((takenAt L k).adm.kind = 2)
/-- The places of what is let in, among the first k. -/
def accIdx (L : List OpB) (k : Nat) : List Nat := (List.range k).filter (accd L)
theorem accIdx_succ (L : List OpB) (k : Nat) : accIdx L (k + 1) = accIdx L k ++ if accd L k then [k] else [] := by
  unfold accIdx
  rw [List.range_succ, List.filter_append]
  cases h : accd L k <;> simp [h]
theorem accIdx_pre (L : List OpB) (k : Nat) : ∀ d, ∃ r, accIdx L (k + d) = accIdx L k ++ r
  | 0 => ⟨[], (List.append_nil _).symm⟩
  | d + 1 => by
    obtain ⟨r, hr⟩ := accIdx_pre L k d
    refine ⟨r ++ if accd L (k + d) then [k + d] else [], ?_⟩
    rw [← List.append_assoc, ← hr]
    exact accIdx_succ L (k + d)
def noOpB : OpB := ⟨⟨⟨0, 0, 0, 0, [], []⟩, none, 0, none, 0, 0⟩, []⟩
def inOps (L : List OpB) (k : Nat) : List OpB := (accIdx L k).map fun i => L.getD i noOpB
def wasA (L : List OpB) (k : Nat) : List Adm := (accIdx L k).map fun i => (takenAt L i).adm
theorem inOps_succ (L : List OpB) (k : Nat) : inOps L (k + 1) = inOps L k ++ if accd L k then [L.getD k noOpB] else [] := by
  unfold inOps
  rw [accIdx_succ, List.map_append]
  cases accd L k <;> rfl
theorem wasA_succ (L : List OpB) (k : Nat) : wasA L (k + 1) = wasA L k ++ if accd L k then [(takenAt L k).adm] else [] := by
  unfold wasA
  rw [accIdx_succ, List.map_append]
  cases accd L k <;> rfl
theorem accIdx_len (L : List OpB) (k : Nat) : (accIdx L k).length ≤ k := by
  unfold accIdx
  have := List.length_filter_le (accd L) (List.range k)
  rwa [List.length_range] at this
theorem inOps_at {L : List OpB} {k : Nat} (hk : k < L.length) (ha : accd L k = true) : (inOps L L.length)[(accIdx L k).length]? = some L[k] := by
  obtain ⟨r, hr⟩ := accIdx_pre L (k + 1) (L.length - (k + 1))
  rw [show k + 1 + (L.length - (k + 1)) = L.length by omega, accIdx_succ, if_pos ha] at hr
  unfold inOps
  rw [List.getElem?_map, hr, List.append_assoc, List.getElem?_append_right (Nat.le_refl _), Nat.sub_self]
  show some (L.getD k noOpB) = _
  rw [List.getD_eq_getElem?_getD, List.getElem?_eq_getElem hk]
  rfl
theorem lifeTurn_grow (n at' : Int) (ls : List Life) (t : Turn) : (lifeTurn n at' ls t).length = ls.length + if t.kind = 1 then 1 else 0 := by
  unfold lifeTurn
  by_cases h : t.kind = 1
  · rw [if_pos h, if_pos h, List.length_append]; rfl
  · rw [if_neg h, if_neg h]
    split
    · rw [endGo_len]; rfl
    · rfl
theorem livesOf_grow (n at' : Int) : ∀ (ts : List Turn) (ls : List Life), (livesOf n at' ls ts).length = ls.length + ts.countP fun t => decide (t.kind = 1)
  | [], ls => rfl
  | t :: ts, ls => by
    show (livesOf n at' (lifeTurn n at' ls t) ts).length = _
    rw [livesOf_grow n at' ts, lifeTurn_grow, List.countP_cons]
    by_cases h : t.kind = 1
    · rw [if_pos h, if_pos (decide_eq_true h)]; omega
    · rw [if_neg h, if_neg (by rw [decide_eq_false h]; decide)]; omega
/-- Without what is not let in all goes on as before. -/
theorem wrong_run (L : List OpB) (n n' : Int) : ∀ k, k ≤ L.length → runTo (inOps L L.length) (accIdx L k).length = runTo L k ∧ admsTo (inOps L L.length) (accIdx L k).length = wasA L k ∧ (livesTo (inOps L L.length) n' (accIdx L k).length).length = (livesTo L n k).length
  | 0, _ => ⟨rfl, rfl, rfl⟩
  | k + 1, hk => by
    have hk' : k < L.length := hk
    obtain ⟨h1, h2, h3⟩ := wrong_run L n n' k (by omega)
    have hy : L[k]? = some L[k] := List.getElem?_eq_getElem hk'
    obtain ⟨e1, e2⟩ := run_at hy
    have hlv : (livesTo L n (k + 1)).length = (livesTo L n k).length + (takenAt L k).turns.countP fun t => decide (t.kind = 1) := livesOf_grow n k _ _
    rw [accIdx_succ, wasA_succ]
    by_cases ha : accd L k = true
    · rw [if_pos ha, if_pos ha, List.length_append]
      show runTo _ ((accIdx L k).length + 1) = _ ∧ admsTo _ ((accIdx L k).length + 1) = _ ∧ (livesTo _ n' ((accIdx L k).length + 1)).length = _
      obtain ⟨f1, f2⟩ := run_at (inOps_at hk' ha)
      have e3 : takenAt (inOps L L.length) (accIdx L k).length = takenAt L k := by rw [f1, e1, h1]
      refine ⟨by rw [f2, e2, h1], by rw [admsTo_succ, h2, e3], ?_⟩
      have hl2 : (livesTo (inOps L L.length) n' ((accIdx L k).length + 1)).length = (livesTo (inOps L L.length) n' (accIdx L k).length).length + (takenAt (inOps L L.length) (accIdx L k).length).turns.countP fun t => decide (t.kind = 1) := livesOf_grow n' _ _ _
      rw [hl2, hlv, h3, e3]
    · rw [if_neg ha, if_neg ha, List.append_nil, List.append_nil]
      have hn : ¬ ((takenAt L k).adm.kind = 1 ∨ (takenAt L k).adm.kind = 2) := by
        unfold accd at ha
        simpa using ha
      rcases take_kind (runTo L k).1 (runTo L k).2 L[k].x.o L[k].b (.slice none 0 0) with h | ⟨t1, t2, t3⟩
      · rw [← e1] at h; exact absurd h hn
      · rw [← e1] at t1
        refine ⟨?_, h2, ?_⟩
        · rw [h1, e2, t2, t3, run_bare]
        · rw [hlv, h3, t1]; rfl
theorem wrong_all (L : List OpB) : (inOps L L.length).length = (accIdx L L.length).length ∧ admsTo (inOps L L.length) (inOps L L.length).length = wasA L L.length ∧ (livesTo (inOps L L.length) (inOps L L.length).length (inOps L L.length).length).length = (livesTo L L.length L.length).length := by
  have hl : (inOps L L.length).length = (accIdx L L.length).length := by unfold inOps; rw [List.length_map]
  have h := wrong_run L L.length (inOps L L.length).length L.length (Nat.le_refl _)
  rw [← hl] at h
  exact ⟨hl, h.2.1, h.2.2⟩
end Go.Proofs.By
set_option linter.unusedSimpArgs false
namespace Go.Proofs.By
open Go.RowKit Go.Proofs.Heap Go.Proofs
open Go.Proofs.Rm (below_drewN own_le opvCells u32s)
open Go.Proofs.Lab (Tabs)
open Go.Proofs.Mem
/-- What was let in so far, and what became of it: two rows of the call's own. -/
structure WS (w w' : World) (iv : Value) (I : List OpB) (wv : Value) (A : List Adm) : Prop where
  bel : Below w.heap.size w w'
  iown : w'.ownsRow w.heap.size 32 7 iv I.length (I.flatMap fun y => opvCells y.x)
  wown : w'.ownsRow w.heap.size 35 4 wv A.length (A.flatMap admC4)
theorem WS.below {w w1 w2 : World} {iv wv : Value} {I : List OpB} {A : List Adm} (h : WS w w1 iv I wv A) (hb : Below w1.heap.size w1 w2) : WS w w2 iv I wv A := ⟨h.bel.trans (hb.mono h.bel.size), owns_bel h.iown hb, owns_bel h.wown hb⟩
theorem mem_inOps {L : List OpB} {k : Nat} (hk : k ≤ L.length) {y : OpB} (h : y ∈ inOps L k) : y ∈ L := by
  unfold inOps at h
  rw [List.mem_map] at h
  obtain ⟨i, hi, rfl⟩ := h
  have hi : i < k := by
    unfold accIdx at hi
    have := (List.mem_filter.1 hi).1
    exact List.mem_range.1 this
  rw [List.getD_eq_getElem?_getD, List.getElem?_eq_getElem (by omega)]
  exact List.getElem_mem _
theorem adm_row {w : World} {a : Option Addr} {n c : Nat} {l : List Adm} (h : Row w 35 (.slice a n c) n (l.flatMap admC4)) {j : Nat} {z : Adm} (hz : l[j]? = some z) : ∃ g o, a = some ⟨g, o, none⟩ ∧ w.cell? ⟨g, o + j * 4, none⟩ = some (.int .i64 z.kind) ∧ w.cell? ⟨g, o + j * 4 + 1, none⟩ = some (.int .i64 z.source) ∧ w.cell? ⟨g, o + j * 4 + 2, none⟩ = some (.int .i64 z.epoch) ∧ w.cell? ⟨g, o + j * 4 + 3, none⟩ = some (.int .i64 z.err) := by
  have hl : j < l.length := (List.getElem?_eq_some_iff.1 hz).1
  obtain ⟨g, o, e, h2⟩ := row_atB admC4 4 (fun _ => rfl) h (by omega)
  exact ⟨g, o, e, h2 j z hz 0 (by omega), h2 j z hz 1 (by omega), h2 j z hz 2 (by omega), h2 j z hz 3 (by omega)⟩
set_option maxRecDepth 100000 in
set_option maxHeartbeats 8000000 in
theorem RelationWrong_any (v : Value) (L0 : List OpB) (w : World) (hT : Tabs w) (hv : OpBsR w v L0) : Calls Tryz.prog 11 #[v] w fun e w' => e = .returned (.bool true) ∧ Below w.heap.size w w' := by
  have CS := Lib.hid (shown21_any w hT)
  have CF := Lib.hid (fun (w' : World) (h : Below w.heap.size w w') => few21_any v L0 w' (hv.below h))
  have HT : Hid (∀ w', Below w.heap.size w w' → Tabs w') := fun w' h => Utf8Tabs_below hT h
  have hL : (L0.take 60).length ≤ 60 := by rw [List.length_take]; omega
  generalize L0.take 60 = L at *
  have CA := Lib.hid (fun (v' : Value) (w' : World) (hT : Tabs w') (h : OpBsR w' v' L) => RAdmits_any v' L w' hT h (by omega))
  clear hT hv
  go_enter Tryz.func11, Tryz.ntmps11
  go_wp2_with (first | (go_at_call 25; refine CS.out.mono ?_; rintro e w1 ⟨rfl, hb1⟩; have HB1 := Lib.hid hb1; clear hb1) | (go_at_call 26; refine (CF.out _ HB1.out).mono ?_; rintro e w' ⟨⟨v', rfl, ho⟩, rfl⟩; obtain ⟨va, vc, hv', hvc, hmx⟩ := OpBsR.form ho; subst hv'; have HO := Lib.hid ho; clear ho) | (go_at_call 24; refine (CA.out _ _ (HT.out _ HB1.out) HO.out).mono ?_; rintro e w3 ⟨⟨av, rfl, hrow⟩, hb3⟩; obtain ⟨aa, ac, hav⟩ := Row.form hrow; subst hav; have HA := Lib.hid hrow; have HB3 := Lib.hid hb3; have HO3 := Lib.hid (HO.out.below hb3); clear hrow hb3))
  have HS0 : Hid (WS w3 w3 (.slice none 0 0) (inOps L 0) (.slice none 0 0) (wasA L 0)) := ⟨Below.refl _ _, World.ownsRow_nil _ _ _ _, World.ownsRow_nil _ _ _ _⟩
  have HB13 := Lib.hid (HB1.out.trans (HB3.out.mono HB1.out.size))
  clear CS CF CA HO HB3
  go_loopw [4, 5, 17] (fun s4 s5 s17 w' => ∃ j : Nat, j ≤ L.length ∧ s17 = .int .i64 (j : Int) ∧ WS w3 w' s4 (inOps L j) s5 (wasA L j)) (fun _ _ s17 _ => L.length - (intOf s17).toNat)
  case atStart => exact ⟨0, by omega, rfl, HS0.out⟩
  case round =>
    obtain ⟨j, hj, rfl, hws⟩ := hrel
    clear HS0
    have HWS := Lib.hid hws
    clear hws
    obtain ⟨ia, ic, rfl⟩ := Row.form (Row.of_owns HWS.out.iown)
    obtain ⟨wa, wc, rfl⟩ := Row.form (Row.of_owns HWS.out.wown)
    have li : (inOps L j).length ≤ 60 := by have := accIdx_len L j; unfold inOps; rw [List.length_map]; omega
    have lw : (wasA L j).length ≤ 60 := by have := accIdx_len L j; unfold wasA; rw [List.length_map]; omega
    by_cases hjl : j < L.length
    · have hOr := HO3.out.below HWS.out.bel
      obtain ⟨g', off', cap', e1, -, -, -, hat⟩ := Rm.row_atR (fun y : OpB => opvCells y.x) 7 (fun _ => rfl) (by omega) hOr.row (by omega)
      cases e1
      have hy : L[j]? = some L[j] := List.getElem?_eq_getElem hjl
      have hat := hat j _ hy
      have HGD : Hid (L.getD j noOpB = L[j]) := by show _ = _; rw [List.getD_eq_getElem?_getD, hy]; rfl
      generalize L[j] = y at *
      obtain ⟨⟨⟨kd, p, s, q, nm, ss⟩, sa, sc, ba, bl, bc⟩, bb⟩ := y
      have hrg : wr.rangeAt g' (off' + j * 7) [.int .i64 kd, .int .i64 p, .int .i64 s, .int .i64 q, .string (str nm), .slice sa ss.length sc, .slice ba bl bc] := fun m v hm => (hat m (by have h := (List.getElem?_eq_some_iff.1 hm).1; simpa using h)).trans hm
      obtain ⟨ga, oa, ca, hga, hra3⟩ := adm_atV HA.out hjl
      cases hga
      generalize hadm : (takenAt L j).adm = A at *
      obtain ⟨ak, as', ae, ar⟩ := A
      have HAD := Lib.hid hadm
      have HAK : Hid ((takenAt L j).adm.kind = ak) := by show _ = _; rw [hadm]
      dsimp only at hra3
      have HRA := Lib.hid hra3
      have a0 : wr.cell? ⟨ga, oa + j * 4, none⟩ = some (.int .i64 ak) := cell_old (hra3 0 _ rfl) HWS.out.bel
      have hjI : (j : Int) < (L.length : Int) := Int.ofNat_lt.2 hjl
      have dj : decide ((j : Int) < (L.length : Int)) = true := decide_eq_true hjI
      have dj2 : decide (j < L.length) = true := decide_eq_true hjl
      clear hat hOr hadm hra3 hy
      have HN1 : Hid (Row (wr.alloc (.cells #[.int .i64 kd, .int .i64 p, .int .i64 s, .int .i64 q, .string (str nm), .slice sa ss.length sc, .slice ba bl bc] 32)) 32 (.slice (some ⟨wr.heap.size, 0, none⟩) 1 1) 1 [.int .i64 kd, .int .i64 p, .int .i64 s, .int .i64 q, .string (str nm), .slice sa ss.length sc, .slice ba bl bc]) := rowNew wr 32 1 [.int .i64 kd, .int .i64 p, .int .i64 s, .int .i64 q, .string (str nm), .slice sa ss.length sc, .slice ba bl bc] (by decide)
      have HWS1 := Lib.hid (HWS.out.below (below_alloc wr (.cells #[.int .i64 kd, .int .i64 p, .int .i64 s, .int .i64 q, .string (str nm), .slice sa ss.length sc, .slice ba bl bc] 32)))
      have HONE1 : Hid (∀ u ∈ ([.int .i64 kd, .int .i64 p, .int .i64 s, .int .i64 q, .string (str nm), .slice sa ss.length sc, .slice ba bl bc] : List Value), u.oneCell' = true) := fun u hu => by
        simp only [List.mem_cons, List.mem_nil_iff, or_false] at hu
        rcases hu with rfl | rfl | rfl | rfl | rfl | rfl | rfl <;> rfl
      have hkk : ak = 1 ∨ ak = 2 ∨ (ak ≠ 1 ∧ ak ≠ 2) := by omega
      rcases hkk with hk | hk | ⟨hk1, hk2⟩
      · subst hk
        have ha : accd L j = true := by unfold accd; rw [HAK.out]; rfl
        have HI := Lib.hid (inOps_succ L j)
        have HW := Lib.hid (wasA_succ L j)
        rw [if_pos ha, HAD.out] at HW
        rw [if_pos ha, HGD.out] at HI
        clear ha
        go_upto_region 12 with (first | (with_reducible refine load_at 32 (.tmp 43) rfl ?_; refine wpList_load_mid rfl 32 (.tmp 43) rfl g' (off' + j * 7) rfl [.int .i64 kd, .int .i64 p, .int .i64 s, .int .i64 q, .string (str nm), .slice sa ss.length sc, .slice ba bl bc] _ hrg Tryz.underlying32 rfl (by kernel_rfl) ?_) | (at_builtin; refine wpList_app rfl (.tmp 40) (.tmp 45) 22 rfl w3.heap.size elemOp (.slice ia (inOps L j).length ic) (inOps L j).length ((inOps L j).flatMap fun y => opvCells y.x) rfl HWS1.out.iown _ 1 [.int .i64 kd, .int .i64 p, .int .i64 s, .int .i64 q, .string (str nm), .slice sa ss.length sc, .slice ba bl bc] rfl HN1.out rfl HONE1.out (by omega) (by omega) HWS1.out.bel.size (fun v4 w4 HO4 HG4 => ?_)))
        have HI4 : Hid (w4.ownsRow w3.heap.size 32 7 v4 (inOps L (j + 1)).length ((inOps L (j + 1)).flatMap fun y => opvCells y.x)) := (by rw [HI.out, List.length_append, List.flatMap_append]; exact HO4.out)
        have HWS4 : Hid (WS w3 w4 v4 (inOps L (j + 1)) (.slice wa (wasA L j).length wc) (wasA L j)) := ⟨((Fr.of_below NoB HWS1.out.bel).grown HG4.out HWS1.out.bel.size (own_le HWS1.out.iown)).below, HI4.out, owns_other HWS1.out.wown HWS1.out.iown (by decide) HG4.out⟩
        clear hrg HI4 HO4 HG4 HWS1 HN1 HONE1 HI
        have hra : w4.rangeAt ga (oa + j * 4) [.int .i64 1, .int .i64 as', .int .i64 ae, .int .i64 ar] := fun m v hm => cell_old (HRA.out m v hm) HWS4.out.bel
        have HN2 : Hid (Row (w4.alloc (.cells #[.int .i64 1, .int .i64 as', .int .i64 ae, .int .i64 ar] 35)) 35 (.slice (some ⟨w4.heap.size, 0, none⟩) 1 1) 1 [.int .i64 1, .int .i64 as', .int .i64 ae, .int .i64 ar]) := rowNew w4 35 1 [.int .i64 1, .int .i64 as', .int .i64 ae, .int .i64 ar] (by decide)
        have HWS2 := Lib.hid (HWS4.out.below (below_alloc w4 (.cells #[.int .i64 1, .int .i64 as', .int .i64 ae, .int .i64 ar] 35)))
        have HONE2 : Hid (∀ u ∈ ([.int .i64 1, .int .i64 as', .int .i64 ae, .int .i64 ar] : List Value), u.oneCell' = true) := fun u hu => by
          simp only [List.mem_cons, List.mem_nil_iff, or_false] at hu
          rcases hu with rfl | rfl | rfl | rfl <;> rfl
        go_wp2_with (first | (with_reducible refine load_at 35 (.tmp 50) rfl ?_; refine wpList_load_mid rfl 35 (.tmp 50) rfl ga (oa + j * 4) rfl [.int .i64 1, .int .i64 as', .int .i64 ae, .int .i64 ar] _ hra Tryz.underlying35 rfl (by kernel_rfl) ?_) | (at_builtin; refine wpList_app rfl (.tmp 47) (.tmp 52) 37 rfl w3.heap.size elemAdm (.slice wa (wasA L j).length wc) (wasA L j).length ((wasA L j).flatMap admC4) rfl HWS2.out.wown _ 1 [.int .i64 1, .int .i64 as', .int .i64 ae, .int .i64 ar] rfl HN2.out rfl HONE2.out (by omega) (by omega) HWS2.out.bel.size (fun v5 w5 HO5 HG5 => ?_)))
        have HW5 : Hid (w5.ownsRow w3.heap.size 35 4 v5 (wasA L (j + 1)).length ((wasA L (j + 1)).flatMap admC4)) := (by rw [HW.out, List.length_append, List.flatMap_append]; exact HO5.out)
        have HWS5 : Hid (WS w3 w5 v4 (inOps L (j + 1)) v5 (wasA L (j + 1))) := ⟨((Fr.of_below NoB HWS2.out.bel).grown HG5.out HWS2.out.bel.size (own_le HWS2.out.wown)).below, owns_other HWS2.out.iown HWS2.out.wown (by decide) HG5.out, HW5.out⟩
        go_roundw
        case rel => exact ⟨j + 1, by omega, by go_num, HWS5.out⟩
        case measure => simp [intOf]; omega
      · subst hk
        have ha : accd L j = true := by unfold accd; rw [HAK.out]; rfl
        have HI := Lib.hid (inOps_succ L j)
        have HW := Lib.hid (wasA_succ L j)
        rw [if_pos ha, HAD.out] at HW
        rw [if_pos ha, HGD.out] at HI
        clear ha
        go_upto_region 12 with (first | (with_reducible refine load_at 32 (.tmp 43) rfl ?_; refine wpList_load_mid rfl 32 (.tmp 43) rfl g' (off' + j * 7) rfl [.int .i64 kd, .int .i64 p, .int .i64 s, .int .i64 q, .string (str nm), .slice sa ss.length sc, .slice ba bl bc] _ hrg Tryz.underlying32 rfl (by kernel_rfl) ?_) | (at_builtin; refine wpList_app rfl (.tmp 40) (.tmp 45) 22 rfl w3.heap.size elemOp (.slice ia (inOps L j).length ic) (inOps L j).length ((inOps L j).flatMap fun y => opvCells y.x) rfl HWS1.out.iown _ 1 [.int .i64 kd, .int .i64 p, .int .i64 s, .int .i64 q, .string (str nm), .slice sa ss.length sc, .slice ba bl bc] rfl HN1.out rfl HONE1.out (by omega) (by omega) HWS1.out.bel.size (fun v4 w4 HO4 HG4 => ?_)))
        have HI4 : Hid (w4.ownsRow w3.heap.size 32 7 v4 (inOps L (j + 1)).length ((inOps L (j + 1)).flatMap fun y => opvCells y.x)) := (by rw [HI.out, List.length_append, List.flatMap_append]; exact HO4.out)
        have HWS4 : Hid (WS w3 w4 v4 (inOps L (j + 1)) (.slice wa (wasA L j).length wc) (wasA L j)) := ⟨((Fr.of_below NoB HWS1.out.bel).grown HG4.out HWS1.out.bel.size (own_le HWS1.out.iown)).below, HI4.out, owns_other HWS1.out.wown HWS1.out.iown (by decide) HG4.out⟩
        clear hrg HI4 HO4 HG4 HWS1 HN1 HONE1 HI
        have hra : w4.rangeAt ga (oa + j * 4) [.int .i64 2, .int .i64 as', .int .i64 ae, .int .i64 ar] := fun m v hm => cell_old (HRA.out m v hm) HWS4.out.bel
        have HN2 : Hid (Row (w4.alloc (.cells #[.int .i64 2, .int .i64 as', .int .i64 ae, .int .i64 ar] 35)) 35 (.slice (some ⟨w4.heap.size, 0, none⟩) 1 1) 1 [.int .i64 2, .int .i64 as', .int .i64 ae, .int .i64 ar]) := rowNew w4 35 1 [.int .i64 2, .int .i64 as', .int .i64 ae, .int .i64 ar] (by decide)
        have HWS2 := Lib.hid (HWS4.out.below (below_alloc w4 (.cells #[.int .i64 2, .int .i64 as', .int .i64 ae, .int .i64 ar] 35)))
        have HONE2 : Hid (∀ u ∈ ([.int .i64 2, .int .i64 as', .int .i64 ae, .int .i64 ar] : List Value), u.oneCell' = true) := fun u hu => by
          simp only [List.mem_cons, List.mem_nil_iff, or_false] at hu
          rcases hu with rfl | rfl | rfl | rfl <;> rfl
        go_wp2_with (first | (with_reducible refine load_at 35 (.tmp 50) rfl ?_; refine wpList_load_mid rfl 35 (.tmp 50) rfl ga (oa + j * 4) rfl [.int .i64 2, .int .i64 as', .int .i64 ae, .int .i64 ar] _ hra Tryz.underlying35 rfl (by kernel_rfl) ?_) | (at_builtin; refine wpList_app rfl (.tmp 47) (.tmp 52) 37 rfl w3.heap.size elemAdm (.slice wa (wasA L j).length wc) (wasA L j).length ((wasA L j).flatMap admC4) rfl HWS2.out.wown _ 1 [.int .i64 2, .int .i64 as', .int .i64 ae, .int .i64 ar] rfl HN2.out rfl HONE2.out (by omega) (by omega) HWS2.out.bel.size (fun v5 w5 HO5 HG5 => ?_)))
        have HW5 : Hid (w5.ownsRow w3.heap.size 35 4 v5 (wasA L (j + 1)).length ((wasA L (j + 1)).flatMap admC4)) := (by rw [HW.out, List.length_append, List.flatMap_append]; exact HO5.out)
        have HWS5 : Hid (WS w3 w5 v4 (inOps L (j + 1)) v5 (wasA L (j + 1))) := ⟨((Fr.of_below NoB HWS2.out.bel).grown HG5.out HWS2.out.bel.size (own_le HWS2.out.wown)).below, owns_other HWS2.out.iown HWS2.out.wown (by decide) HG5.out, HW5.out⟩
        go_roundw
        case rel => exact ⟨j + 1, by omega, by go_num, HWS5.out⟩
        case measure => simp [intOf]; omega
      · have ha : accd L j = false := by unfold accd; rw [HAK.out, decide_eq_false hk1, decide_eq_false hk2]; rfl
        have HI := Lib.hid (inOps_succ L j)
        have HW := Lib.hid (wasA_succ L j)
        rw [ha] at HW HI
        simp only [Bool.false_eq_true, if_false, List.append_nil] at HW HI
        have f1 : (ak == 1) = false := by rw [beq_eq_false_iff_ne]; exact hk1
        have f2 : (ak == 2) = false := by rw [beq_eq_false_iff_ne]; exact hk2
        have HWS6 : Hid (WS w3 wr (.slice ia (inOps L j).length ic) (inOps L (j + 1)) (.slice wa (wasA L j).length wc) (wasA L (j + 1))) := by show WS _ _ _ _ _ _; rw [HI.out, HW.out]; exact HWS.out
        clear ha HI HW hrg HWS1 HN1 HONE1
        go_wp2_with fail
        go_roundw
        case rel => exact ⟨j + 1, by omega, by go_num, HWS6.out⟩
        case measure => simp [intOf]; omega
    · have hjj : j = L.length := by omega
      subst hjj
      have dj : decide ((L.length : Int) < (L.length : Int)) = false := decide_eq_false (by omega)
      obtain ⟨hl1, hl2, hl3⟩ := wrong_all L
      have hlw : (wasA L L.length).length = (inOps L L.length).length := by rw [hl1]; unfold wasA; rw [List.length_map]
      have HOI : Hid (OpBsR wr (.slice ia (inOps L L.length).length ic) (inOps L L.length)) := ⟨(Row.of_owns HWS.out.iown).r, fun y hy => (HO3.out.below HWS.out.bel).each y (mem_inOps (Nat.le_refl _) hy)⟩
      have HBW := Lib.hid (HB13.out.trans (HWS.out.bel.mono HB13.out.size))
      have CA2 := Lib.hid (RAdmits_any _ _ wr (HT.out _ HBW.out) HOI.out (by omega))
      have CL1 := Lib.hid (fun (w' : World) (hb : Below wr.heap.size wr w') => RLives_any _ _ w' (HT.out _ (HBW.out.trans (hb.mono HBW.out.size))) (HOI.out.below hb) (by omega))
      have CL2 := Lib.hid (fun (w' : World) (hb : Below wr.heap.size wr w') => RLives_any _ _ w' (HT.out _ (HBW.out.trans (hb.mono HBW.out.size))) ((HO3.out.below HWS.out.bel).below hb) (by omega))
      rw [hl2] at CA2
      have HWR : Hid (Row wr 35 (.slice wa (inOps L L.length).length wc) (inOps L L.length).length ((wasA L L.length).flatMap admC4)) := by have h := Row.of_owns HWS.out.wown; rw [hlw] at h; exact h
      have HLW := Lib.hid hlw
      rw [hlw]
      generalize (livesTo (inOps L L.length) (inOps L L.length).length (inOps L L.length).length) = LI at *
      generalize livesTo L L.length L.length = LL at *
      have hne : ((LI.length : Int) != (LL.length : Int)) = false := by rw [bne_eq_false_iff_eq, hl3]
      generalize wasA L L.length = WA at *
      generalize (inOps L L.length).length = m at *
      have hm60 : m ≤ 60 := li
      clear hl1 hl2 hl3 hlw hjl li lw
      go_wp2_with (first | (go_at_call 24; refine CA2.out.mono ?_; rintro e w6 ⟨⟨bv, rfl, hb⟩, hb6⟩; obtain ⟨ba, bc, hbv⟩ := Row.form hb; subst hbv; have HBV := Lib.hid hb; have HB6 := Lib.hid hb6; clear hb hb6) | (go_at_call 27; (with_reducible refine (CL1.out _ HB6.out).mono ?_); rintro e w7 ⟨⟨lv1, rfl, hl1⟩, hb7⟩; obtain ⟨l1a, l1c, hlv1⟩ := Row.form hl1; subst hlv1; have HB7 := Lib.hid (HB6.out.trans (hb7.mono HB6.out.size)); have HBV7 := Lib.hid (Row.below HBV.out hb7); clear hl1 hb7) | (go_at_call 27; (with_reducible refine (CL2.out _ HB7.out).mono ?_); rintro e w8 ⟨⟨lv2, rfl, hl2⟩, hb8⟩; obtain ⟨l2a, l2c, hlv2⟩ := Row.form hl2; subst hlv2; have HB8 := Lib.hid (HB7.out.trans (hb8.mono HB7.out.size)); have HBV8 := Lib.hid (Row.below HBV7.out hb8); clear hl2 hb8))
      have HW8 := Lib.hid (Row.below HWR.out HB8.out)
      have HBB8 := Lib.hid (HBW.out.trans (HB8.out.mono HBW.out.size))
      clear hne HB6 HB7 HBV7 HBV HWR CA2 CL1 CL2 HOI HBW
      go_loopw [80] (fun s80 w' => ∃ i : Nat, i ≤ m ∧ s80 = .int .i64 (i : Int) ∧ Below w8.heap.size w8 w') (fun s80 _ => m - (intOf s80).toNat)
      case atStart => exact ⟨0, by omega, rfl, Below.refl _ _⟩
      case round =>
        obtain ⟨i, hi, rfl, hbel⟩ := hrel
        have HBEL := Lib.hid hbel
        by_cases him : i < m
        · have hlen : i < WA.length := by rw [HLW.out]; exact him
          have hz : WA[i]? = some WA[i] := List.getElem?_eq_getElem hlen
          obtain ⟨gb, ob, eb, x0, x1, x2, x3⟩ := adm_row (Row.below HBV8.out hbel) hz
          obtain ⟨gw, ow, ew, y0, y1, y2, y3⟩ := adm_row (Row.below HW8.out hbel) hz
          subst eb
          subst ew
          generalize WA[i] = z at *
          obtain ⟨ak, as', ae, ar⟩ := z
          dsimp only at x0 x1 x2 x3 y0 y1 y2 y3
          have hiI : (i : Int) < (m : Int) := Int.ofNat_lt.2 him
          clear hz hbel hlen
          go_wp2_with fail
          go_quiet (fail)
          have HB9 := Lib.hid (below_drewN HBEL.out nq)
          go_wp2_with fail
          go_roundw
          case rel => exact ⟨i + 1, by omega, by go_num, HB9.out⟩
          case measure => simp [intOf]; omega
        · have hii : i = m := by omega
          clear hbel
          subst hii
          go_wp2
          go_ret
          exact ⟨rfl, HBB8.out.trans (HBEL.out.mono HBB8.out.size)⟩
end Go.Proofs.By
