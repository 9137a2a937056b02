/- Several texts in one: The walks of the reference's room: Do, the kinds that add. -/
import Derived.Test.YthlamfoldfeocaaDoorP13
import Derived.Test.YthlamfoldfeocaaDoorP14
set_option linter.unusedSimpArgs false
namespace Go.Proofs.Rm
open Go.RowKit Go.Proofs.Heap Go.Proofs.Mem
open Go.Proofs.Lab (may key Tabs)
set_option maxRecDepth 100000 in
set_option maxHeartbeats 4000000 in
theorem rdo_subscribe (b : Nat) (T : Tab) (o : Op) (sa ba : Option Addr) (sc bl bc : Nat) (w : World) (hR : RefAt w b T) (hsm : T.Small) (hT : Tabs w) (hnm : o.name.length < 9223372036854775807) (hpn : ∀ x ∈ T.peers, x.name.length < 9223372036854775807)
    (hrow : RRow w (.slice sa o.ssrcs.length sc) o.ssrcs.length (u32s o.ssrcs)) (hw : T.wrong o = 0) (hok : ROk T o) (hk : o.kind = 6) :
    Calls Tryd.prog 13 #[.pointer (some ⟨b, 0, none⟩), .agg #[.int .i64 o.kind, .int .i64 o.peer, .int .i64 o.source, .int .i64 o.layer, .string (str o.name), .slice sa o.ssrcs.length sc, .slice ba bl bc]] w (RDoPost b T o w) := by
  have cw := rwrong_any b T o sa ba sc bl bc (w.alloc (.cells #[.int .i64 o.kind, .int .i64 o.peer, .int .i64 o.source, .int .i64 o.layer, .string (str o.name), .slice sa o.ssrcs.length sc, .slice ba bl bc] 40)) (hR.below (below_alloc _ _)) (Utf8Tabs_below hT (below_alloc _ _)) hnm hpn (hrow.below (below_alloc _ _))
  have hb := hR.lt
  have HROWS := Lib.hid hrow
  have HR := Lib.hid hR
  have HSM := Lib.hid hsm
  have HF : Hid (T.doo o = (T.subscribe o, 0)) := by show _ = _; unfold Tab.doo Tab.turns; rw [if_neg (by rw [hw]; simp)]; simp [hk]
  rw [hw] at cw
  have CW := Lib.hid cw
  have HOK := Lib.hid hok
  obtain ⟨kd, p, n, la, nm, ss⟩ := o
  dsimp only at *
  subst hk
  have hslP := hsm.subs
  unfold small at hslP
  obtain ⟨pv, sv, uv, hcell, htab⟩ := hR.vals
  have hrowP := htab.subs
  obtain ⟨a, cap, rfl, hncap, -, -, -⟩ := id hrowP
  have HROWP : Hid (∀ w', Below w.heap.size w w' → Row w' 48 (.slice a T.subs.length cap) T.subs.length (T.subs.flatMap tsubCells)) := fun w' h => hrowP.below h
  have HLP := Lib.hid (tsubs_len T.subs)
  have HC : Hid (∀ w', Below w.heap.size w w' → w'.cell? ⟨b, 2, none⟩ = some (.slice a T.subs.length cap) ∧ w'.frozen? ⟨b, 2, none⟩ = false) := fun w' h => ⟨(h.cell (p := ⟨b, 2, none⟩) hb).trans (cell_of hcell 2), (h.frozen (p := ⟨b, 2, none⟩) hb).trans (hR.unfrozen 2)⟩
  have hsa : 0 ≤ (T.addSub ⟨p, n, la, false⟩).srcAt n := hok.src (by simp)
  have HASK := Lib.hid (fun (w1 : World) (h : RefAt w1 b (T.addSub ⟨p, n, la, false⟩)) => ask_any b (T.addSub ⟨p, n, la, false⟩) ⟨p, n, la, false⟩ w1 h hsa (hok.layer rfl))
  have HSU : Hid (T.subscribe ⟨6, p, n, la, nm, ss⟩ = (⟨1, p, n, la, 0⟩ :: (if ((T.addSub ⟨p, n, la, false⟩).srcD n).muted then [⟨6, p, n, 0, 0⟩] else [(T.addSub ⟨p, n, la, false⟩).ask ⟨p, n, la, false⟩]), T.addSub ⟨p, n, la, false⟩)) := rfl
  obtain ⟨m, hm, hme, -, -⟩ := findAt_at hsa
  have hme : (T.addSub ⟨p, n, la, false⟩).srcAt n = m := hme
  have CS : Hid (∀ w1, RefAt w1 b (T.addSub ⟨p, n, la, false⟩) → Calls Tryd.prog 18 #[.pointer (some ⟨b, 0, none⟩), .int .i64 n] w1 fun e w' => e = .returned (.int .i64 m) ∧ Below w1.heap.size w1 w') := fun w1 h => by
    have h1 := SourceAt_any b _ n w1 h
    rw [hme] at h1
    exact h1
  have HMU : Hid (((T.addSub ⟨p, n, la, false⟩).srcD n).muted = (T.addSub ⟨p, n, la, false⟩).srcs[m].muted) := by
    show _ = _
    unfold Tab.srcD
    rw [hme, Int.toNat_natCast, List.getD_eq_getElem?_getD, List.getElem?_eq_getElem hm]; rfl
  clear hrowP hcell htab hsa hme
  clear hR hsm hT hnm hpn hrow cw hw hok
  have HBX := Lib.hid (heap_new w (.cells #[.int .i64 6, .int .i64 p, .int .i64 n, .int .i64 la, .string (str nm), .slice sa ss.length sc, .slice ba bl bc] 40))
  have HS0 := World.size_alloc w (.cells #[.int .i64 6, .int .i64 p, .int .i64 n, .int .i64 la, .string (str nm), .slice sa ss.length sc, .slice ba bl bc] 40)
  have HBL0 : Hid (Below w.heap.size w (w.alloc (.cells #[.int .i64 6, .int .i64 p, .int .i64 n, .int .i64 la, .string (str nm), .slice sa ss.length sc, .slice ba bl bc] 40))) := below_alloc _ _
  go_enter Tryd.func13, Tryd.ntmps13
  go_wp2_with fail
  (with_reducible refine CW.out.mono ?_)
  rintro e w1 ⟨rfl, hb1⟩
  have HB1 : Hid (Below w.heap.size w w1) := HBL0.out.trans (hb1.mono (by omega))
  have hsz1 : w.heap.size < w1.heap.size := by have := hb1.size; omega
  have hbx := fun (j : Nat) => (hb1.cell (p := ⟨w.heap.size, j, none⟩) (by dsimp only; omega)).trans (cell_of HBX.out j)
  have x0 : w1.cell? ⟨w.heap.size, 0, none⟩ = some (.int .i64 6) := hbx 0
  have x1 : w1.cell? ⟨w.heap.size, 1, none⟩ = some (.int .i64 p) := hbx 1
  have x2 : w1.cell? ⟨w.heap.size, 2, none⟩ = some (.int .i64 n) := hbx 2
  have x3 : w1.cell? ⟨w.heap.size, 3, none⟩ = some (.int .i64 la) := hbx 3
  have x4 : w1.cell? ⟨w.heap.size, 4, none⟩ = some (.string (str nm)) := hbx 4
  have x5 : w1.cell? ⟨w.heap.size, 5, none⟩ = some (.slice sa ss.length sc) := hbx 5
  have x6 : w1.cell? ⟨w.heap.size, 6, none⟩ = some (.slice ba bl bc) := hbx 6
  clear hb1 hbx
  have HVW := size_alloc w1 (.cells #[.int .i64 p, .int .i64 n, .int .i64 la, .bool false] 48)
  have HXB := heap_new w1 (.cells #[.int .i64 p, .int .i64 n, .int .i64 la, .bool false] 48)
  have HV1 := below_alloc w1 (.cells #[.int .i64 p, .int .i64 n, .int .i64 la, .bool false] 48)
  have z1 := (HV1.cell (p := ⟨w.heap.size, 1, none⟩) hsz1).trans x1
  have z2 := (HV1.cell (p := ⟨w.heap.size, 2, none⟩) hsz1).trans x2
  have z3 := (HV1.cell (p := ⟨w.heap.size, 3, none⟩) hsz1).trans x3
  go_upto_region 15 with fail
  clear x0 x1 x2 x3 x4 x5 x6
  generalize w1.alloc (.cells #[.int .i64 p, .int .i64 n, .int .i64 la, .bool false] 48) = V at *
  have HBV : Hid (Below w.heap.size w V) := HB1.out.trans (HV1.mono (by omega))
  have hVs : w.heap.size < V.heap.size := by omega
  have hV1s : w1.heap.size < V.heap.size := by omega
  have hb1n : ¬ b = w1.heap.size := by have := HB1.out.size; omega
  have hb1n' : ¬ w1.heap.size = b := by omega
  have KEEP : Hid (∀ w', Below V.heap.size V w' → w'.cell? ⟨b, 2, none⟩ = some (.slice a T.subs.length cap) ∧ w'.frozen? ⟨b, 2, none⟩ = false) := fun w' h => HC.out _ (HBV.out.trans (h.mono (by omega)))
  have HRW : Hid (∀ w', Below V.heap.size V w' → Row w' 48 (.slice a T.subs.length cap) T.subs.length (T.subs.flatMap tsubCells)) := fun w' h => HROWP.out _ (HBV.out.trans (h.mono (by omega)))
  have HRF : Hid (∀ w', Below V.heap.size V w' → RefAt w' b T ∧ Fr w.heap.size (· = b) w w') := fun w' h => ⟨HR.out.below (HBV.out.trans (h.mono (by omega))), Fr.of_below _ (HBV.out.trans (h.mono (by omega)))⟩
  have KEEPF : Hid (∀ w', Fr V.heap.size (· = b) V w' → w'.cell? ⟨w1.heap.size, 0, none⟩ = some (.int .i64 p) ∧ w'.cell? ⟨w1.heap.size, 1, none⟩ = some (.int .i64 n) ∧ w'.cell? ⟨w1.heap.size, 2, none⟩ = some (.int .i64 la) ∧ w'.cell? ⟨w1.heap.size, 3, none⟩ = some (.bool false) ∧ Fr V.heap.size (· = b) V w') := fun w' h => ⟨(h.cell (p := ⟨w1.heap.size, 0, none⟩) hV1s (by dsimp only; omega)).trans (cell_of HXB 0), (h.cell (p := ⟨w1.heap.size, 1, none⟩) hV1s (by dsimp only; omega)).trans (cell_of HXB 1), (h.cell (p := ⟨w1.heap.size, 2, none⟩) hV1s (by dsimp only; omega)).trans (cell_of HXB 2), (h.cell (p := ⟨w1.heap.size, 3, none⟩) hV1s (by dsimp only; omega)).trans (cell_of HXB 3), h⟩
  have KEEPB : Hid (∀ w', Fr V.heap.size (· = b) V w' → w'.cell? ⟨w.heap.size, 1, none⟩ = some (.int .i64 p) ∧ w'.cell? ⟨w.heap.size, 2, none⟩ = some (.int .i64 n) ∧ w'.cell? ⟨w.heap.size, 3, none⟩ = some (.int .i64 la)) := fun w' h => ⟨(h.cell (p := ⟨w.heap.size, 1, none⟩) hVs (by dsimp only; omega)).trans z1, (h.cell (p := ⟨w.heap.size, 2, none⟩) hVs (by dsimp only; omega)).trans z2, (h.cell (p := ⟨w.heap.size, 3, none⟩) hVs (by dsimp only; omega)).trans z3⟩
  have hb0 : Below V.heap.size V V := Below.refl _ _
  obtain ⟨k0, k1⟩ := KEEP.out _ hb0
  have hbw1 : b < V.heap.size := by omega
  have ne1 := World.new_ne V ⟨b, 2, none⟩ k0
  clear HROWP HC HV1 z1 z2 z3 HXB HVW
  go_cut [] (fun wx => RefAt wx b (T.addSub ⟨p, n, la, false⟩) ∧ Fr w.heap.size (· = b) w wx ∧ Fr V.heap.size (· = b) V wx)
  case first =>
    refine wp_region_noPanic ?_
    refine wp_region_held_drew (S := (fun w' => w'.cell? ⟨w1.heap.size, 0, none⟩ = some (.int .i64 p) ∧ w'.cell? ⟨w1.heap.size, 1, none⟩ = some (.int .i64 n) ∧ w'.cell? ⟨w1.heap.size, 2, none⟩ = some (.int .i64 la) ∧ w'.cell? ⟨w1.heap.size, 3, none⟩ = some (.bool false) ∧ Fr V.heap.size (· = b) V w')) (by kernel_rfl) ?_ (fun hHeld => ?_)
    · (try dsimp only)
      (first | exact KEEPF.out _ (Fr.of_below _ (by first | with_reducible assumption | exact Below.drew (by with_reducible assumption) | exact Heap.Below.alloc' (by with_reducible assumption) (Nat.le_refl _) _ | exact Heap.Below.alloc' (Below.drew (by with_reducible assumption)) (Nat.le_refl _) _ | exact Below.drew (Heap.Below.alloc' (by with_reducible assumption) (Nat.le_refl _) _))) | exact KEEPF.out _ (Fr.setAt (Fr.of_below _ (by first | with_reducible assumption | exact Below.drew (by with_reducible assumption) | exact Heap.Below.alloc' (by with_reducible assumption) (Nat.le_refl _) _ | exact Heap.Below.alloc' (Below.drew (by with_reducible assumption)) (Nat.le_refl _) _ | exact Below.drew (Heap.Below.alloc' (by with_reducible assumption) (Nat.le_refl _) _))) _ _) | go_keep)
    refine wpAnyH_take (i := 0) (v := ?_) rfl (by kernel_rfl) (by kernel_rfl) (by kernel_rfl) (fun _ _ _ h => h) (Or.inl ⟨by rfl, ?_⟩) (by assumption) ?_
    rotate_left
    · intro w hSw
      (try dsimp only at hSw)
      go_simp
      try with_reducible rfl
    try simp only [Act.put, List.setIfInBounds_toArray, List.set_cons_zero, List.set_cons_succ]
    refine wpAnyH_take (i := 1) (v := ?_) rfl (by kernel_rfl) (by kernel_rfl) (by kernel_rfl) (fun _ _ _ h => h) (Or.inl ⟨by rfl, ?_⟩) (by assumption) ?_
    rotate_left
    · intro w hSw
      (try dsimp only at hSw)
      go_simp
      try with_reducible rfl
    try simp only [Act.put, List.setIfInBounds_toArray, List.set_cons_zero, List.set_cons_succ]
    refine wpAnyH_take (i := 2) (v := ?_) rfl (by kernel_rfl) (by kernel_rfl) (by kernel_rfl) (fun _ _ _ h => h) (Or.inl ⟨by rfl, ?_⟩) (by assumption) ?_
    rotate_left
    · intro w hSw
      (try dsimp only at hSw)
      go_simp
      try with_reducible rfl
    try simp only [Act.put, List.setIfInBounds_toArray, List.set_cons_zero, List.set_cons_succ]
    refine wpAnyH_take (i := 3) (v := ?_) rfl (by kernel_rfl) (by kernel_rfl) (by kernel_rfl) (fun _ _ _ h => h) (Or.inl ⟨by rfl, ?_⟩) (by assumption) ?_
    rotate_left
    · intro w hSw
      (try dsimp only at hSw)
      go_simp
      try with_reducible rfl
    try simp only [Act.put, List.setIfInBounds_toArray, List.set_cons_zero, List.set_cons_succ]
    refine wpAnyH_take (i := 6) (v := ?_) rfl (by kernel_rfl) (by kernel_rfl) (by kernel_rfl) (fun _ _ _ h => h) (Or.inl ⟨by rfl, ?_⟩) (by assumption) ?_
    rotate_left
    · intro w hSw
      (try dsimp only at hSw)
      go_simp
      try with_reducible rfl
    try simp only [Act.put, List.setIfInBounds_toArray, List.set_cons_zero, List.set_cons_succ]
    refine wpAnyH_ready (rs := [4, 7]) (by kernel_rfl) (by simp) ?_
    refine AllReadyH.cons (i := 4) rfl (fun K hK => ?_) ?_
    · go_simp
      refine hK.out _ _ ?_ (fun hHeld => ?_)
      · (try dsimp only)
        (first | exact KEEPF.out _ (Fr.of_below _ (by first | with_reducible assumption | exact Below.drew (by with_reducible assumption) | exact Heap.Below.alloc' (by with_reducible assumption) (Nat.le_refl _) _ | exact Heap.Below.alloc' (Below.drew (by with_reducible assumption)) (Nat.le_refl _) _ | exact Below.drew (Heap.Below.alloc' (by with_reducible assumption) (Nat.le_refl _) _))) | exact KEEPF.out _ (Fr.setAt (Fr.of_below _ (by first | with_reducible assumption | exact Below.drew (by with_reducible assumption) | exact Heap.Below.alloc' (by with_reducible assumption) (Nat.le_refl _) _ | exact Heap.Below.alloc' (Below.drew (by with_reducible assumption)) (Nat.le_refl _) _ | exact Below.drew (Heap.Below.alloc' (by with_reducible assumption) (Nat.le_refl _) _))) _ _) | go_keep)
      clear hK K
      try simp only [Act.put, List.setIfInBounds_toArray, List.set_cons_zero, List.set_cons_succ]
      refine wpAnyH_ready (rs := [5, 7]) (by kernel_rfl) (by simp) ?_
      refine AllReadyH.cons (i := 5) rfl (fun K hK => ?_) ?_
      · (first | (go_split_ands; refine step_app (by rfl) (.const (.slice none 0 0)) (.tmp 79) 30 (by rfl) V.heap.size elemSub (.slice none 0 0) 0 [] (by rfl) (World.ownsRow_nil _ _ _ _) (.slice a T.subs.length cap) T.subs.length (T.subs.flatMap tsubCells) (by rfl) ?_ HLP.out (tsubs_one _) (by omega) (by omega) ?_ ?_; (exact HRW.out _ (by first | with_reducible assumption | exact Below.drew (by with_reducible assumption) | exact Heap.Below.alloc' (by with_reducible assumption) (Nat.le_refl _) _ | exact Heap.Below.alloc' (Below.drew (by with_reducible assumption)) (Nat.le_refl _) _ | exact Below.drew (Heap.Below.alloc' (by with_reducible assumption) (Nat.le_refl _) _))); (exact Below.size (by first | with_reducible assumption | exact Below.drew (by with_reducible assumption) | exact Heap.Below.alloc' (by with_reducible assumption) (Nat.le_refl _) _ | exact Heap.Below.alloc' (Below.drew (by with_reducible assumption)) (Nat.le_refl _) _ | exact Below.drew (Heap.Below.alloc' (by with_reducible assumption) (Nat.le_refl _) _))); intro v1 w2 HQ1 HG1; have hba := grown_none HG1.out; have hbl2 : Below V.heap.size V w2 := Heap.Below.call (by first | with_reducible assumption | exact Below.drew (by with_reducible assumption) | exact Heap.Below.alloc' (by with_reducible assumption) (Nat.le_refl _) _ | exact Heap.Below.alloc' (Below.drew (by with_reducible assumption)) (Nat.le_refl _) _ | exact Below.drew (Heap.Below.alloc' (by with_reducible assumption) (Nat.le_refl _) _)) (Nat.le_refl _) hba; have r2 : Below w2.heap.size w2 w2 := Below.refl _ _; obtain ⟨k2, k3⟩ := KEEP.out _ hbl2) | (go_split_ands; refine step_app (by rfl) (.tmp 80) (.tmp 82) 30 (by rfl) V.heap.size elemSub v1 (0 + T.subs.length) ([] ++ T.subs.flatMap tsubCells) (by rfl) ?_ _ 1 [.int .i64 p, .int .i64 n, .int .i64 la, .bool false] (by rfl) ?_ (by rfl) (tsub_one ⟨p, n, la, false⟩) (by omega) (by omega) ?_ ?_; (exact owns_below HQ1.out (by first | with_reducible assumption | exact Below.drew (by with_reducible assumption) | exact Heap.Below.alloc' (by with_reducible assumption) (Nat.le_refl _) _ | exact Heap.Below.alloc' (Below.drew (by with_reducible assumption)) (Nat.le_refl _) _ | exact Below.drew (Heap.Below.alloc' (by with_reducible assumption) (Nat.le_refl _) _))); (repeat (first | ((with_reducible refine row_new3 _ _ 1 [.int .i64 p, .int .i64 n, .int .i64 la, .bool false] (by decide) _ ?_); rfl) | with_reducible refine Row.drew ?_ | with_reducible refine Row.below ?_ hba)); (exact Below.size (by first | with_reducible assumption | exact Below.drew (by with_reducible assumption) | exact Heap.Below.alloc' (by with_reducible assumption) (Nat.le_refl _) _ | exact Heap.Below.alloc' (Below.drew (by with_reducible assumption)) (Nat.le_refl _) _ | exact Below.drew (Heap.Below.alloc' (by with_reducible assumption) (Nat.le_refl _) _))); intro v2 w3 HQ2 HG2; have hbl3 : Below V.heap.size V w3 := Below.grown (by first | with_reducible assumption | exact Below.drew (by with_reducible assumption) | exact Heap.Below.alloc' (by with_reducible assumption) (Nat.le_refl _) _ | exact Heap.Below.alloc' (Below.drew (by with_reducible assumption)) (Nat.le_refl _) _ | exact Below.drew (Heap.Below.alloc' (by with_reducible assumption) (Nat.le_refl _) _)) HG2.out (Below.size (by first | with_reducible assumption | exact Below.drew (by with_reducible assumption) | exact Heap.Below.alloc' (by with_reducible assumption) (Nat.le_refl _) _ | exact Heap.Below.alloc' (Below.drew (by with_reducible assumption)) (Nat.le_refl _) _ | exact Below.drew (Heap.Below.alloc' (by with_reducible assumption) (Nat.le_refl _) _))) (own_le HQ1.out); obtain ⟨k6, k7⟩ := KEEP.out _ hbl3; obtain ⟨va, vc, hv⟩ := own_form HQ2.out; subst hv))
        refine hK.out _ _ ?_ (fun hHeld => ?_)
        · (try dsimp only)
          (first | exact KEEPF.out _ (Fr.of_below _ (by first | with_reducible assumption | exact Below.drew (by with_reducible assumption) | exact Heap.Below.alloc' (by with_reducible assumption) (Nat.le_refl _) _ | exact Heap.Below.alloc' (Below.drew (by with_reducible assumption)) (Nat.le_refl _) _ | exact Below.drew (Heap.Below.alloc' (by with_reducible assumption) (Nat.le_refl _) _))) | exact KEEPF.out _ (Fr.setAt (Fr.of_below _ (by first | with_reducible assumption | exact Below.drew (by with_reducible assumption) | exact Heap.Below.alloc' (by with_reducible assumption) (Nat.le_refl _) _ | exact Heap.Below.alloc' (Below.drew (by with_reducible assumption)) (Nat.le_refl _) _ | exact Below.drew (Heap.Below.alloc' (by with_reducible assumption) (Nat.le_refl _) _))) _ _) | go_keep)
        clear hK K
        try simp only [Act.put, List.setIfInBounds_toArray, List.set_cons_zero, List.set_cons_succ]
        refine wpAnyH_ready (rs := [7]) (by kernel_rfl) (by simp) ?_
        refine AllReadyH.cons (i := 7) rfl (fun K hK => ?_) ?_
        · go_simp
          refine hK.out _ _ ?_ (fun hHeld => ?_)
          · (try dsimp only)
            (first | exact KEEPF.out _ (Fr.of_below _ (by first | with_reducible assumption | exact Below.drew (by with_reducible assumption) | exact Heap.Below.alloc' (by with_reducible assumption) (Nat.le_refl _) _ | exact Heap.Below.alloc' (Below.drew (by with_reducible assumption)) (Nat.le_refl _) _ | exact Below.drew (Heap.Below.alloc' (by with_reducible assumption) (Nat.le_refl _) _))) | exact KEEPF.out _ (Fr.setAt (Fr.of_below _ (by first | with_reducible assumption | exact Below.drew (by with_reducible assumption) | exact Heap.Below.alloc' (by with_reducible assumption) (Nat.le_refl _) _ | exact Heap.Below.alloc' (Below.drew (by with_reducible assumption)) (Nat.le_refl _) _ | exact Below.drew (Heap.Below.alloc' (by with_reducible assumption) (Nat.le_refl _) _))) _ _) | go_keep)
          clear hK K
          try simp only [Act.put, List.setIfInBounds_toArray, List.set_cons_zero, List.set_cons_succ]
          refine wpAnyH_ready (rs := [8]) (by kernel_rfl) (by simp) ?_
          refine AllReadyH.cons (i := 8) rfl (fun K hK => ?_) ?_
          · (first | (go_split_ands; refine step_app (by rfl) (.const (.slice none 0 0)) (.tmp 79) 30 (by rfl) V.heap.size elemSub (.slice none 0 0) 0 [] (by rfl) (World.ownsRow_nil _ _ _ _) (.slice a T.subs.length cap) T.subs.length (T.subs.flatMap tsubCells) (by rfl) ?_ HLP.out (tsubs_one _) (by omega) (by omega) ?_ ?_; (exact HRW.out _ (by first | with_reducible assumption | exact Below.drew (by with_reducible assumption) | exact Heap.Below.alloc' (by with_reducible assumption) (Nat.le_refl _) _ | exact Heap.Below.alloc' (Below.drew (by with_reducible assumption)) (Nat.le_refl _) _ | exact Below.drew (Heap.Below.alloc' (by with_reducible assumption) (Nat.le_refl _) _))); (exact Below.size (by first | with_reducible assumption | exact Below.drew (by with_reducible assumption) | exact Heap.Below.alloc' (by with_reducible assumption) (Nat.le_refl _) _ | exact Heap.Below.alloc' (Below.drew (by with_reducible assumption)) (Nat.le_refl _) _ | exact Below.drew (Heap.Below.alloc' (by with_reducible assumption) (Nat.le_refl _) _))); intro v1 w2 HQ1 HG1; have hba := grown_none HG1.out; have hbl2 : Below V.heap.size V w2 := Heap.Below.call (by first | with_reducible assumption | exact Below.drew (by with_reducible assumption) | exact Heap.Below.alloc' (by with_reducible assumption) (Nat.le_refl _) _ | exact Heap.Below.alloc' (Below.drew (by with_reducible assumption)) (Nat.le_refl _) _ | exact Below.drew (Heap.Below.alloc' (by with_reducible assumption) (Nat.le_refl _) _)) (Nat.le_refl _) hba; have r2 : Below w2.heap.size w2 w2 := Below.refl _ _; obtain ⟨k2, k3⟩ := KEEP.out _ hbl2) | (go_split_ands; refine step_app (by rfl) (.tmp 80) (.tmp 82) 30 (by rfl) V.heap.size elemSub v1 (0 + T.subs.length) ([] ++ T.subs.flatMap tsubCells) (by rfl) ?_ _ 1 [.int .i64 p, .int .i64 n, .int .i64 la, .bool false] (by rfl) ?_ (by rfl) (tsub_one ⟨p, n, la, false⟩) (by omega) (by omega) ?_ ?_; (exact owns_below HQ1.out (by first | with_reducible assumption | exact Below.drew (by with_reducible assumption) | exact Heap.Below.alloc' (by with_reducible assumption) (Nat.le_refl _) _ | exact Heap.Below.alloc' (Below.drew (by with_reducible assumption)) (Nat.le_refl _) _ | exact Below.drew (Heap.Below.alloc' (by with_reducible assumption) (Nat.le_refl _) _))); (repeat (first | ((with_reducible refine row_new3 _ _ 1 [.int .i64 p, .int .i64 n, .int .i64 la, .bool false] (by decide) _ ?_); rfl) | with_reducible refine Row.drew ?_ | with_reducible refine Row.below ?_ hba)); (exact Below.size (by first | with_reducible assumption | exact Below.drew (by with_reducible assumption) | exact Heap.Below.alloc' (by with_reducible assumption) (Nat.le_refl _) _ | exact Heap.Below.alloc' (Below.drew (by with_reducible assumption)) (Nat.le_refl _) _ | exact Below.drew (Heap.Below.alloc' (by with_reducible assumption) (Nat.le_refl _) _))); intro v2 w3 HQ2 HG2; have hbl3 : Below V.heap.size V w3 := Below.grown (by first | with_reducible assumption | exact Below.drew (by with_reducible assumption) | exact Heap.Below.alloc' (by with_reducible assumption) (Nat.le_refl _) _ | exact Heap.Below.alloc' (Below.drew (by with_reducible assumption)) (Nat.le_refl _) _ | exact Below.drew (Heap.Below.alloc' (by with_reducible assumption) (Nat.le_refl _) _)) HG2.out (Below.size (by first | with_reducible assumption | exact Below.drew (by with_reducible assumption) | exact Heap.Below.alloc' (by with_reducible assumption) (Nat.le_refl _) _ | exact Heap.Below.alloc' (Below.drew (by with_reducible assumption)) (Nat.le_refl _) _ | exact Below.drew (Heap.Below.alloc' (by with_reducible assumption) (Nat.le_refl _) _))) (own_le HQ1.out); obtain ⟨k6, k7⟩ := KEEP.out _ hbl3; obtain ⟨va, vc, hv⟩ := own_form HQ2.out; subst hv))
            refine hK.out _ _ ?_ (fun hHeld => ?_)
            · (try dsimp only)
              (first | exact KEEPF.out _ (Fr.of_below _ (by first | with_reducible assumption | exact Below.drew (by with_reducible assumption) | exact Heap.Below.alloc' (by with_reducible assumption) (Nat.le_refl _) _ | exact Heap.Below.alloc' (Below.drew (by with_reducible assumption)) (Nat.le_refl _) _ | exact Below.drew (Heap.Below.alloc' (by with_reducible assumption) (Nat.le_refl _) _))) | exact KEEPF.out _ (Fr.setAt (Fr.of_below _ (by first | with_reducible assumption | exact Below.drew (by with_reducible assumption) | exact Heap.Below.alloc' (by with_reducible assumption) (Nat.le_refl _) _ | exact Heap.Below.alloc' (Below.drew (by with_reducible assumption)) (Nat.le_refl _) _ | exact Below.drew (Heap.Below.alloc' (by with_reducible assumption) (Nat.le_refl _) _))) _ _) | go_keep)
            clear hK K
            try simp only [Act.put, List.setIfInBounds_toArray, List.set_cons_zero, List.set_cons_succ]
            refine wpAnyH_take (i := 9) (v := ?_) rfl (by kernel_rfl) (by kernel_rfl) (by kernel_rfl) (fun _ _ _ h => h) (Or.inl ⟨by rfl, ?_⟩) (by assumption) ?_
            rotate_left
            · intro w hSw
              (try dsimp only at hSw)
              go_simp
              try with_reducible rfl
            try simp only [Act.put, List.setIfInBounds_toArray, List.set_cons_zero, List.set_cons_succ]
            refine wpAnyH_take (i := 10) (v := ?_) rfl (by kernel_rfl) (by kernel_rfl) (by kernel_rfl) (fun _ _ _ h => h) (Or.inl ⟨by rfl, ?_⟩) (by assumption) ?_
            rotate_left
            · intro w hSw
              (try dsimp only at hSw)
              go_simp
              try with_reducible rfl
            try simp only [Act.put, List.setIfInBounds_toArray, List.set_cons_zero, List.set_cons_succ]
            refine wpAnyH_ready (rs := [11]) (by kernel_rfl) (by simp) ?_
            refine AllReadyH.cons (i := 11) rfl (fun K hK => ?_) ?_
            · go_simp
              refine hK.out _ _ ?_ (fun hHeld => ?_)
              · (try dsimp only)
                (first | exact KEEPF.out _ (Fr.of_below _ (by first | with_reducible assumption | exact Below.drew (by with_reducible assumption) | exact Heap.Below.alloc' (by with_reducible assumption) (Nat.le_refl _) _ | exact Heap.Below.alloc' (Below.drew (by with_reducible assumption)) (Nat.le_refl _) _ | exact Below.drew (Heap.Below.alloc' (by with_reducible assumption) (Nat.le_refl _) _))) | exact KEEPF.out _ (Fr.setAt (Fr.of_below _ (by first | with_reducible assumption | exact Below.drew (by with_reducible assumption) | exact Heap.Below.alloc' (by with_reducible assumption) (Nat.le_refl _) _ | exact Heap.Below.alloc' (Below.drew (by with_reducible assumption)) (Nat.le_refl _) _ | exact Below.drew (Heap.Below.alloc' (by with_reducible assumption) (Nat.le_refl _) _))) _ _) | go_keep)
              clear hK K
              try simp only [Act.put, List.setIfInBounds_toArray, List.set_cons_zero, List.set_cons_succ]
              refine wpAnyH_done (by kernel_rfl) ?_ _
              refine NoPanic.normal ?_
              go_wp2_with fail
              go_meet
              obtain ⟨hr3, hf3⟩ := HRF.out _ hbl3
              have hrow := Row.of_owns HQ2.out
              rw [List.nil_append, Nat.zero_add] at hrow
              have hr4 := hr3.setSubs (l := T.subs ++ [⟨p, n, la, false⟩]) (by rw [show (T.subs ++ [(⟨p, n, la, false⟩ : TSub)]).flatMap tsubCells = T.subs.flatMap tsubCells ++ [.int .i64 p, .int .i64 n, .int .i64 la, .bool false] by rw [List.flatMap_append]; rfl, show (T.subs ++ [(⟨p, n, la, false⟩ : TSub)]).length = T.subs.length + 1 by simp]; exact hrow)
              exact ⟨hr4, hf3.setAt _ _, (Fr.of_below _ hbl3).setAt _ _⟩
            exact AllReadyH.nil
          exact AllReadyH.nil
        exact AllReadyH.nil
      refine AllReadyH.cons (i := 7) rfl (fun K hK => ?_) ?_
      · go_simp
        refine hK.out _ _ ?_ (fun hHeld => ?_)
        · (try dsimp only)
          (first | exact KEEPF.out _ (Fr.of_below _ (by first | with_reducible assumption | exact Below.drew (by with_reducible assumption) | exact Heap.Below.alloc' (by with_reducible assumption) (Nat.le_refl _) _ | exact Heap.Below.alloc' (Below.drew (by with_reducible assumption)) (Nat.le_refl _) _ | exact Below.drew (Heap.Below.alloc' (by with_reducible assumption) (Nat.le_refl _) _))) | exact KEEPF.out _ (Fr.setAt (Fr.of_below _ (by first | with_reducible assumption | exact Below.drew (by with_reducible assumption) | exact Heap.Below.alloc' (by with_reducible assumption) (Nat.le_refl _) _ | exact Heap.Below.alloc' (Below.drew (by with_reducible assumption)) (Nat.le_refl _) _ | exact Below.drew (Heap.Below.alloc' (by with_reducible assumption) (Nat.le_refl _) _))) _ _) | go_keep)
        clear hK K
        try simp only [Act.put, List.setIfInBounds_toArray, List.set_cons_zero, List.set_cons_succ]
        refine wpAnyH_ready (rs := [5]) (by kernel_rfl) (by simp) ?_
        refine AllReadyH.cons (i := 5) rfl (fun K hK => ?_) ?_
        · (first | (go_split_ands; refine step_app (by rfl) (.const (.slice none 0 0)) (.tmp 79) 30 (by rfl) V.heap.size elemSub (.slice none 0 0) 0 [] (by rfl) (World.ownsRow_nil _ _ _ _) (.slice a T.subs.length cap) T.subs.length (T.subs.flatMap tsubCells) (by rfl) ?_ HLP.out (tsubs_one _) (by omega) (by omega) ?_ ?_; (exact HRW.out _ (by first | with_reducible assumption | exact Below.drew (by with_reducible assumption) | exact Heap.Below.alloc' (by with_reducible assumption) (Nat.le_refl _) _ | exact Heap.Below.alloc' (Below.drew (by with_reducible assumption)) (Nat.le_refl _) _ | exact Below.drew (Heap.Below.alloc' (by with_reducible assumption) (Nat.le_refl _) _))); (exact Below.size (by first | with_reducible assumption | exact Below.drew (by with_reducible assumption) | exact Heap.Below.alloc' (by with_reducible assumption) (Nat.le_refl _) _ | exact Heap.Below.alloc' (Below.drew (by with_reducible assumption)) (Nat.le_refl _) _ | exact Below.drew (Heap.Below.alloc' (by with_reducible assumption) (Nat.le_refl _) _))); intro v1 w2 HQ1 HG1; have hba := grown_none HG1.out; have hbl2 : Below V.heap.size V w2 := Heap.Below.call (by first | with_reducible assumption | exact Below.drew (by with_reducible assumption) | exact Heap.Below.alloc' (by with_reducible assumption) (Nat.le_refl _) _ | exact Heap.Below.alloc' (Below.drew (by with_reducible assumption)) (Nat.le_refl _) _ | exact Below.drew (Heap.Below.alloc' (by with_reducible assumption) (Nat.le_refl _) _)) (Nat.le_refl _) hba; have r2 : Below w2.heap.size w2 w2 := Below.refl _ _; obtain ⟨k2, k3⟩ := KEEP.out _ hbl2) | (go_split_ands; refine step_app (by rfl) (.tmp 80) (.tmp 82) 30 (by rfl) V.heap.size elemSub v1 (0 + T.subs.length) ([] ++ T.subs.flatMap tsubCells) (by rfl) ?_ _ 1 [.int .i64 p, .int .i64 n, .int .i64 la, .bool false] (by rfl) ?_ (by rfl) (tsub_one ⟨p, n, la, false⟩) (by omega) (by omega) ?_ ?_; (exact owns_below HQ1.out (by first | with_reducible assumption | exact Below.drew (by with_reducible assumption) | exact Heap.Below.alloc' (by with_reducible assumption) (Nat.le_refl _) _ | exact Heap.Below.alloc' (Below.drew (by with_reducible assumption)) (Nat.le_refl _) _ | exact Below.drew (Heap.Below.alloc' (by with_reducible assumption) (Nat.le_refl _) _))); (repeat (first | ((with_reducible refine row_new3 _ _ 1 [.int .i64 p, .int .i64 n, .int .i64 la, .bool false] (by decide) _ ?_); rfl) | with_reducible refine Row.drew ?_ | with_reducible refine Row.below ?_ hba)); (exact Below.size (by first | with_reducible assumption | exact Below.drew (by with_reducible assumption) | exact Heap.Below.alloc' (by with_reducible assumption) (Nat.le_refl _) _ | exact Heap.Below.alloc' (Below.drew (by with_reducible assumption)) (Nat.le_refl _) _ | exact Below.drew (Heap.Below.alloc' (by with_reducible assumption) (Nat.le_refl _) _))); intro v2 w3 HQ2 HG2; have hbl3 : Below V.heap.size V w3 := Below.grown (by first | with_reducible assumption | exact Below.drew (by with_reducible assumption) | exact Heap.Below.alloc' (by with_reducible assumption) (Nat.le_refl _) _ | exact Heap.Below.alloc' (Below.drew (by with_reducible assumption)) (Nat.le_refl _) _ | exact Below.drew (Heap.Below.alloc' (by with_reducible assumption) (Nat.le_refl _) _)) HG2.out (Below.size (by first | with_reducible assumption | exact Below.drew (by with_reducible assumption) | exact Heap.Below.alloc' (by with_reducible assumption) (Nat.le_refl _) _ | exact Heap.Below.alloc' (Below.drew (by with_reducible assumption)) (Nat.le_refl _) _ | exact Below.drew (Heap.Below.alloc' (by with_reducible assumption) (Nat.le_refl _) _))) (own_le HQ1.out); obtain ⟨k6, k7⟩ := KEEP.out _ hbl3; obtain ⟨va, vc, hv⟩ := own_form HQ2.out; subst hv))
          refine hK.out _ _ ?_ (fun hHeld => ?_)
          · (try dsimp only)
            (first | exact KEEPF.out _ (Fr.of_below _ (by first | with_reducible assumption | exact Below.drew (by with_reducible assumption) | exact Heap.Below.alloc' (by with_reducible assumption) (Nat.le_refl _) _ | exact Heap.Below.alloc' (Below.drew (by with_reducible assumption)) (Nat.le_refl _) _ | exact Below.drew (Heap.Below.alloc' (by with_reducible assumption) (Nat.le_refl _) _))) | exact KEEPF.out _ (Fr.setAt (Fr.of_below _ (by first | with_reducible assumption | exact Below.drew (by with_reducible assumption) | exact Heap.Below.alloc' (by with_reducible assumption) (Nat.le_refl _) _ | exact Heap.Below.alloc' (Below.drew (by with_reducible assumption)) (Nat.le_refl _) _ | exact Below.drew (Heap.Below.alloc' (by with_reducible assumption) (Nat.le_refl _) _))) _ _) | go_keep)
          clear hK K
          try simp only [Act.put, List.setIfInBounds_toArray, List.set_cons_zero, List.set_cons_succ]
          refine wpAnyH_ready (rs := [8]) (by kernel_rfl) (by simp) ?_
          refine AllReadyH.cons (i := 8) rfl (fun K hK => ?_) ?_
          · (first | (go_split_ands; refine step_app (by rfl) (.const (.slice none 0 0)) (.tmp 79) 30 (by rfl) V.heap.size elemSub (.slice none 0 0) 0 [] (by rfl) (World.ownsRow_nil _ _ _ _) (.slice a T.subs.length cap) T.subs.length (T.subs.flatMap tsubCells) (by rfl) ?_ HLP.out (tsubs_one _) (by omega) (by omega) ?_ ?_; (exact HRW.out _ (by first | with_reducible assumption | exact Below.drew (by with_reducible assumption) | exact Heap.Below.alloc' (by with_reducible assumption) (Nat.le_refl _) _ | exact Heap.Below.alloc' (Below.drew (by with_reducible assumption)) (Nat.le_refl _) _ | exact Below.drew (Heap.Below.alloc' (by with_reducible assumption) (Nat.le_refl _) _))); (exact Below.size (by first | with_reducible assumption | exact Below.drew (by with_reducible assumption) | exact Heap.Below.alloc' (by with_reducible assumption) (Nat.le_refl _) _ | exact Heap.Below.alloc' (Below.drew (by with_reducible assumption)) (Nat.le_refl _) _ | exact Below.drew (Heap.Below.alloc' (by with_reducible assumption) (Nat.le_refl _) _))); intro v1 w2 HQ1 HG1; have hba := grown_none HG1.out; have hbl2 : Below V.heap.size V w2 := Heap.Below.call (by first | with_reducible assumption | exact Below.drew (by with_reducible assumption) | exact Heap.Below.alloc' (by with_reducible assumption) (Nat.le_refl _) _ | exact Heap.Below.alloc' (Below.drew (by with_reducible assumption)) (Nat.le_refl _) _ | exact Below.drew (Heap.Below.alloc' (by with_reducible assumption) (Nat.le_refl _) _)) (Nat.le_refl _) hba; have r2 : Below w2.heap.size w2 w2 := Below.refl _ _; obtain ⟨k2, k3⟩ := KEEP.out _ hbl2) | (go_split_ands; refine step_app (by rfl) (.tmp 80) (.tmp 82) 30 (by rfl) V.heap.size elemSub v1 (0 + T.subs.length) ([] ++ T.subs.flatMap tsubCells) (by rfl) ?_ _ 1 [.int .i64 p, .int .i64 n, .int .i64 la, .bool false] (by rfl) ?_ (by rfl) (tsub_one ⟨p, n, la, false⟩) (by omega) (by omega) ?_ ?_; (exact owns_below HQ1.out (by first | with_reducible assumption | exact Below.drew (by with_reducible assumption) | exact Heap.Below.alloc' (by with_reducible assumption) (Nat.le_refl _) _ | exact Heap.Below.alloc' (Below.drew (by with_reducible assumption)) (Nat.le_refl _) _ | exact Below.drew (Heap.Below.alloc' (by with_reducible assumption) (Nat.le_refl _) _))); (repeat (first | ((with_reducible refine row_new3 _ _ 1 [.int .i64 p, .int .i64 n, .int .i64 la, .bool false] (by decide) _ ?_); rfl) | with_reducible refine Row.drew ?_ | with_reducible refine Row.below ?_ hba)); (exact Below.size (by first | with_reducible assumption | exact Below.drew (by with_reducible assumption) | exact Heap.Below.alloc' (by with_reducible assumption) (Nat.le_refl _) _ | exact Heap.Below.alloc' (Below.drew (by with_reducible assumption)) (Nat.le_refl _) _ | exact Below.drew (Heap.Below.alloc' (by with_reducible assumption) (Nat.le_refl _) _))); intro v2 w3 HQ2 HG2; have hbl3 : Below V.heap.size V w3 := Below.grown (by first | with_reducible assumption | exact Below.drew (by with_reducible assumption) | exact Heap.Below.alloc' (by with_reducible assumption) (Nat.le_refl _) _ | exact Heap.Below.alloc' (Below.drew (by with_reducible assumption)) (Nat.le_refl _) _ | exact Below.drew (Heap.Below.alloc' (by with_reducible assumption) (Nat.le_refl _) _)) HG2.out (Below.size (by first | with_reducible assumption | exact Below.drew (by with_reducible assumption) | exact Heap.Below.alloc' (by with_reducible assumption) (Nat.le_refl _) _ | exact Heap.Below.alloc' (Below.drew (by with_reducible assumption)) (Nat.le_refl _) _ | exact Below.drew (Heap.Below.alloc' (by with_reducible assumption) (Nat.le_refl _) _))) (own_le HQ1.out); obtain ⟨k6, k7⟩ := KEEP.out _ hbl3; obtain ⟨va, vc, hv⟩ := own_form HQ2.out; subst hv))
            refine hK.out _ _ ?_ (fun hHeld => ?_)
            · (try dsimp only)
              (first | exact KEEPF.out _ (Fr.of_below _ (by first | with_reducible assumption | exact Below.drew (by with_reducible assumption) | exact Heap.Below.alloc' (by with_reducible assumption) (Nat.le_refl _) _ | exact Heap.Below.alloc' (Below.drew (by with_reducible assumption)) (Nat.le_refl _) _ | exact Below.drew (Heap.Below.alloc' (by with_reducible assumption) (Nat.le_refl _) _))) | exact KEEPF.out _ (Fr.setAt (Fr.of_below _ (by first | with_reducible assumption | exact Below.drew (by with_reducible assumption) | exact Heap.Below.alloc' (by with_reducible assumption) (Nat.le_refl _) _ | exact Heap.Below.alloc' (Below.drew (by with_reducible assumption)) (Nat.le_refl _) _ | exact Below.drew (Heap.Below.alloc' (by with_reducible assumption) (Nat.le_refl _) _))) _ _) | go_keep)
            clear hK K
            try simp only [Act.put, List.setIfInBounds_toArray, List.set_cons_zero, List.set_cons_succ]
            refine wpAnyH_take (i := 9) (v := ?_) rfl (by kernel_rfl) (by kernel_rfl) (by kernel_rfl) (fun _ _ _ h => h) (Or.inl ⟨by rfl, ?_⟩) (by assumption) ?_
            rotate_left
            · intro w hSw
              (try dsimp only at hSw)
              go_simp
              try with_reducible rfl
            try simp only [Act.put, List.setIfInBounds_toArray, List.set_cons_zero, List.set_cons_succ]
            refine wpAnyH_take (i := 10) (v := ?_) rfl (by kernel_rfl) (by kernel_rfl) (by kernel_rfl) (fun _ _ _ h => h) (Or.inl ⟨by rfl, ?_⟩) (by assumption) ?_
            rotate_left
            · intro w hSw
              (try dsimp only at hSw)
              go_simp
              try with_reducible rfl
            try simp only [Act.put, List.setIfInBounds_toArray, List.set_cons_zero, List.set_cons_succ]
            refine wpAnyH_ready (rs := [11]) (by kernel_rfl) (by simp) ?_
            refine AllReadyH.cons (i := 11) rfl (fun K hK => ?_) ?_
            · go_simp
              refine hK.out _ _ ?_ (fun hHeld => ?_)
              · (try dsimp only)
                (first | exact KEEPF.out _ (Fr.of_below _ (by first | with_reducible assumption | exact Below.drew (by with_reducible assumption) | exact Heap.Below.alloc' (by with_reducible assumption) (Nat.le_refl _) _ | exact Heap.Below.alloc' (Below.drew (by with_reducible assumption)) (Nat.le_refl _) _ | exact Below.drew (Heap.Below.alloc' (by with_reducible assumption) (Nat.le_refl _) _))) | exact KEEPF.out _ (Fr.setAt (Fr.of_below _ (by first | with_reducible assumption | exact Below.drew (by with_reducible assumption) | exact Heap.Below.alloc' (by with_reducible assumption) (Nat.le_refl _) _ | exact Heap.Below.alloc' (Below.drew (by with_reducible assumption)) (Nat.le_refl _) _ | exact Below.drew (Heap.Below.alloc' (by with_reducible assumption) (Nat.le_refl _) _))) _ _) | go_keep)
              clear hK K
              try simp only [Act.put, List.setIfInBounds_toArray, List.set_cons_zero, List.set_cons_succ]
              refine wpAnyH_done (by kernel_rfl) ?_ _
              refine NoPanic.normal ?_
              go_wp2_with fail
              go_meet
              obtain ⟨hr3, hf3⟩ := HRF.out _ hbl3
              have hrow := Row.of_owns HQ2.out
              rw [List.nil_append, Nat.zero_add] at hrow
              have hr4 := hr3.setSubs (l := T.subs ++ [⟨p, n, la, false⟩]) (by rw [show (T.subs ++ [(⟨p, n, la, false⟩ : TSub)]).flatMap tsubCells = T.subs.flatMap tsubCells ++ [.int .i64 p, .int .i64 n, .int .i64 la, .bool false] by rw [List.flatMap_append]; rfl, show (T.subs ++ [(⟨p, n, la, false⟩ : TSub)]).length = T.subs.length + 1 by simp]; exact hrow)
              exact ⟨hr4, hf3.setAt _ _, (Fr.of_below _ hbl3).setAt _ _⟩
            exact AllReadyH.nil
          exact AllReadyH.nil
        exact AllReadyH.nil
      exact AllReadyH.nil
    refine AllReadyH.cons (i := 7) rfl (fun K hK => ?_) ?_
    · go_simp
      refine hK.out _ _ ?_ (fun hHeld => ?_)
      · (try dsimp only)
        (first | exact KEEPF.out _ (Fr.of_below _ (by first | with_reducible assumption | exact Below.drew (by with_reducible assumption) | exact Heap.Below.alloc' (by with_reducible assumption) (Nat.le_refl _) _ | exact Heap.Below.alloc' (Below.drew (by with_reducible assumption)) (Nat.le_refl _) _ | exact Below.drew (Heap.Below.alloc' (by with_reducible assumption) (Nat.le_refl _) _))) | exact KEEPF.out _ (Fr.setAt (Fr.of_below _ (by first | with_reducible assumption | exact Below.drew (by with_reducible assumption) | exact Heap.Below.alloc' (by with_reducible assumption) (Nat.le_refl _) _ | exact Heap.Below.alloc' (Below.drew (by with_reducible assumption)) (Nat.le_refl _) _ | exact Below.drew (Heap.Below.alloc' (by with_reducible assumption) (Nat.le_refl _) _))) _ _) | go_keep)
      clear hK K
      try simp only [Act.put, List.setIfInBounds_toArray, List.set_cons_zero, List.set_cons_succ]
      refine wpAnyH_ready (rs := [4]) (by kernel_rfl) (by simp) ?_
      refine AllReadyH.cons (i := 4) rfl (fun K hK => ?_) ?_
      · go_simp
        refine hK.out _ _ ?_ (fun hHeld => ?_)
        · (try dsimp only)
          (first | exact KEEPF.out _ (Fr.of_below _ (by first | with_reducible assumption | exact Below.drew (by with_reducible assumption) | exact Heap.Below.alloc' (by with_reducible assumption) (Nat.le_refl _) _ | exact Heap.Below.alloc' (Below.drew (by with_reducible assumption)) (Nat.le_refl _) _ | exact Below.drew (Heap.Below.alloc' (by with_reducible assumption) (Nat.le_refl _) _))) | exact KEEPF.out _ (Fr.setAt (Fr.of_below _ (by first | with_reducible assumption | exact Below.drew (by with_reducible assumption) | exact Heap.Below.alloc' (by with_reducible assumption) (Nat.le_refl _) _ | exact Heap.Below.alloc' (Below.drew (by with_reducible assumption)) (Nat.le_refl _) _ | exact Below.drew (Heap.Below.alloc' (by with_reducible assumption) (Nat.le_refl _) _))) _ _) | go_keep)
        clear hK K
        try simp only [Act.put, List.setIfInBounds_toArray, List.set_cons_zero, List.set_cons_succ]
        refine wpAnyH_ready (rs := [5]) (by kernel_rfl) (by simp) ?_
        refine AllReadyH.cons (i := 5) rfl (fun K hK => ?_) ?_
        · (first | (go_split_ands; refine step_app (by rfl) (.const (.slice none 0 0)) (.tmp 79) 30 (by rfl) V.heap.size elemSub (.slice none 0 0) 0 [] (by rfl) (World.ownsRow_nil _ _ _ _) (.slice a T.subs.length cap) T.subs.length (T.subs.flatMap tsubCells) (by rfl) ?_ HLP.out (tsubs_one _) (by omega) (by omega) ?_ ?_; (exact HRW.out _ (by first | with_reducible assumption | exact Below.drew (by with_reducible assumption) | exact Heap.Below.alloc' (by with_reducible assumption) (Nat.le_refl _) _ | exact Heap.Below.alloc' (Below.drew (by with_reducible assumption)) (Nat.le_refl _) _ | exact Below.drew (Heap.Below.alloc' (by with_reducible assumption) (Nat.le_refl _) _))); (exact Below.size (by first | with_reducible assumption | exact Below.drew (by with_reducible assumption) | exact Heap.Below.alloc' (by with_reducible assumption) (Nat.le_refl _) _ | exact Heap.Below.alloc' (Below.drew (by with_reducible assumption)) (Nat.le_refl _) _ | exact Below.drew (Heap.Below.alloc' (by with_reducible assumption) (Nat.le_refl _) _))); intro v1 w2 HQ1 HG1; have hba := grown_none HG1.out; have hbl2 : Below V.heap.size V w2 := Heap.Below.call (by first | with_reducible assumption | exact Below.drew (by with_reducible assumption) | exact Heap.Below.alloc' (by with_reducible assumption) (Nat.le_refl _) _ | exact Heap.Below.alloc' (Below.drew (by with_reducible assumption)) (Nat.le_refl _) _ | exact Below.drew (Heap.Below.alloc' (by with_reducible assumption) (Nat.le_refl _) _)) (Nat.le_refl _) hba; have r2 : Below w2.heap.size w2 w2 := Below.refl _ _; obtain ⟨k2, k3⟩ := KEEP.out _ hbl2) | (go_split_ands; refine step_app (by rfl) (.tmp 80) (.tmp 82) 30 (by rfl) V.heap.size elemSub v1 (0 + T.subs.length) ([] ++ T.subs.flatMap tsubCells) (by rfl) ?_ _ 1 [.int .i64 p, .int .i64 n, .int .i64 la, .bool false] (by rfl) ?_ (by rfl) (tsub_one ⟨p, n, la, false⟩) (by omega) (by omega) ?_ ?_; (exact owns_below HQ1.out (by first | with_reducible assumption | exact Below.drew (by with_reducible assumption) | exact Heap.Below.alloc' (by with_reducible assumption) (Nat.le_refl _) _ | exact Heap.Below.alloc' (Below.drew (by with_reducible assumption)) (Nat.le_refl _) _ | exact Below.drew (Heap.Below.alloc' (by with_reducible assumption) (Nat.le_refl _) _))); (repeat (first | ((with_reducible refine row_new3 _ _ 1 [.int .i64 p, .int .i64 n, .int .i64 la, .bool false] (by decide) _ ?_); rfl) | with_reducible refine Row.drew ?_ | with_reducible refine Row.below ?_ hba)); (exact Below.size (by first | with_reducible assumption | exact Below.drew (by with_reducible assumption) | exact Heap.Below.alloc' (by with_reducible assumption) (Nat.le_refl _) _ | exact Heap.Below.alloc' (Below.drew (by with_reducible assumption)) (Nat.le_refl _) _ | exact Below.drew (Heap.Below.alloc' (by with_reducible assumption) (Nat.le_refl _) _))); intro v2 w3 HQ2 HG2; have hbl3 : Below V.heap.size V w3 := Below.grown (by first | with_reducible assumption | exact Below.drew (by with_reducible assumption) | exact Heap.Below.alloc' (by with_reducible assumption) (Nat.le_refl _) _ | exact Heap.Below.alloc' (Below.drew (by with_reducible assumption)) (Nat.le_refl _) _ | exact Below.drew (Heap.Below.alloc' (by with_reducible assumption) (Nat.le_refl _) _)) HG2.out (Below.size (by first | with_reducible assumption | exact Below.drew (by with_reducible assumption) | exact Heap.Below.alloc' (by with_reducible assumption) (Nat.le_refl _) _ | exact Heap.Below.alloc' (Below.drew (by with_reducible assumption)) (Nat.le_refl _) _ | exact Below.drew (Heap.Below.alloc' (by with_reducible assumption) (Nat.le_refl _) _))) (own_le HQ1.out); obtain ⟨k6, k7⟩ := KEEP.out _ hbl3; obtain ⟨va, vc, hv⟩ := own_form HQ2.out; subst hv))
          refine hK.out _ _ ?_ (fun hHeld => ?_)
          · (try dsimp only)
            (first | exact KEEPF.out _ (Fr.of_below _ (by first | with_reducible assumption | exact Below.drew (by with_reducible assumption) | exact Heap.Below.alloc' (by with_reducible assumption) (Nat.le_refl _) _ | exact Heap.Below.alloc' (Below.drew (by with_reducible assumption)) (Nat.le_refl _) _ | exact Below.drew (Heap.Below.alloc' (by with_reducible assumption) (Nat.le_refl _) _))) | exact KEEPF.out _ (Fr.setAt (Fr.of_below _ (by first | with_reducible assumption | exact Below.drew (by with_reducible assumption) | exact Heap.Below.alloc' (by with_reducible assumption) (Nat.le_refl _) _ | exact Heap.Below.alloc' (Below.drew (by with_reducible assumption)) (Nat.le_refl _) _ | exact Below.drew (Heap.Below.alloc' (by with_reducible assumption) (Nat.le_refl _) _))) _ _) | go_keep)
          clear hK K
          try simp only [Act.put, List.setIfInBounds_toArray, List.set_cons_zero, List.set_cons_succ]
          refine wpAnyH_ready (rs := [8]) (by kernel_rfl) (by simp) ?_
          refine AllReadyH.cons (i := 8) rfl (fun K hK => ?_) ?_
          · (first | (go_split_ands; refine step_app (by rfl) (.const (.slice none 0 0)) (.tmp 79) 30 (by rfl) V.heap.size elemSub (.slice none 0 0) 0 [] (by rfl) (World.ownsRow_nil _ _ _ _) (.slice a T.subs.length cap) T.subs.length (T.subs.flatMap tsubCells) (by rfl) ?_ HLP.out (tsubs_one _) (by omega) (by omega) ?_ ?_; (exact HRW.out _ (by first | with_reducible assumption | exact Below.drew (by with_reducible assumption) | exact Heap.Below.alloc' (by with_reducible assumption) (Nat.le_refl _) _ | exact Heap.Below.alloc' (Below.drew (by with_reducible assumption)) (Nat.le_refl _) _ | exact Below.drew (Heap.Below.alloc' (by with_reducible assumption) (Nat.le_refl _) _))); (exact Below.size (by first | with_reducible assumption | exact Below.drew (by with_reducible assumption) | exact Heap.Below.alloc' (by with_reducible assumption) (Nat.le_refl _) _ | exact Heap.Below.alloc' (Below.drew (by with_reducible assumption)) (Nat.le_refl _) _ | exact Below.drew (Heap.Below.alloc' (by with_reducible assumption) (Nat.le_refl _) _))); intro v1 w2 HQ1 HG1; have hba := grown_none HG1.out; have hbl2 : Below V.heap.size V w2 := Heap.Below.call (by first | with_reducible assumption | exact Below.drew (by with_reducible assumption) | exact Heap.Below.alloc' (by with_reducible assumption) (Nat.le_refl _) _ | exact Heap.Below.alloc' (Below.drew (by with_reducible assumption)) (Nat.le_refl _) _ | exact Below.drew (Heap.Below.alloc' (by with_reducible assumption) (Nat.le_refl _) _)) (Nat.le_refl _) hba; have r2 : Below w2.heap.size w2 w2 := Below.refl _ _; obtain ⟨k2, k3⟩ := KEEP.out _ hbl2) | (go_split_ands; refine step_app (by rfl) (.tmp 80) (.tmp 82) 30 (by rfl) V.heap.size elemSub v1 (0 + T.subs.length) ([] ++ T.subs.flatMap tsubCells) (by rfl) ?_ _ 1 [.int .i64 p, .int .i64 n, .int .i64 la, .bool false] (by rfl) ?_ (by rfl) (tsub_one ⟨p, n, la, false⟩) (by omega) (by omega) ?_ ?_; (exact owns_below HQ1.out (by first | with_reducible assumption | exact Below.drew (by with_reducible assumption) | exact Heap.Below.alloc' (by with_reducible assumption) (Nat.le_refl _) _ | exact Heap.Below.alloc' (Below.drew (by with_reducible assumption)) (Nat.le_refl _) _ | exact Below.drew (Heap.Below.alloc' (by with_reducible assumption) (Nat.le_refl _) _))); (repeat (first | ((with_reducible refine row_new3 _ _ 1 [.int .i64 p, .int .i64 n, .int .i64 la, .bool false] (by decide) _ ?_); rfl) | with_reducible refine Row.drew ?_ | with_reducible refine Row.below ?_ hba)); (exact Below.size (by first | with_reducible assumption | exact Below.drew (by with_reducible assumption) | exact Heap.Below.alloc' (by with_reducible assumption) (Nat.le_refl _) _ | exact Heap.Below.alloc' (Below.drew (by with_reducible assumption)) (Nat.le_refl _) _ | exact Below.drew (Heap.Below.alloc' (by with_reducible assumption) (Nat.le_refl _) _))); intro v2 w3 HQ2 HG2; have hbl3 : Below V.heap.size V w3 := Below.grown (by first | with_reducible assumption | exact Below.drew (by with_reducible assumption) | exact Heap.Below.alloc' (by with_reducible assumption) (Nat.le_refl _) _ | exact Heap.Below.alloc' (Below.drew (by with_reducible assumption)) (Nat.le_refl _) _ | exact Below.drew (Heap.Below.alloc' (by with_reducible assumption) (Nat.le_refl _) _)) HG2.out (Below.size (by first | with_reducible assumption | exact Below.drew (by with_reducible assumption) | exact Heap.Below.alloc' (by with_reducible assumption) (Nat.le_refl _) _ | exact Heap.Below.alloc' (Below.drew (by with_reducible assumption)) (Nat.le_refl _) _ | exact Below.drew (Heap.Below.alloc' (by with_reducible assumption) (Nat.le_refl _) _))) (own_le HQ1.out); obtain ⟨k6, k7⟩ := KEEP.out _ hbl3; obtain ⟨va, vc, hv⟩ := own_form HQ2.out; subst hv))
            refine hK.out _ _ ?_ (fun hHeld => ?_)
            · (try dsimp only)
              (first | exact KEEPF.out _ (Fr.of_below _ (by first | with_reducible assumption | exact Below.drew (by with_reducible assumption) | exact Heap.Below.alloc' (by with_reducible assumption) (Nat.le_refl _) _ | exact Heap.Below.alloc' (Below.drew (by with_reducible assumption)) (Nat.le_refl _) _ | exact Below.drew (Heap.Below.alloc' (by with_reducible assumption) (Nat.le_refl _) _))) | exact KEEPF.out _ (Fr.setAt (Fr.of_below _ (by first | with_reducible assumption | exact Below.drew (by with_reducible assumption) | exact Heap.Below.alloc' (by with_reducible assumption) (Nat.le_refl _) _ | exact Heap.Below.alloc' (Below.drew (by with_reducible assumption)) (Nat.le_refl _) _ | exact Below.drew (Heap.Below.alloc' (by with_reducible assumption) (Nat.le_refl _) _))) _ _) | go_keep)
            clear hK K
            try simp only [Act.put, List.setIfInBounds_toArray, List.set_cons_zero, List.set_cons_succ]
            refine wpAnyH_take (i := 9) (v := ?_) rfl (by kernel_rfl) (by kernel_rfl) (by kernel_rfl) (fun _ _ _ h => h) (Or.inl ⟨by rfl, ?_⟩) (by assumption) ?_
            rotate_left
            · intro w hSw
              (try dsimp only at hSw)
              go_simp
              try with_reducible rfl
            try simp only [Act.put, List.setIfInBounds_toArray, List.set_cons_zero, List.set_cons_succ]
            refine wpAnyH_take (i := 10) (v := ?_) rfl (by kernel_rfl) (by kernel_rfl) (by kernel_rfl) (fun _ _ _ h => h) (Or.inl ⟨by rfl, ?_⟩) (by assumption) ?_
            rotate_left
            · intro w hSw
              (try dsimp only at hSw)
              go_simp
              try with_reducible rfl
            try simp only [Act.put, List.setIfInBounds_toArray, List.set_cons_zero, List.set_cons_succ]
            refine wpAnyH_ready (rs := [11]) (by kernel_rfl) (by simp) ?_
            refine AllReadyH.cons (i := 11) rfl (fun K hK => ?_) ?_
            · go_simp
              refine hK.out _ _ ?_ (fun hHeld => ?_)
              · (try dsimp only)
                (first | exact KEEPF.out _ (Fr.of_below _ (by first | with_reducible assumption | exact Below.drew (by with_reducible assumption) | exact Heap.Below.alloc' (by with_reducible assumption) (Nat.le_refl _) _ | exact Heap.Below.alloc' (Below.drew (by with_reducible assumption)) (Nat.le_refl _) _ | exact Below.drew (Heap.Below.alloc' (by with_reducible assumption) (Nat.le_refl _) _))) | exact KEEPF.out _ (Fr.setAt (Fr.of_below _ (by first | with_reducible assumption | exact Below.drew (by with_reducible assumption) | exact Heap.Below.alloc' (by with_reducible assumption) (Nat.le_refl _) _ | exact Heap.Below.alloc' (Below.drew (by with_reducible assumption)) (Nat.le_refl _) _ | exact Below.drew (Heap.Below.alloc' (by with_reducible assumption) (Nat.le_refl _) _))) _ _) | go_keep)
              clear hK K
              try simp only [Act.put, List.setIfInBounds_toArray, List.set_cons_zero, List.set_cons_succ]
              refine wpAnyH_done (by kernel_rfl) ?_ _
              refine NoPanic.normal ?_
              go_wp2_with fail
              go_meet
              obtain ⟨hr3, hf3⟩ := HRF.out _ hbl3
              have hrow := Row.of_owns HQ2.out
              rw [List.nil_append, Nat.zero_add] at hrow
              have hr4 := hr3.setSubs (l := T.subs ++ [⟨p, n, la, false⟩]) (by rw [show (T.subs ++ [(⟨p, n, la, false⟩ : TSub)]).flatMap tsubCells = T.subs.flatMap tsubCells ++ [.int .i64 p, .int .i64 n, .int .i64 la, .bool false] by rw [List.flatMap_append]; rfl, show (T.subs ++ [(⟨p, n, la, false⟩ : TSub)]).length = T.subs.length + 1 by simp]; exact hrow)
              exact ⟨hr4, hf3.setAt _ _, (Fr.of_below _ hbl3).setAt _ _⟩
            exact AllReadyH.nil
          exact AllReadyH.nil
        exact AllReadyH.nil
      exact AllReadyH.nil
    exact AllReadyH.nil
  case rest =>
    obtain ⟨href, hfr, hfv⟩ := hcut
    obtain ⟨W5, rfl⟩ : ∃ W5 : World, W5 = wc := ⟨_, rfl⟩
    obtain ⟨y0, y1, y2, y3, -⟩ := KEEPF.out _ hfv
    obtain ⟨x1, x2, x3⟩ := KEEPB.out _ hfv
    have hs5 := hfv.size
    have HREF5 := Lib.hid href
    have HFR5 := Lib.hid hfr
    clear hb0 k0 k1 ne1 href hfr hfv
    have hba := below_alloc W5 (.cells #[.int .i64 1, .int .i64 p, .int .i64 n, .int .i64 la, .int .u32 0] 59)
    have ht := heap_new W5 (.cells #[.int .i64 1, .int .i64 p, .int .i64 n, .int .i64 la, .int .u32 0] 59)
    have hR6 := HREF5.out.alloc (.cells #[.int .i64 1, .int .i64 p, .int .i64 n, .int .i64 la, .int .u32 0] 59)
    have hF6 := HFR5.out.alloc (by omega) (.cells #[.int .i64 1, .int .i64 p, .int .i64 n, .int .i64 la, .int .u32 0] 59)
    have hsz6 := World.size_alloc W5 (.cells #[.int .i64 1, .int .i64 p, .int .i64 n, .int .i64 la, .int .u32 0] 59)
    have y0' := (hba.cell (p := ⟨w1.heap.size, 0, none⟩) (by dsimp only; omega)).trans y0
    have y1' := (hba.cell (p := ⟨w1.heap.size, 1, none⟩) (by dsimp only; omega)).trans y1
    have y2' := (hba.cell (p := ⟨w1.heap.size, 2, none⟩) (by dsimp only; omega)).trans y2
    have y3' := (hba.cell (p := ⟨w1.heap.size, 3, none⟩) (by dsimp only; omega)).trans y3
    have yp' := (hba.cell (p := ⟨w.heap.size, 1, none⟩) (by dsimp only; omega)).trans x1
    have yb' := (hba.cell (p := ⟨w.heap.size, 2, none⟩) (by dsimp only; omega)).trans x2
    go_upto_region 17 with fail
    generalize W5.alloc (.cells #[.int .i64 1, .int .i64 p, .int .i64 n, .int .i64 la, .int .u32 0] 59) = W6 at *
    have HR6 := Lib.hid hR6
    have HF6 := Lib.hid hF6
    obtain ⟨pv6, sv6, uv6, hcell6, htab6⟩ := hR6.vals
    obtain ⟨P, hms, hrowP, hrsP⟩ := htab6.srcs
    have hmP : m < P.length := by rw [← hms, List.length_map] at hm; exact hm
    have hPlen := hrowP.len
    have s1 := cell_of hcell6 1
    obtain ⟨pa, pc, rfl, -, -⟩ := id hrowP
    obtain ⟨gs, offs, e4, hcs⟩ := tsrc_at hrowP (by omega)
    subst e4
    obtain ⟨-, -, -, s4⟩ := hcs m P[m] (List.getElem?_eq_getElem hmP)
    have hPm : P[m].1.muted = (T.addSub ⟨p, n, la, false⟩).srcs[m].muted := by
      have : (P.map Prod.fst)[m]? = (T.addSub ⟨p, n, la, false⟩).srcs[m]? := by rw [hms]
      rw [List.getElem?_map, List.getElem?_eq_getElem hmP, List.getElem?_eq_getElem hm] at this
      simp at this; rw [this]
    rw [hPm] at s4
    have hgs : gs < W6.heap.size := by
      rcases Nat.lt_or_ge gs W6.heap.size with h | h
      · exact h
      · simp [World.cell?, Array.getElem?_eq_none h] at s4
    have hmI : (m : Int) < (P.length : Int) := Int.ofNat_lt.2 hmP
    have hm0 : (0 : Int) ≤ (m : Int) := Int.natCast_nonneg m
    have hb6 : b < W6.heap.size := by omega
    have hg6 : w1.heap.size < W6.heap.size := by omega
    have hV6 : W5.heap.size < W6.heap.size := by omega
    have hw6 : w.heap.size < W6.heap.size := by omega
    have hw6' : w.heap.size ≤ W6.heap.size := by omega
    clear hcell6 htab6 hms hrowP hrsP hcs hPm hR6 hF6 hsz6
    generalize P.length = NP at *
    generalize (T.addSub ⟨p, n, la, false⟩).srcs[m].muted = mu at *
    have KEEP3 : Hid (∀ w', Below W6.heap.size W6 w' → (w'.cell? ⟨w1.heap.size, 0, none⟩ = some (.int .i64 p) ∧ w'.cell? ⟨w1.heap.size, 1, none⟩ = some (.int .i64 n) ∧ w'.cell? ⟨w1.heap.size, 2, none⟩ = some (.int .i64 la) ∧ w'.cell? ⟨w1.heap.size, 3, none⟩ = some (.bool false)) ∧ (w'.cell? ⟨W5.heap.size, 0, none⟩ = some (.int .i64 1) ∧ w'.cell? ⟨W5.heap.size, 1, none⟩ = some (.int .i64 p) ∧ w'.cell? ⟨W5.heap.size, 2, none⟩ = some (.int .i64 n) ∧ w'.cell? ⟨W5.heap.size, 3, none⟩ = some (.int .i64 la) ∧ w'.cell? ⟨W5.heap.size, 4, none⟩ = some (.int .u32 0)) ∧ w'.cell? ⟨w.heap.size, 1, none⟩ = some (.int .i64 p) ∧ w'.cell? ⟨w.heap.size, 2, none⟩ = some (.int .i64 n) ∧ w'.cell? ⟨b, 1, none⟩ = some (.slice (some ⟨gs, offs, none⟩) NP pc) ∧ w'.cell? ⟨gs, offs + m * 4 + 3, none⟩ = some (.bool mu) ∧ Below W6.heap.size W6 w') := fun w' h =>
      ⟨⟨(h.cell (p := ⟨w1.heap.size, 0, none⟩) hg6).trans y0', (h.cell (p := ⟨w1.heap.size, 1, none⟩) hg6).trans y1', (h.cell (p := ⟨w1.heap.size, 2, none⟩) hg6).trans y2', (h.cell (p := ⟨w1.heap.size, 3, none⟩) hg6).trans y3'⟩, ⟨(h.cell (p := ⟨W5.heap.size, 0, none⟩) hV6).trans (cell_of ht 0), (h.cell (p := ⟨W5.heap.size, 1, none⟩) hV6).trans (cell_of ht 1), (h.cell (p := ⟨W5.heap.size, 2, none⟩) hV6).trans (cell_of ht 2), (h.cell (p := ⟨W5.heap.size, 3, none⟩) hV6).trans (cell_of ht 3), (h.cell (p := ⟨W5.heap.size, 4, none⟩) hV6).trans (cell_of ht 4)⟩, (h.cell (p := ⟨w.heap.size, 1, none⟩) hw6).trans yp', (h.cell (p := ⟨w.heap.size, 2, none⟩) hw6).trans yb', (h.cell (p := ⟨b, 1, none⟩) hb6).trans s1, (h.cell (p := ⟨gs, offs + m * 4 + 3, none⟩) hgs).trans s4, h⟩
    clear ht y0 y1 y2 y3 x1 x2 x3 y0' y1' y2' y3' yb' yp' s1 s4 hba HREF5 HFR5 KEEP KEEPF KEEPB HRW HRF HR HSM HB1 HBV HLP
    generalize T.addSub ⟨p, n, la, false⟩ = T1 at *

    generalize T1.ask ⟨p, n, la, false⟩ = TA at *
    have hb0 : Below W6.heap.size W6 W6 := Below.refl _ _
    go_cut [103] (fun s103 wx => s103 = .bool mu ∧ Below W6.heap.size W6 wx)
    case first =>
      go_region_held3 (fun w' => (w'.cell? ⟨w1.heap.size, 0, none⟩ = some (.int .i64 p) ∧ w'.cell? ⟨w1.heap.size, 1, none⟩ = some (.int .i64 n) ∧ w'.cell? ⟨w1.heap.size, 2, none⟩ = some (.int .i64 la) ∧ w'.cell? ⟨w1.heap.size, 3, none⟩ = some (.bool false)) ∧ (w'.cell? ⟨W5.heap.size, 0, none⟩ = some (.int .i64 1) ∧ w'.cell? ⟨W5.heap.size, 1, none⟩ = some (.int .i64 p) ∧ w'.cell? ⟨W5.heap.size, 2, none⟩ = some (.int .i64 n) ∧ w'.cell? ⟨W5.heap.size, 3, none⟩ = some (.int .i64 la) ∧ w'.cell? ⟨W5.heap.size, 4, none⟩ = some (.int .u32 0)) ∧ w'.cell? ⟨w.heap.size, 1, none⟩ = some (.int .i64 p) ∧ w'.cell? ⟨w.heap.size, 2, none⟩ = some (.int .i64 n) ∧ w'.cell? ⟨b, 1, none⟩ = some (.slice (some ⟨gs, offs, none⟩) NP pc) ∧ w'.cell? ⟨gs, offs + m * 4 + 3, none⟩ = some (.bool mu) ∧ Below W6.heap.size W6 w') (first | (exact KEEP3.out _ (by with_reducible assumption)) | (exact KEEP3.out _ (Below.drew (by with_reducible assumption))) | go_keep) (first | (go_at_call 18; go_split_ands; (with_reducible refine Calls.mono (CS.out _ (HR6.out.below (by with_reducible assumption))) ?_); rintro e V2 ⟨rfl, hbV⟩; have hbV2 := Heap.Below.call (by with_reducible assumption) (Nat.le_refl _) hbV) | fail)
      all_goals (go_wp2_with fail; go_meet; exact ⟨rfl, by first | with_reducible assumption | exact Below.drew (by with_reducible assumption)⟩)
    case rest =>
      clear hb0
      obtain ⟨rfl, hbz⟩ := hcut
      obtain ⟨W7, rfl⟩ : ∃ W7 : World, W7 = wc := ⟨_, rfl⟩
      cases mu
      · have HNP : Hid (T.subscribe ⟨6, p, n, la, nm, ss⟩ = ([⟨1, p, n, la, 0⟩, TA], T1)) := by show _ = _; rw [HSU.out, HMU.out]; rfl
        go_upto_region 19 with fail
        go_region_held3 (fun w' => (w'.cell? ⟨w1.heap.size, 0, none⟩ = some (.int .i64 p) ∧ w'.cell? ⟨w1.heap.size, 1, none⟩ = some (.int .i64 n) ∧ w'.cell? ⟨w1.heap.size, 2, none⟩ = some (.int .i64 la) ∧ w'.cell? ⟨w1.heap.size, 3, none⟩ = some (.bool false)) ∧ (w'.cell? ⟨W5.heap.size, 0, none⟩ = some (.int .i64 1) ∧ w'.cell? ⟨W5.heap.size, 1, none⟩ = some (.int .i64 p) ∧ w'.cell? ⟨W5.heap.size, 2, none⟩ = some (.int .i64 n) ∧ w'.cell? ⟨W5.heap.size, 3, none⟩ = some (.int .i64 la) ∧ w'.cell? ⟨W5.heap.size, 4, none⟩ = some (.int .u32 0)) ∧ w'.cell? ⟨w.heap.size, 1, none⟩ = some (.int .i64 p) ∧ w'.cell? ⟨w.heap.size, 2, none⟩ = some (.int .i64 n) ∧ w'.cell? ⟨b, 1, none⟩ = some (.slice (some ⟨gs, offs, none⟩) NP pc) ∧ w'.cell? ⟨gs, offs + m * 4 + 3, none⟩ = some (.bool false) ∧ Below W6.heap.size W6 w') (first | (exact KEEP3.out _ (by with_reducible assumption)) | (exact KEEP3.out _ (Below.drew (by with_reducible assumption))) | (exact KEEP3.out _ (Heap.Below.alloc' (by with_reducible assumption) (Nat.le_refl _) _)) | (exact KEEP3.out _ (Heap.Below.alloc' (Below.drew (by with_reducible assumption)) (Nat.le_refl _) _)) | go_keep) (first | (go_at_call 39; go_split_ands; (with_reducible refine Calls.mono (HASK.out _ (HR6.out.below (by with_reducible assumption))) ?_); rintro e V3 ⟨rfl, hbV⟩; have hbV3 := Heap.Below.call (by with_reducible assumption) (Nat.le_refl _) hbV; unfold turnAgg) | fail)
        go_wp2
        go_ret2
        rw [HNP.out] at HF
        exact rdoPost_mk HF (row_new' _ _ 2 _ ([⟨1, p, n, la, 0⟩, TA].flatMap turnCells) (by decide) rfl) (HR6.out.below (hbV3.alloc hbV3.size _)) (HF6.out.trans ((Fr.of_below _ (hbV3.alloc hbV3.size _)).mono hw6' (fun _ _ h => h)))
      · have HNP : Hid (T.subscribe ⟨6, p, n, la, nm, ss⟩ = ([⟨1, p, n, la, 0⟩, ⟨6, p, n, 0, 0⟩], T1)) := by show _ = _; rw [HSU.out, HMU.out]; rfl
        obtain ⟨-, ⟨t0, t1, t2, t3, t4⟩, q1, q2, -⟩ := KEEP3.out _ hbz
        have hzt : W5.heap.size < W7.heap.size := Nat.lt_of_lt_of_le hV6 hbz.size
        have hzw : w.heap.size < W7.heap.size := Nat.lt_of_lt_of_le hw6 hbz.size
        go_wp2
        go_ret2
        rw [HNP.out] at HF
        exact rdoPost_mk HF (row_new' _ _ 2 _ ([⟨1, p, n, la, 0⟩, ⟨6, p, n, 0, 0⟩].flatMap turnCells) (by decide) rfl) ((HR6.out.below hbz).alloc _) ((HF6.out.trans ((Fr.of_below _ hbz).mono hw6' (fun _ _ h => h))).alloc (Nat.le_trans hw6' hbz.size) _)
end Go.Proofs.Rm
