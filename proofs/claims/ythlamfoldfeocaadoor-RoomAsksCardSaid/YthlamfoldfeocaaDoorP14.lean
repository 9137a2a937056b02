/- Several texts in one: The walks of the reference's room: Do, the kinds that add. -/
import Derived.Test.YthlamfoldfeocaaDoorP13
set_option linter.unusedSimpArgs false
namespace Go.Proofs.Rm
open Go.RowKit Go.Proofs.Heap Go.Proofs.Mem
open Go.Proofs.Lab (may key Tabs)
theorem row_new3 (w : World) (e : TypeId) (n : Nat) (xs : List Value) (hn : n ≤ maxLen) (v : Value) (hv : v = .slice (some ⟨w.heap.size, 0, none⟩) n n) : Row (w.alloc (.cells xs.toArray e)) e v n xs := by
  subst hv; exact row_new w e n xs hn
theorem grown_none {w w' : World} (hg : w.grownBy w' (Value.slice none 0 0).ownBlock) : Below w.heap.size w w' := (Below.refl _ _).grown hg (Nat.le_refl _) (fun k hk => by cases hk)
set_option maxRecDepth 100000 in
set_option maxHeartbeats 4000000 in
theorem rdo_join (b : Nat) (T : Tab) (o : Op) (sa ba : Option Addr) (sc bl bc : Nat) (w : World) (hR : RefAt w b T) (hsm : T.Small) (hT : Tabs w) (hnm : o.name.length < 9223372036854775807) (hpn : ∀ x ∈ T.peers, x.name.length < 9223372036854775807)
    (hrow : RRow w (.slice sa o.ssrcs.length sc) o.ssrcs.length (u32s o.ssrcs)) (hw : T.wrong o = 0) (hok : ROk T o) (hk : o.kind = 2) :
    Calls Tryd.prog 13 #[.pointer (some ⟨b, 0, none⟩), .agg #[.int .i64 o.kind, .int .i64 o.peer, .int .i64 o.source, .int .i64 o.layer, .string (str o.name), .slice sa o.ssrcs.length sc, .slice ba bl bc]] w (RDoPost b T o w) := by
  have cw := rwrong_any b T o sa ba sc bl bc (w.alloc (.cells #[.int .i64 o.kind, .int .i64 o.peer, .int .i64 o.source, .int .i64 o.layer, .string (str o.name), .slice sa o.ssrcs.length sc, .slice ba bl bc] 40)) (hR.below (below_alloc _ _)) (Utf8Tabs_below hT (below_alloc _ _)) hnm hpn (hrow.below (below_alloc _ _))
  have hb := hR.lt
  have HROWS := Lib.hid hrow
  have HR := Lib.hid hR
  have HSM := Lib.hid hsm
  have HF : Hid (T.doo o = (([], T.addPeer ⟨o.peer, o.name⟩), 0)) := by show _ = _; unfold Tab.doo Tab.turns; rw [if_neg (by rw [hw]; simp)]; simp [hk]
  rw [hw] at cw
  have CW := Lib.hid cw
  have HOK := Lib.hid hok
  obtain ⟨kd, p, n, la, nm, ss⟩ := o
  dsimp only at *
  subst hk
  have hslP := hsm.peers
  unfold small at hslP
  obtain ⟨pv, sv, uv, hcell, htab⟩ := hR.vals
  have hrowP := htab.peers
  obtain ⟨a, cap, rfl, hncap, -, -, -⟩ := id hrowP
  have HROWP : Hid (∀ w', Below w.heap.size w w' → Row w' 66 (.slice a T.peers.length cap) T.peers.length (T.peers.flatMap peerCells)) := fun w' h => hrowP.below h
  have HLP := Lib.hid (peers_len T.peers)
  have HC : Hid (∀ w', Below w.heap.size w w' → w'.cell? ⟨b, 0, none⟩ = some (.slice a T.peers.length cap) ∧ w'.frozen? ⟨b, 0, none⟩ = false) := fun w' h => ⟨(h.cell (p := ⟨b, 0, none⟩) hb).trans (cell_of hcell 0), (h.frozen (p := ⟨b, 0, none⟩) hb).trans (hR.unfrozen 0)⟩
  clear hrowP hcell htab
  clear hR hsm hT hnm hpn hrow cw hw hok
  have HBX := Lib.hid (heap_new w (.cells #[.int .i64 2, .int .i64 p, .int .i64 n, .int .i64 la, .string (str nm), .slice sa ss.length sc, .slice ba bl bc] 40))
  have HS0 := World.size_alloc w (.cells #[.int .i64 2, .int .i64 p, .int .i64 n, .int .i64 la, .string (str nm), .slice sa ss.length sc, .slice ba bl bc] 40)
  have HBL0 : Hid (Below w.heap.size w (w.alloc (.cells #[.int .i64 2, .int .i64 p, .int .i64 n, .int .i64 la, .string (str nm), .slice sa ss.length sc, .slice ba bl bc] 40))) := below_alloc _ _
  go_enter Tryd.func13, Tryd.ntmps13
  go_wp2_with fail
  (with_reducible refine CW.out.mono ?_)
  rintro e w1 ⟨rfl, hb1⟩
  have HB1 : Hid (Below w.heap.size w w1) := HBL0.out.trans (hb1.mono (by omega))
  have hsz1 : w.heap.size < w1.heap.size := by have := hb1.size; omega
  have hbx := fun (j : Nat) => (hb1.cell (p := ⟨w.heap.size, j, none⟩) (by dsimp only; omega)).trans (cell_of HBX.out j)
  have x0 : w1.cell? ⟨w.heap.size, 0, none⟩ = some (.int .i64 2) := hbx 0
  have x1 : w1.cell? ⟨w.heap.size, 1, none⟩ = some (.int .i64 p) := hbx 1
  have x2 : w1.cell? ⟨w.heap.size, 2, none⟩ = some (.int .i64 n) := hbx 2
  have x3 : w1.cell? ⟨w.heap.size, 3, none⟩ = some (.int .i64 la) := hbx 3
  have x4 : w1.cell? ⟨w.heap.size, 4, none⟩ = some (.string (str nm)) := hbx 4
  have x5 : w1.cell? ⟨w.heap.size, 5, none⟩ = some (.slice sa ss.length sc) := hbx 5
  have x6 : w1.cell? ⟨w.heap.size, 6, none⟩ = some (.slice ba bl bc) := hbx 6
  clear hb1 hbx
  have KEEP : Hid (∀ w', Below w1.heap.size w1 w' → w'.cell? ⟨b, 0, none⟩ = some (.slice a T.peers.length cap) ∧ w'.frozen? ⟨b, 0, none⟩ = false ∧ w'.cell? ⟨w.heap.size, 1, none⟩ = some (.int .i64 p) ∧ w'.cell? ⟨w.heap.size, 4, none⟩ = some (.string (str nm))) := fun w' h => ⟨(HC.out _ (HB1.out.trans (h.mono (by omega)))).1, (HC.out _ (HB1.out.trans (h.mono (by omega)))).2, (h.cell (p := ⟨w.heap.size, 1, none⟩) hsz1).trans x1, (h.cell (p := ⟨w.heap.size, 4, none⟩) hsz1).trans x4⟩
  have HRW : Hid (∀ w', Below w1.heap.size w1 w' → Row w' 66 (.slice a T.peers.length cap) T.peers.length (T.peers.flatMap peerCells)) := fun w' h => HROWP.out _ (HB1.out.trans (h.mono (by omega)))
  have HRF : Hid (∀ w', Below w1.heap.size w1 w' → RefAt w' b T ∧ Fr w.heap.size (· = b) w w') := fun w' h => ⟨HR.out.below (HB1.out.trans (h.mono (by omega))), Fr.of_below _ (HB1.out.trans (h.mono (by omega)))⟩
  have KEEPF : Hid (∀ w', Fr w1.heap.size (· = b) w1 w' → w'.cell? ⟨w.heap.size, 1, none⟩ = some (.int .i64 p) ∧ w'.cell? ⟨w.heap.size, 4, none⟩ = some (.string (str nm)) ∧ Fr w1.heap.size (· = b) w1 w') := fun w' h => ⟨(h.cell (p := ⟨w.heap.size, 1, none⟩) hsz1 (by dsimp only; omega)).trans x1, (h.cell (p := ⟨w.heap.size, 4, none⟩) hsz1 (by dsimp only; omega)).trans x4, h⟩
  have hb0 : Below w1.heap.size w1 w1 := Below.refl _ _
  obtain ⟨k0, k1, -, -⟩ := KEEP.out _ hb0
  have hbw1 : b < w1.heap.size := by omega
  have ne1 := World.new_ne w1 ⟨b, 0, none⟩ k0
  clear HROWP HC
  go_upto_region 6 with fail
  refine wp_region_noPanic ?_
  refine wp_region_held_drew (S := (fun w' => w'.cell? ⟨w.heap.size, 1, none⟩ = some (.int .i64 p) ∧ w'.cell? ⟨w.heap.size, 4, none⟩ = some (.string (str nm)) ∧ Fr w1.heap.size (· = b) w1 w')) (by kernel_rfl) ?_ (fun hHeld => ?_)
  · (try dsimp only)
    (first | exact KEEPF.out _ (Fr.of_below _ (by first | with_reducible assumption | exact Below.drew (by with_reducible assumption) | exact Heap.Below.alloc' (by with_reducible assumption) (Nat.le_refl _) _ | exact Heap.Below.alloc' (Below.drew (by with_reducible assumption)) (Nat.le_refl _) _ | exact Below.drew (Heap.Below.alloc' (by with_reducible assumption) (Nat.le_refl _) _))) | exact KEEPF.out _ (Fr.setAt (Fr.of_below _ (by first | with_reducible assumption | exact Below.drew (by with_reducible assumption) | exact Heap.Below.alloc' (by with_reducible assumption) (Nat.le_refl _) _ | exact Heap.Below.alloc' (Below.drew (by with_reducible assumption)) (Nat.le_refl _) _ | exact Below.drew (Heap.Below.alloc' (by with_reducible assumption) (Nat.le_refl _) _))) _ _) | go_keep)
  refine wpAnyH_take (i := 0) (v := ?_) rfl (by kernel_rfl) (by kernel_rfl) (by kernel_rfl) (fun _ _ _ h => h) (Or.inl ⟨by rfl, ?_⟩) (by assumption) ?_
  rotate_left
  · intro w hSw
    (try dsimp only at hSw)
    go_simp
    try with_reducible rfl
  try simp only [Act.put, List.setIfInBounds_toArray, List.set_cons_zero, List.set_cons_succ]
  refine wpAnyH_take (i := 1) (v := ?_) rfl (by kernel_rfl) (by kernel_rfl) (by kernel_rfl) (fun _ _ _ h => h) (Or.inl ⟨by rfl, ?_⟩) (by assumption) ?_
  rotate_left
  · intro w hSw
    (try dsimp only at hSw)
    go_simp
    try with_reducible rfl
  try simp only [Act.put, List.setIfInBounds_toArray, List.set_cons_zero, List.set_cons_succ]
  refine wpAnyH_take (i := 2) (v := ?_) rfl (by kernel_rfl) (by kernel_rfl) (by kernel_rfl) (fun _ _ _ h => h) (Or.inl ⟨by rfl, ?_⟩) (by assumption) ?_
  rotate_left
  · intro w hSw
    (try dsimp only at hSw)
    go_simp
    try with_reducible rfl
  try simp only [Act.put, List.setIfInBounds_toArray, List.set_cons_zero, List.set_cons_succ]
  refine wpAnyH_take (i := 3) (v := ?_) rfl (by kernel_rfl) (by kernel_rfl) (by kernel_rfl) (fun _ _ _ h => h) (Or.inl ⟨by rfl, ?_⟩) (by assumption) ?_
  rotate_left
  · intro w hSw
    (try dsimp only at hSw)
    go_simp
    try with_reducible rfl
  try simp only [Act.put, List.setIfInBounds_toArray, List.set_cons_zero, List.set_cons_succ]
  refine wpAnyH_take (i := 6) (v := ?_) rfl (by kernel_rfl) (by kernel_rfl) (by kernel_rfl) (fun _ _ _ h => h) (Or.inl ⟨by rfl, ?_⟩) (by assumption) ?_
  rotate_left
  · intro w hSw
    (try dsimp only at hSw)
    go_simp
    try with_reducible rfl
  try simp only [Act.put, List.setIfInBounds_toArray, List.set_cons_zero, List.set_cons_succ]
  refine wpAnyH_take (i := 7) (v := ?_) rfl (by kernel_rfl) (by kernel_rfl) (by kernel_rfl) (fun _ _ _ h => h) (Or.inl ⟨by rfl, ?_⟩) (by assumption) ?_
  rotate_left
  · intro w hSw
    (try dsimp only at hSw)
    go_simp
    try with_reducible rfl
  try simp only [Act.put, List.setIfInBounds_toArray, List.set_cons_zero, List.set_cons_succ]
  refine wpAnyH_take (i := 8) (v := ?_) rfl (by kernel_rfl) (by kernel_rfl) (by kernel_rfl) (fun _ _ _ h => h) (Or.inl ⟨by rfl, ?_⟩) (by assumption) ?_
  rotate_left
  · intro w hSw
    (try dsimp only at hSw)
    go_simp
    try with_reducible rfl
  try simp only [Act.put, List.setIfInBounds_toArray, List.set_cons_zero, List.set_cons_succ]
  refine wpAnyH_take (i := 9) (v := ?_) rfl (by kernel_rfl) (by kernel_rfl) (by kernel_rfl) (fun _ _ _ h => h) (Or.inl ⟨by rfl, ?_⟩) (by assumption) ?_
  rotate_left
  · intro w hSw
    (try dsimp only at hSw)
    go_simp
    try with_reducible rfl
  try simp only [Act.put, List.setIfInBounds_toArray, List.set_cons_zero, List.set_cons_succ]
  refine wpAnyH_take (i := 10) (v := ?_) rfl (by kernel_rfl) (by kernel_rfl) (by kernel_rfl) (fun _ _ _ h => h) (Or.inl ⟨by rfl, ?_⟩) (by assumption) ?_
  rotate_left
  · intro w hSw
    (try dsimp only at hSw)
    go_simp
    try with_reducible rfl
  try simp only [Act.put, List.setIfInBounds_toArray, List.set_cons_zero, List.set_cons_succ]
  refine wpAnyH_ready (rs := [4, 11]) (by kernel_rfl) (by simp) ?_
  refine AllReadyH.cons (i := 4) rfl (fun K hK => ?_) ?_
  · go_simp
    refine hK.out _ _ ?_ (fun hHeld => ?_)
    · (try dsimp only)
      (first | exact KEEPF.out _ (Fr.of_below _ (by first | with_reducible assumption | exact Below.drew (by with_reducible assumption) | exact Heap.Below.alloc' (by with_reducible assumption) (Nat.le_refl _) _ | exact Heap.Below.alloc' (Below.drew (by with_reducible assumption)) (Nat.le_refl _) _ | exact Below.drew (Heap.Below.alloc' (by with_reducible assumption) (Nat.le_refl _) _))) | exact KEEPF.out _ (Fr.setAt (Fr.of_below _ (by first | with_reducible assumption | exact Below.drew (by with_reducible assumption) | exact Heap.Below.alloc' (by with_reducible assumption) (Nat.le_refl _) _ | exact Heap.Below.alloc' (Below.drew (by with_reducible assumption)) (Nat.le_refl _) _ | exact Below.drew (Heap.Below.alloc' (by with_reducible assumption) (Nat.le_refl _) _))) _ _) | go_keep)
    clear hK K
    try simp only [Act.put, List.setIfInBounds_toArray, List.set_cons_zero, List.set_cons_succ]
    refine wpAnyH_ready (rs := [5, 11]) (by kernel_rfl) (by simp) ?_
    refine AllReadyH.cons (i := 5) rfl (fun K hK => ?_) ?_
    · (first | (go_split_ands; refine step_app (by rfl) (.const (.slice none 0 0)) (.tmp 23) 28 (by rfl) w1.heap.size elemPeer (.slice none 0 0) 0 [] (by rfl) (World.ownsRow_nil _ _ _ _) (.slice a T.peers.length cap) T.peers.length (T.peers.flatMap peerCells) (by rfl) ?_ HLP.out (peers_one _) (by omega) (by omega) ?_ ?_; (exact HRW.out _ (by first | with_reducible assumption | exact Below.drew (by with_reducible assumption) | exact Heap.Below.alloc' (by with_reducible assumption) (Nat.le_refl _) _ | exact Heap.Below.alloc' (Below.drew (by with_reducible assumption)) (Nat.le_refl _) _ | exact Below.drew (Heap.Below.alloc' (by with_reducible assumption) (Nat.le_refl _) _))); (exact Below.size (by first | with_reducible assumption | exact Below.drew (by with_reducible assumption) | exact Heap.Below.alloc' (by with_reducible assumption) (Nat.le_refl _) _ | exact Heap.Below.alloc' (Below.drew (by with_reducible assumption)) (Nat.le_refl _) _ | exact Below.drew (Heap.Below.alloc' (by with_reducible assumption) (Nat.le_refl _) _))); intro v1 w2 HQ1 HG1; have hba := grown_none HG1.out; have hbl2 : Below w1.heap.size w1 w2 := Heap.Below.call (by first | with_reducible assumption | exact Below.drew (by with_reducible assumption) | exact Heap.Below.alloc' (by with_reducible assumption) (Nat.le_refl _) _ | exact Heap.Below.alloc' (Below.drew (by with_reducible assumption)) (Nat.le_refl _) _ | exact Below.drew (Heap.Below.alloc' (by with_reducible assumption) (Nat.le_refl _) _)) (Nat.le_refl _) hba; obtain ⟨k2, k3, k4, k5⟩ := KEEP.out _ hbl2) | (go_split_ands; refine step_app (by rfl) (.tmp 24) (.tmp 30) 28 (by rfl) w1.heap.size elemPeer v1 (0 + T.peers.length) ([] ++ T.peers.flatMap peerCells) (by rfl) ?_ _ 1 [.int .i64 p, .string (str nm)] (by rfl) ?_ (by rfl) (peer_one ⟨p, nm⟩) (by omega) (by omega) ?_ ?_; (repeat (first | with_reducible exact HQ1.out | with_reducible refine owns_drew ?_ | with_reducible refine World.ownsRow.alloc ?_ _)); (repeat (first | ((with_reducible refine row_new3 _ _ 1 [.int .i64 p, .string (str nm)] (by decide) _ ?_); rfl) | with_reducible refine Row.drew ?_ | with_reducible refine Row.below ?_ hba)); (exact Below.size (by first | with_reducible assumption | exact Below.drew (by with_reducible assumption) | exact Heap.Below.alloc' (by with_reducible assumption) (Nat.le_refl _) _ | exact Heap.Below.alloc' (Below.drew (by with_reducible assumption)) (Nat.le_refl _) _ | exact Below.drew (Heap.Below.alloc' (by with_reducible assumption) (Nat.le_refl _) _))); intro v2 w3 HQ2 HG2; have hbl3 : Below w1.heap.size w1 w3 := Below.grown (by first | with_reducible assumption | exact Below.drew (by with_reducible assumption) | exact Heap.Below.alloc' (by with_reducible assumption) (Nat.le_refl _) _ | exact Heap.Below.alloc' (Below.drew (by with_reducible assumption)) (Nat.le_refl _) _ | exact Below.drew (Heap.Below.alloc' (by with_reducible assumption) (Nat.le_refl _) _)) HG2.out (Below.size (by first | with_reducible assumption | exact Below.drew (by with_reducible assumption) | exact Heap.Below.alloc' (by with_reducible assumption) (Nat.le_refl _) _ | exact Heap.Below.alloc' (Below.drew (by with_reducible assumption)) (Nat.le_refl _) _ | exact Below.drew (Heap.Below.alloc' (by with_reducible assumption) (Nat.le_refl _) _))) (own_le HQ1.out); obtain ⟨k6, k7, k8, k9⟩ := KEEP.out _ hbl3; obtain ⟨va, vc, hv⟩ := own_form HQ2.out; subst hv))
      refine hK.out _ _ ?_ (fun hHeld => ?_)
      · (try dsimp only)
        (first | exact KEEPF.out _ (Fr.of_below _ (by first | with_reducible assumption | exact Below.drew (by with_reducible assumption) | exact Heap.Below.alloc' (by with_reducible assumption) (Nat.le_refl _) _ | exact Heap.Below.alloc' (Below.drew (by with_reducible assumption)) (Nat.le_refl _) _ | exact Below.drew (Heap.Below.alloc' (by with_reducible assumption) (Nat.le_refl _) _))) | exact KEEPF.out _ (Fr.setAt (Fr.of_below _ (by first | with_reducible assumption | exact Below.drew (by with_reducible assumption) | exact Heap.Below.alloc' (by with_reducible assumption) (Nat.le_refl _) _ | exact Heap.Below.alloc' (Below.drew (by with_reducible assumption)) (Nat.le_refl _) _ | exact Below.drew (Heap.Below.alloc' (by with_reducible assumption) (Nat.le_refl _) _))) _ _) | go_keep)
      clear hK K
      try simp only [Act.put, List.setIfInBounds_toArray, List.set_cons_zero, List.set_cons_succ]
      refine wpAnyH_ready (rs := [11]) (by kernel_rfl) (by simp) ?_
      refine AllReadyH.cons (i := 11) rfl (fun K hK => ?_) ?_
      · go_simp
        refine hK.out _ _ ?_ (fun hHeld => ?_)
        · (try dsimp only)
          (first | exact KEEPF.out _ (Fr.of_below _ (by first | with_reducible assumption | exact Below.drew (by with_reducible assumption) | exact Heap.Below.alloc' (by with_reducible assumption) (Nat.le_refl _) _ | exact Heap.Below.alloc' (Below.drew (by with_reducible assumption)) (Nat.le_refl _) _ | exact Below.drew (Heap.Below.alloc' (by with_reducible assumption) (Nat.le_refl _) _))) | exact KEEPF.out _ (Fr.setAt (Fr.of_below _ (by first | with_reducible assumption | exact Below.drew (by with_reducible assumption) | exact Heap.Below.alloc' (by with_reducible assumption) (Nat.le_refl _) _ | exact Heap.Below.alloc' (Below.drew (by with_reducible assumption)) (Nat.le_refl _) _ | exact Below.drew (Heap.Below.alloc' (by with_reducible assumption) (Nat.le_refl _) _))) _ _) | go_keep)
        clear hK K
        try simp only [Act.put, List.setIfInBounds_toArray, List.set_cons_zero, List.set_cons_succ]
        refine wpAnyH_ready (rs := [12]) (by kernel_rfl) (by simp) ?_
        refine AllReadyH.cons (i := 12) rfl (fun K hK => ?_) ?_
        · (first | (go_split_ands; refine step_app (by rfl) (.const (.slice none 0 0)) (.tmp 23) 28 (by rfl) w1.heap.size elemPeer (.slice none 0 0) 0 [] (by rfl) (World.ownsRow_nil _ _ _ _) (.slice a T.peers.length cap) T.peers.length (T.peers.flatMap peerCells) (by rfl) ?_ HLP.out (peers_one _) (by omega) (by omega) ?_ ?_; (exact HRW.out _ (by first | with_reducible assumption | exact Below.drew (by with_reducible assumption) | exact Heap.Below.alloc' (by with_reducible assumption) (Nat.le_refl _) _ | exact Heap.Below.alloc' (Below.drew (by with_reducible assumption)) (Nat.le_refl _) _ | exact Below.drew (Heap.Below.alloc' (by with_reducible assumption) (Nat.le_refl _) _))); (exact Below.size (by first | with_reducible assumption | exact Below.drew (by with_reducible assumption) | exact Heap.Below.alloc' (by with_reducible assumption) (Nat.le_refl _) _ | exact Heap.Below.alloc' (Below.drew (by with_reducible assumption)) (Nat.le_refl _) _ | exact Below.drew (Heap.Below.alloc' (by with_reducible assumption) (Nat.le_refl _) _))); intro v1 w2 HQ1 HG1; have hba := grown_none HG1.out; have hbl2 : Below w1.heap.size w1 w2 := Heap.Below.call (by first | with_reducible assumption | exact Below.drew (by with_reducible assumption) | exact Heap.Below.alloc' (by with_reducible assumption) (Nat.le_refl _) _ | exact Heap.Below.alloc' (Below.drew (by with_reducible assumption)) (Nat.le_refl _) _ | exact Below.drew (Heap.Below.alloc' (by with_reducible assumption) (Nat.le_refl _) _)) (Nat.le_refl _) hba; obtain ⟨k2, k3, k4, k5⟩ := KEEP.out _ hbl2) | (go_split_ands; refine step_app (by rfl) (.tmp 24) (.tmp 30) 28 (by rfl) w1.heap.size elemPeer v1 (0 + T.peers.length) ([] ++ T.peers.flatMap peerCells) (by rfl) ?_ _ 1 [.int .i64 p, .string (str nm)] (by rfl) ?_ (by rfl) (peer_one ⟨p, nm⟩) (by omega) (by omega) ?_ ?_; (repeat (first | with_reducible exact HQ1.out | with_reducible refine owns_drew ?_ | with_reducible refine World.ownsRow.alloc ?_ _)); (repeat (first | ((with_reducible refine row_new3 _ _ 1 [.int .i64 p, .string (str nm)] (by decide) _ ?_); rfl) | with_reducible refine Row.drew ?_ | with_reducible refine Row.below ?_ hba)); (exact Below.size (by first | with_reducible assumption | exact Below.drew (by with_reducible assumption) | exact Heap.Below.alloc' (by with_reducible assumption) (Nat.le_refl _) _ | exact Heap.Below.alloc' (Below.drew (by with_reducible assumption)) (Nat.le_refl _) _ | exact Below.drew (Heap.Below.alloc' (by with_reducible assumption) (Nat.le_refl _) _))); intro v2 w3 HQ2 HG2; have hbl3 : Below w1.heap.size w1 w3 := Below.grown (by first | with_reducible assumption | exact Below.drew (by with_reducible assumption) | exact Heap.Below.alloc' (by with_reducible assumption) (Nat.le_refl _) _ | exact Heap.Below.alloc' (Below.drew (by with_reducible assumption)) (Nat.le_refl _) _ | exact Below.drew (Heap.Below.alloc' (by with_reducible assumption) (Nat.le_refl _) _)) HG2.out (Below.size (by first | with_reducible assumption | exact Below.drew (by with_reducible assumption) | exact Heap.Below.alloc' (by with_reducible assumption) (Nat.le_refl _) _ | exact Heap.Below.alloc' (Below.drew (by with_reducible assumption)) (Nat.le_refl _) _ | exact Below.drew (Heap.Below.alloc' (by with_reducible assumption) (Nat.le_refl _) _))) (own_le HQ1.out); obtain ⟨k6, k7, k8, k9⟩ := KEEP.out _ hbl3; obtain ⟨va, vc, hv⟩ := own_form HQ2.out; subst hv))
          refine hK.out _ _ ?_ (fun hHeld => ?_)
          · (try dsimp only)
            (first | exact KEEPF.out _ (Fr.of_below _ (by first | with_reducible assumption | exact Below.drew (by with_reducible assumption) | exact Heap.Below.alloc' (by with_reducible assumption) (Nat.le_refl _) _ | exact Heap.Below.alloc' (Below.drew (by with_reducible assumption)) (Nat.le_refl _) _ | exact Below.drew (Heap.Below.alloc' (by with_reducible assumption) (Nat.le_refl _) _))) | exact KEEPF.out _ (Fr.setAt (Fr.of_below _ (by first | with_reducible assumption | exact Below.drew (by with_reducible assumption) | exact Heap.Below.alloc' (by with_reducible assumption) (Nat.le_refl _) _ | exact Heap.Below.alloc' (Below.drew (by with_reducible assumption)) (Nat.le_refl _) _ | exact Below.drew (Heap.Below.alloc' (by with_reducible assumption) (Nat.le_refl _) _))) _ _) | go_keep)
          clear hK K
          try simp only [Act.put, List.setIfInBounds_toArray, List.set_cons_zero, List.set_cons_succ]
          refine wpAnyH_take (i := 13) (v := ?_) rfl (by kernel_rfl) (by kernel_rfl) (by kernel_rfl) (fun _ _ _ h => h) (Or.inl ⟨by rfl, ?_⟩) (by assumption) ?_
          rotate_left
          · intro w hSw
            (try dsimp only at hSw)
            go_simp
            try with_reducible rfl
          try simp only [Act.put, List.setIfInBounds_toArray, List.set_cons_zero, List.set_cons_succ]
          refine wpAnyH_take (i := 14) (v := ?_) rfl (by kernel_rfl) (by kernel_rfl) (by kernel_rfl) (fun _ _ _ h => h) (Or.inl ⟨by rfl, ?_⟩) (by assumption) ?_
          rotate_left
          · intro w hSw
            (try dsimp only at hSw)
            go_simp
            try with_reducible rfl
          try simp only [Act.put, List.setIfInBounds_toArray, List.set_cons_zero, List.set_cons_succ]
          refine wpAnyH_ready (rs := [15]) (by kernel_rfl) (by simp) ?_
          refine AllReadyH.cons (i := 15) rfl (fun K hK => ?_) ?_
          · go_simp
            refine hK.out _ _ ?_ (fun hHeld => ?_)
            · (try dsimp only)
              (first | exact KEEPF.out _ (Fr.of_below _ (by first | with_reducible assumption | exact Below.drew (by with_reducible assumption) | exact Heap.Below.alloc' (by with_reducible assumption) (Nat.le_refl _) _ | exact Heap.Below.alloc' (Below.drew (by with_reducible assumption)) (Nat.le_refl _) _ | exact Below.drew (Heap.Below.alloc' (by with_reducible assumption) (Nat.le_refl _) _))) | exact KEEPF.out _ (Fr.setAt (Fr.of_below _ (by first | with_reducible assumption | exact Below.drew (by with_reducible assumption) | exact Heap.Below.alloc' (by with_reducible assumption) (Nat.le_refl _) _ | exact Heap.Below.alloc' (Below.drew (by with_reducible assumption)) (Nat.le_refl _) _ | exact Below.drew (Heap.Below.alloc' (by with_reducible assumption) (Nat.le_refl _) _))) _ _) | go_keep)
            clear hK K
            try simp only [Act.put, List.setIfInBounds_toArray, List.set_cons_zero, List.set_cons_succ]
            refine wpAnyH_done (by kernel_rfl) ?_ _
            refine NoPanic.normal ?_
            go_wp2
            go_ret2
            obtain ⟨hr3, hf3⟩ := HRF.out _ hbl3
            have hrow := Row.of_owns HQ2.out
            rw [List.nil_append, Nat.zero_add] at hrow
            have hr4 := hr3.setPeers (l := T.peers ++ [⟨p, nm⟩]) (by rw [show (T.peers ++ [(⟨p, nm⟩ : TPeer)]).flatMap peerCells = T.peers.flatMap peerCells ++ [.int .i64 p, .string (str nm)] by rw [List.flatMap_append]; rfl, show (T.peers ++ [(⟨p, nm⟩ : TPeer)]).length = T.peers.length + 1 by simp]; exact hrow)
            exact rdoPost_mk HF (Row.nil _ _) hr4 (hf3.setAt _ _)
          exact AllReadyH.nil
        exact AllReadyH.nil
      exact AllReadyH.nil
    refine AllReadyH.cons (i := 11) rfl (fun K hK => ?_) ?_
    · go_simp
      refine hK.out _ _ ?_ (fun hHeld => ?_)
      · (try dsimp only)
        (first | exact KEEPF.out _ (Fr.of_below _ (by first | with_reducible assumption | exact Below.drew (by with_reducible assumption) | exact Heap.Below.alloc' (by with_reducible assumption) (Nat.le_refl _) _ | exact Heap.Below.alloc' (Below.drew (by with_reducible assumption)) (Nat.le_refl _) _ | exact Below.drew (Heap.Below.alloc' (by with_reducible assumption) (Nat.le_refl _) _))) | exact KEEPF.out _ (Fr.setAt (Fr.of_below _ (by first | with_reducible assumption | exact Below.drew (by with_reducible assumption) | exact Heap.Below.alloc' (by with_reducible assumption) (Nat.le_refl _) _ | exact Heap.Below.alloc' (Below.drew (by with_reducible assumption)) (Nat.le_refl _) _ | exact Below.drew (Heap.Below.alloc' (by with_reducible assumption) (Nat.le_refl _) _))) _ _) | go_keep)
      clear hK K
      try simp only [Act.put, List.setIfInBounds_toArray, List.set_cons_zero, List.set_cons_succ]
      refine wpAnyH_ready (rs := [5]) (by kernel_rfl) (by simp) ?_
      refine AllReadyH.cons (i := 5) rfl (fun K hK => ?_) ?_
      · (first | (go_split_ands; refine step_app (by rfl) (.const (.slice none 0 0)) (.tmp 23) 28 (by rfl) w1.heap.size elemPeer (.slice none 0 0) 0 [] (by rfl) (World.ownsRow_nil _ _ _ _) (.slice a T.peers.length cap) T.peers.length (T.peers.flatMap peerCells) (by rfl) ?_ HLP.out (peers_one _) (by omega) (by omega) ?_ ?_; (exact HRW.out _ (by first | with_reducible assumption | exact Below.drew (by with_reducible assumption) | exact Heap.Below.alloc' (by with_reducible assumption) (Nat.le_refl _) _ | exact Heap.Below.alloc' (Below.drew (by with_reducible assumption)) (Nat.le_refl _) _ | exact Below.drew (Heap.Below.alloc' (by with_reducible assumption) (Nat.le_refl _) _))); (exact Below.size (by first | with_reducible assumption | exact Below.drew (by with_reducible assumption) | exact Heap.Below.alloc' (by with_reducible assumption) (Nat.le_refl _) _ | exact Heap.Below.alloc' (Below.drew (by with_reducible assumption)) (Nat.le_refl _) _ | exact Below.drew (Heap.Below.alloc' (by with_reducible assumption) (Nat.le_refl _) _))); intro v1 w2 HQ1 HG1; have hba := grown_none HG1.out; have hbl2 : Below w1.heap.size w1 w2 := Heap.Below.call (by first | with_reducible assumption | exact Below.drew (by with_reducible assumption) | exact Heap.Below.alloc' (by with_reducible assumption) (Nat.le_refl _) _ | exact Heap.Below.alloc' (Below.drew (by with_reducible assumption)) (Nat.le_refl _) _ | exact Below.drew (Heap.Below.alloc' (by with_reducible assumption) (Nat.le_refl _) _)) (Nat.le_refl _) hba; obtain ⟨k2, k3, k4, k5⟩ := KEEP.out _ hbl2) | (go_split_ands; refine step_app (by rfl) (.tmp 24) (.tmp 30) 28 (by rfl) w1.heap.size elemPeer v1 (0 + T.peers.length) ([] ++ T.peers.flatMap peerCells) (by rfl) ?_ _ 1 [.int .i64 p, .string (str nm)] (by rfl) ?_ (by rfl) (peer_one ⟨p, nm⟩) (by omega) (by omega) ?_ ?_; (repeat (first | with_reducible exact HQ1.out | with_reducible refine owns_drew ?_ | with_reducible refine World.ownsRow.alloc ?_ _)); (repeat (first | ((with_reducible refine row_new3 _ _ 1 [.int .i64 p, .string (str nm)] (by decide) _ ?_); rfl) | with_reducible refine Row.drew ?_ | with_reducible refine Row.below ?_ hba)); (exact Below.size (by first | with_reducible assumption | exact Below.drew (by with_reducible assumption) | exact Heap.Below.alloc' (by with_reducible assumption) (Nat.le_refl _) _ | exact Heap.Below.alloc' (Below.drew (by with_reducible assumption)) (Nat.le_refl _) _ | exact Below.drew (Heap.Below.alloc' (by with_reducible assumption) (Nat.le_refl _) _))); intro v2 w3 HQ2 HG2; have hbl3 : Below w1.heap.size w1 w3 := Below.grown (by first | with_reducible assumption | exact Below.drew (by with_reducible assumption) | exact Heap.Below.alloc' (by with_reducible assumption) (Nat.le_refl _) _ | exact Heap.Below.alloc' (Below.drew (by with_reducible assumption)) (Nat.le_refl _) _ | exact Below.drew (Heap.Below.alloc' (by with_reducible assumption) (Nat.le_refl _) _)) HG2.out (Below.size (by first | with_reducible assumption | exact Below.drew (by with_reducible assumption) | exact Heap.Below.alloc' (by with_reducible assumption) (Nat.le_refl _) _ | exact Heap.Below.alloc' (Below.drew (by with_reducible assumption)) (Nat.le_refl _) _ | exact Below.drew (Heap.Below.alloc' (by with_reducible assumption) (Nat.le_refl _) _))) (own_le HQ1.out); obtain ⟨k6, k7, k8, k9⟩ := KEEP.out _ hbl3; obtain ⟨va, vc, hv⟩ := own_form HQ2.out; subst hv))
        refine hK.out _ _ ?_ (fun hHeld => ?_)
        · (try dsimp only)
          (first | exact KEEPF.out _ (Fr.of_below _ (by first | with_reducible assumption | exact Below.drew (by with_reducible assumption) | exact Heap.Below.alloc' (by with_reducible assumption) (Nat.le_refl _) _ | exact Heap.Below.alloc' (Below.drew (by with_reducible assumption)) (Nat.le_refl _) _ | exact Below.drew (Heap.Below.alloc' (by with_reducible assumption) (Nat.le_refl _) _))) | exact KEEPF.out _ (Fr.setAt (Fr.of_below _ (by first | with_reducible assumption | exact Below.drew (by with_reducible assumption) | exact Heap.Below.alloc' (by with_reducible assumption) (Nat.le_refl _) _ | exact Heap.Below.alloc' (Below.drew (by with_reducible assumption)) (Nat.le_refl _) _ | exact Below.drew (Heap.Below.alloc' (by with_reducible assumption) (Nat.le_refl _) _))) _ _) | go_keep)
        clear hK K
        try simp only [Act.put, List.setIfInBounds_toArray, List.set_cons_zero, List.set_cons_succ]
        refine wpAnyH_ready (rs := [12]) (by kernel_rfl) (by simp) ?_
        refine AllReadyH.cons (i := 12) rfl (fun K hK => ?_) ?_
        · (first | (go_split_ands; refine step_app (by rfl) (.const (.slice none 0 0)) (.tmp 23) 28 (by rfl) w1.heap.size elemPeer (.slice none 0 0) 0 [] (by rfl) (World.ownsRow_nil _ _ _ _) (.slice a T.peers.length cap) T.peers.length (T.peers.flatMap peerCells) (by rfl) ?_ HLP.out (peers_one _) (by omega) (by omega) ?_ ?_; (exact HRW.out _ (by first | with_reducible assumption | exact Below.drew (by with_reducible assumption) | exact Heap.Below.alloc' (by with_reducible assumption) (Nat.le_refl _) _ | exact Heap.Below.alloc' (Below.drew (by with_reducible assumption)) (Nat.le_refl _) _ | exact Below.drew (Heap.Below.alloc' (by with_reducible assumption) (Nat.le_refl _) _))); (exact Below.size (by first | with_reducible assumption | exact Below.drew (by with_reducible assumption) | exact Heap.Below.alloc' (by with_reducible assumption) (Nat.le_refl _) _ | exact Heap.Below.alloc' (Below.drew (by with_reducible assumption)) (Nat.le_refl _) _ | exact Below.drew (Heap.Below.alloc' (by with_reducible assumption) (Nat.le_refl _) _))); intro v1 w2 HQ1 HG1; have hba := grown_none HG1.out; have hbl2 : Below w1.heap.size w1 w2 := Heap.Below.call (by first | with_reducible assumption | exact Below.drew (by with_reducible assumption) | exact Heap.Below.alloc' (by with_reducible assumption) (Nat.le_refl _) _ | exact Heap.Below.alloc' (Below.drew (by with_reducible assumption)) (Nat.le_refl _) _ | exact Below.drew (Heap.Below.alloc' (by with_reducible assumption) (Nat.le_refl _) _)) (Nat.le_refl _) hba; obtain ⟨k2, k3, k4, k5⟩ := KEEP.out _ hbl2) | (go_split_ands; refine step_app (by rfl) (.tmp 24) (.tmp 30) 28 (by rfl) w1.heap.size elemPeer v1 (0 + T.peers.length) ([] ++ T.peers.flatMap peerCells) (by rfl) ?_ _ 1 [.int .i64 p, .string (str nm)] (by rfl) ?_ (by rfl) (peer_one ⟨p, nm⟩) (by omega) (by omega) ?_ ?_; (repeat (first | with_reducible exact HQ1.out | with_reducible refine owns_drew ?_ | with_reducible refine World.ownsRow.alloc ?_ _)); (repeat (first | ((with_reducible refine row_new3 _ _ 1 [.int .i64 p, .string (str nm)] (by decide) _ ?_); rfl) | with_reducible refine Row.drew ?_ | with_reducible refine Row.below ?_ hba)); (exact Below.size (by first | with_reducible assumption | exact Below.drew (by with_reducible assumption) | exact Heap.Below.alloc' (by with_reducible assumption) (Nat.le_refl _) _ | exact Heap.Below.alloc' (Below.drew (by with_reducible assumption)) (Nat.le_refl _) _ | exact Below.drew (Heap.Below.alloc' (by with_reducible assumption) (Nat.le_refl _) _))); intro v2 w3 HQ2 HG2; have hbl3 : Below w1.heap.size w1 w3 := Below.grown (by first | with_reducible assumption | exact Below.drew (by with_reducible assumption) | exact Heap.Below.alloc' (by with_reducible assumption) (Nat.le_refl _) _ | exact Heap.Below.alloc' (Below.drew (by with_reducible assumption)) (Nat.le_refl _) _ | exact Below.drew (Heap.Below.alloc' (by with_reducible assumption) (Nat.le_refl _) _)) HG2.out (Below.size (by first | with_reducible assumption | exact Below.drew (by with_reducible assumption) | exact Heap.Below.alloc' (by with_reducible assumption) (Nat.le_refl _) _ | exact Heap.Below.alloc' (Below.drew (by with_reducible assumption)) (Nat.le_refl _) _ | exact Below.drew (Heap.Below.alloc' (by with_reducible assumption) (Nat.le_refl _) _))) (own_le HQ1.out); obtain ⟨k6, k7, k8, k9⟩ := KEEP.out _ hbl3; obtain ⟨va, vc, hv⟩ := own_form HQ2.out; subst hv))
          refine hK.out _ _ ?_ (fun hHeld => ?_)
          · (try dsimp only)
            (first | exact KEEPF.out _ (Fr.of_below _ (by first | with_reducible assumption | exact Below.drew (by with_reducible assumption) | exact Heap.Below.alloc' (by with_reducible assumption) (Nat.le_refl _) _ | exact Heap.Below.alloc' (Below.drew (by with_reducible assumption)) (Nat.le_refl _) _ | exact Below.drew (Heap.Below.alloc' (by with_reducible assumption) (Nat.le_refl _) _))) | exact KEEPF.out _ (Fr.setAt (Fr.of_below _ (by first | with_reducible assumption | exact Below.drew (by with_reducible assumption) | exact Heap.Below.alloc' (by with_reducible assumption) (Nat.le_refl _) _ | exact Heap.Below.alloc' (Below.drew (by with_reducible assumption)) (Nat.le_refl _) _ | exact Below.drew (Heap.Below.alloc' (by with_reducible assumption) (Nat.le_refl _) _))) _ _) | go_keep)
          clear hK K
          try simp only [Act.put, List.setIfInBounds_toArray, List.set_cons_zero, List.set_cons_succ]
          refine wpAnyH_take (i := 13) (v := ?_) rfl (by kernel_rfl) (by kernel_rfl) (by kernel_rfl) (fun _ _ _ h => h) (Or.inl ⟨by rfl, ?_⟩) (by assumption) ?_
          rotate_left
          · intro w hSw
            (try dsimp only at hSw)
            go_simp
            try with_reducible rfl
          try simp only [Act.put, List.setIfInBounds_toArray, List.set_cons_zero, List.set_cons_succ]
          refine wpAnyH_take (i := 14) (v := ?_) rfl (by kernel_rfl) (by kernel_rfl) (by kernel_rfl) (fun _ _ _ h => h) (Or.inl ⟨by rfl, ?_⟩) (by assumption) ?_
          rotate_left
          · intro w hSw
            (try dsimp only at hSw)
            go_simp
            try with_reducible rfl
          try simp only [Act.put, List.setIfInBounds_toArray, List.set_cons_zero, List.set_cons_succ]
          refine wpAnyH_ready (rs := [15]) (by kernel_rfl) (by simp) ?_
          refine AllReadyH.cons (i := 15) rfl (fun K hK => ?_) ?_
          · go_simp
            refine hK.out _ _ ?_ (fun hHeld => ?_)
            · (try dsimp only)
              (first | exact KEEPF.out _ (Fr.of_below _ (by first | with_reducible assumption | exact Below.drew (by with_reducible assumption) | exact Heap.Below.alloc' (by with_reducible assumption) (Nat.le_refl _) _ | exact Heap.Below.alloc' (Below.drew (by with_reducible assumption)) (Nat.le_refl _) _ | exact Below.drew (Heap.Below.alloc' (by with_reducible assumption) (Nat.le_refl _) _))) | exact KEEPF.out _ (Fr.setAt (Fr.of_below _ (by first | with_reducible assumption | exact Below.drew (by with_reducible assumption) | exact Heap.Below.alloc' (by with_reducible assumption) (Nat.le_refl _) _ | exact Heap.Below.alloc' (Below.drew (by with_reducible assumption)) (Nat.le_refl _) _ | exact Below.drew (Heap.Below.alloc' (by with_reducible assumption) (Nat.le_refl _) _))) _ _) | go_keep)
            clear hK K
            try simp only [Act.put, List.setIfInBounds_toArray, List.set_cons_zero, List.set_cons_succ]
            refine wpAnyH_done (by kernel_rfl) ?_ _
            refine NoPanic.normal ?_
            go_wp2
            go_ret2
            obtain ⟨hr3, hf3⟩ := HRF.out _ hbl3
            have hrow := Row.of_owns HQ2.out
            rw [List.nil_append, Nat.zero_add] at hrow
            have hr4 := hr3.setPeers (l := T.peers ++ [⟨p, nm⟩]) (by rw [show (T.peers ++ [(⟨p, nm⟩ : TPeer)]).flatMap peerCells = T.peers.flatMap peerCells ++ [.int .i64 p, .string (str nm)] by rw [List.flatMap_append]; rfl, show (T.peers ++ [(⟨p, nm⟩ : TPeer)]).length = T.peers.length + 1 by simp]; exact hrow)
            exact rdoPost_mk HF (Row.nil _ _) hr4 (hf3.setAt _ _)
          exact AllReadyH.nil
        exact AllReadyH.nil
      exact AllReadyH.nil
    exact AllReadyH.nil
  refine AllReadyH.cons (i := 11) rfl (fun K hK => ?_) ?_
  · go_simp
    refine hK.out _ _ ?_ (fun hHeld => ?_)
    · (try dsimp only)
      (first | exact KEEPF.out _ (Fr.of_below _ (by first | with_reducible assumption | exact Below.drew (by with_reducible assumption) | exact Heap.Below.alloc' (by with_reducible assumption) (Nat.le_refl _) _ | exact Heap.Below.alloc' (Below.drew (by with_reducible assumption)) (Nat.le_refl _) _ | exact Below.drew (Heap.Below.alloc' (by with_reducible assumption) (Nat.le_refl _) _))) | exact KEEPF.out _ (Fr.setAt (Fr.of_below _ (by first | with_reducible assumption | exact Below.drew (by with_reducible assumption) | exact Heap.Below.alloc' (by with_reducible assumption) (Nat.le_refl _) _ | exact Heap.Below.alloc' (Below.drew (by with_reducible assumption)) (Nat.le_refl _) _ | exact Below.drew (Heap.Below.alloc' (by with_reducible assumption) (Nat.le_refl _) _))) _ _) | go_keep)
    clear hK K
    try simp only [Act.put, List.setIfInBounds_toArray, List.set_cons_zero, List.set_cons_succ]
    refine wpAnyH_ready (rs := [4]) (by kernel_rfl) (by simp) ?_
    refine AllReadyH.cons (i := 4) rfl (fun K hK => ?_) ?_
    · go_simp
      refine hK.out _ _ ?_ (fun hHeld => ?_)
      · (try dsimp only)
        (first | exact KEEPF.out _ (Fr.of_below _ (by first | with_reducible assumption | exact Below.drew (by with_reducible assumption) | exact Heap.Below.alloc' (by with_reducible assumption) (Nat.le_refl _) _ | exact Heap.Below.alloc' (Below.drew (by with_reducible assumption)) (Nat.le_refl _) _ | exact Below.drew (Heap.Below.alloc' (by with_reducible assumption) (Nat.le_refl _) _))) | exact KEEPF.out _ (Fr.setAt (Fr.of_below _ (by first | with_reducible assumption | exact Below.drew (by with_reducible assumption) | exact Heap.Below.alloc' (by with_reducible assumption) (Nat.le_refl _) _ | exact Heap.Below.alloc' (Below.drew (by with_reducible assumption)) (Nat.le_refl _) _ | exact Below.drew (Heap.Below.alloc' (by with_reducible assumption) (Nat.le_refl _) _))) _ _) | go_keep)
      clear hK K
      try simp only [Act.put, List.setIfInBounds_toArray, List.set_cons_zero, List.set_cons_succ]
      refine wpAnyH_ready (rs := [5]) (by kernel_rfl) (by simp) ?_
      refine AllReadyH.cons (i := 5) rfl (fun K hK => ?_) ?_
      · (first | (go_split_ands; refine step_app (by rfl) (.const (.slice none 0 0)) (.tmp 23) 28 (by rfl) w1.heap.size elemPeer (.slice none 0 0) 0 [] (by rfl) (World.ownsRow_nil _ _ _ _) (.slice a T.peers.length cap) T.peers.length (T.peers.flatMap peerCells) (by rfl) ?_ HLP.out (peers_one _) (by omega) (by omega) ?_ ?_; (exact HRW.out _ (by first | with_reducible assumption | exact Below.drew (by with_reducible assumption) | exact Heap.Below.alloc' (by with_reducible assumption) (Nat.le_refl _) _ | exact Heap.Below.alloc' (Below.drew (by with_reducible assumption)) (Nat.le_refl _) _ | exact Below.drew (Heap.Below.alloc' (by with_reducible assumption) (Nat.le_refl _) _))); (exact Below.size (by first | with_reducible assumption | exact Below.drew (by with_reducible assumption) | exact Heap.Below.alloc' (by with_reducible assumption) (Nat.le_refl _) _ | exact Heap.Below.alloc' (Below.drew (by with_reducible assumption)) (Nat.le_refl _) _ | exact Below.drew (Heap.Below.alloc' (by with_reducible assumption) (Nat.le_refl _) _))); intro v1 w2 HQ1 HG1; have hba := grown_none HG1.out; have hbl2 : Below w1.heap.size w1 w2 := Heap.Below.call (by first | with_reducible assumption | exact Below.drew (by with_reducible assumption) | exact Heap.Below.alloc' (by with_reducible assumption) (Nat.le_refl _) _ | exact Heap.Below.alloc' (Below.drew (by with_reducible assumption)) (Nat.le_refl _) _ | exact Below.drew (Heap.Below.alloc' (by with_reducible assumption) (Nat.le_refl _) _)) (Nat.le_refl _) hba; obtain ⟨k2, k3, k4, k5⟩ := KEEP.out _ hbl2) | (go_split_ands; refine step_app (by rfl) (.tmp 24) (.tmp 30) 28 (by rfl) w1.heap.size elemPeer v1 (0 + T.peers.length) ([] ++ T.peers.flatMap peerCells) (by rfl) ?_ _ 1 [.int .i64 p, .string (str nm)] (by rfl) ?_ (by rfl) (peer_one ⟨p, nm⟩) (by omega) (by omega) ?_ ?_; (repeat (first | with_reducible exact HQ1.out | with_reducible refine owns_drew ?_ | with_reducible refine World.ownsRow.alloc ?_ _)); (repeat (first | ((with_reducible refine row_new3 _ _ 1 [.int .i64 p, .string (str nm)] (by decide) _ ?_); rfl) | with_reducible refine Row.drew ?_ | with_reducible refine Row.below ?_ hba)); (exact Below.size (by first | with_reducible assumption | exact Below.drew (by with_reducible assumption) | exact Heap.Below.alloc' (by with_reducible assumption) (Nat.le_refl _) _ | exact Heap.Below.alloc' (Below.drew (by with_reducible assumption)) (Nat.le_refl _) _ | exact Below.drew (Heap.Below.alloc' (by with_reducible assumption) (Nat.le_refl _) _))); intro v2 w3 HQ2 HG2; have hbl3 : Below w1.heap.size w1 w3 := Below.grown (by first | with_reducible assumption | exact Below.drew (by with_reducible assumption) | exact Heap.Below.alloc' (by with_reducible assumption) (Nat.le_refl _) _ | exact Heap.Below.alloc' (Below.drew (by with_reducible assumption)) (Nat.le_refl _) _ | exact Below.drew (Heap.Below.alloc' (by with_reducible assumption) (Nat.le_refl _) _)) HG2.out (Below.size (by first | with_reducible assumption | exact Below.drew (by with_reducible assumption) | exact Heap.Below.alloc' (by with_reducible assumption) (Nat.le_refl _) _ | exact Heap.Below.alloc' (Below.drew (by with_reducible assumption)) (Nat.le_refl _) _ | exact Below.drew (Heap.Below.alloc' (by with_reducible assumption) (Nat.le_refl _) _))) (own_le HQ1.out); obtain ⟨k6, k7, k8, k9⟩ := KEEP.out _ hbl3; obtain ⟨va, vc, hv⟩ := own_form HQ2.out; subst hv))
        refine hK.out _ _ ?_ (fun hHeld => ?_)
        · (try dsimp only)
          (first | exact KEEPF.out _ (Fr.of_below _ (by first | with_reducible assumption | exact Below.drew (by with_reducible assumption) | exact Heap.Below.alloc' (by with_reducible assumption) (Nat.le_refl _) _ | exact Heap.Below.alloc' (Below.drew (by with_reducible assumption)) (Nat.le_refl _) _ | exact Below.drew (Heap.Below.alloc' (by with_reducible assumption) (Nat.le_refl _) _))) | exact KEEPF.out _ (Fr.setAt (Fr.of_below _ (by first | with_reducible assumption | exact Below.drew (by with_reducible assumption) | exact Heap.Below.alloc' (by with_reducible assumption) (Nat.le_refl _) _ | exact Heap.Below.alloc' (Below.drew (by with_reducible assumption)) (Nat.le_refl _) _ | exact Below.drew (Heap.Below.alloc' (by with_reducible assumption) (Nat.le_refl _) _))) _ _) | go_keep)
        clear hK K
        try simp only [Act.put, List.setIfInBounds_toArray, List.set_cons_zero, List.set_cons_succ]
        refine wpAnyH_ready (rs := [12]) (by kernel_rfl) (by simp) ?_
        refine AllReadyH.cons (i := 12) rfl (fun K hK => ?_) ?_
        · (first | (go_split_ands; refine step_app (by rfl) (.const (.slice none 0 0)) (.tmp 23) 28 (by rfl) w1.heap.size elemPeer (.slice none 0 0) 0 [] (by rfl) (World.ownsRow_nil _ _ _ _) (.slice a T.peers.length cap) T.peers.length (T.peers.flatMap peerCells) (by rfl) ?_ HLP.out (peers_one _) (by omega) (by omega) ?_ ?_; (exact HRW.out _ (by first | with_reducible assumption | exact Below.drew (by with_reducible assumption) | exact Heap.Below.alloc' (by with_reducible assumption) (Nat.le_refl _) _ | exact Heap.Below.alloc' (Below.drew (by with_reducible assumption)) (Nat.le_refl _) _ | exact Below.drew (Heap.Below.alloc' (by with_reducible assumption) (Nat.le_refl _) _))); (exact Below.size (by first | with_reducible assumption | exact Below.drew (by with_reducible assumption) | exact Heap.Below.alloc' (by with_reducible assumption) (Nat.le_refl _) _ | exact Heap.Below.alloc' (Below.drew (by with_reducible assumption)) (Nat.le_refl _) _ | exact Below.drew (Heap.Below.alloc' (by with_reducible assumption) (Nat.le_refl _) _))); intro v1 w2 HQ1 HG1; have hba := grown_none HG1.out; have hbl2 : Below w1.heap.size w1 w2 := Heap.Below.call (by first | with_reducible assumption | exact Below.drew (by with_reducible assumption) | exact Heap.Below.alloc' (by with_reducible assumption) (Nat.le_refl _) _ | exact Heap.Below.alloc' (Below.drew (by with_reducible assumption)) (Nat.le_refl _) _ | exact Below.drew (Heap.Below.alloc' (by with_reducible assumption) (Nat.le_refl _) _)) (Nat.le_refl _) hba; obtain ⟨k2, k3, k4, k5⟩ := KEEP.out _ hbl2) | (go_split_ands; refine step_app (by rfl) (.tmp 24) (.tmp 30) 28 (by rfl) w1.heap.size elemPeer v1 (0 + T.peers.length) ([] ++ T.peers.flatMap peerCells) (by rfl) ?_ _ 1 [.int .i64 p, .string (str nm)] (by rfl) ?_ (by rfl) (peer_one ⟨p, nm⟩) (by omega) (by omega) ?_ ?_; (repeat (first | with_reducible exact HQ1.out | with_reducible refine owns_drew ?_ | with_reducible refine World.ownsRow.alloc ?_ _)); (repeat (first | ((with_reducible refine row_new3 _ _ 1 [.int .i64 p, .string (str nm)] (by decide) _ ?_); rfl) | with_reducible refine Row.drew ?_ | with_reducible refine Row.below ?_ hba)); (exact Below.size (by first | with_reducible assumption | exact Below.drew (by with_reducible assumption) | exact Heap.Below.alloc' (by with_reducible assumption) (Nat.le_refl _) _ | exact Heap.Below.alloc' (Below.drew (by with_reducible assumption)) (Nat.le_refl _) _ | exact Below.drew (Heap.Below.alloc' (by with_reducible assumption) (Nat.le_refl _) _))); intro v2 w3 HQ2 HG2; have hbl3 : Below w1.heap.size w1 w3 := Below.grown (by first | with_reducible assumption | exact Below.drew (by with_reducible assumption) | exact Heap.Below.alloc' (by with_reducible assumption) (Nat.le_refl _) _ | exact Heap.Below.alloc' (Below.drew (by with_reducible assumption)) (Nat.le_refl _) _ | exact Below.drew (Heap.Below.alloc' (by with_reducible assumption) (Nat.le_refl _) _)) HG2.out (Below.size (by first | with_reducible assumption | exact Below.drew (by with_reducible assumption) | exact Heap.Below.alloc' (by with_reducible assumption) (Nat.le_refl _) _ | exact Heap.Below.alloc' (Below.drew (by with_reducible assumption)) (Nat.le_refl _) _ | exact Below.drew (Heap.Below.alloc' (by with_reducible assumption) (Nat.le_refl _) _))) (own_le HQ1.out); obtain ⟨k6, k7, k8, k9⟩ := KEEP.out _ hbl3; obtain ⟨va, vc, hv⟩ := own_form HQ2.out; subst hv))
          refine hK.out _ _ ?_ (fun hHeld => ?_)
          · (try dsimp only)
            (first | exact KEEPF.out _ (Fr.of_below _ (by first | with_reducible assumption | exact Below.drew (by with_reducible assumption) | exact Heap.Below.alloc' (by with_reducible assumption) (Nat.le_refl _) _ | exact Heap.Below.alloc' (Below.drew (by with_reducible assumption)) (Nat.le_refl _) _ | exact Below.drew (Heap.Below.alloc' (by with_reducible assumption) (Nat.le_refl _) _))) | exact KEEPF.out _ (Fr.setAt (Fr.of_below _ (by first | with_reducible assumption | exact Below.drew (by with_reducible assumption) | exact Heap.Below.alloc' (by with_reducible assumption) (Nat.le_refl _) _ | exact Heap.Below.alloc' (Below.drew (by with_reducible assumption)) (Nat.le_refl _) _ | exact Below.drew (Heap.Below.alloc' (by with_reducible assumption) (Nat.le_refl _) _))) _ _) | go_keep)
          clear hK K
          try simp only [Act.put, List.setIfInBounds_toArray, List.set_cons_zero, List.set_cons_succ]
          refine wpAnyH_take (i := 13) (v := ?_) rfl (by kernel_rfl) (by kernel_rfl) (by kernel_rfl) (fun _ _ _ h => h) (Or.inl ⟨by rfl, ?_⟩) (by assumption) ?_
          rotate_left
          · intro w hSw
            (try dsimp only at hSw)
            go_simp
            try with_reducible rfl
          try simp only [Act.put, List.setIfInBounds_toArray, List.set_cons_zero, List.set_cons_succ]
          refine wpAnyH_take (i := 14) (v := ?_) rfl (by kernel_rfl) (by kernel_rfl) (by kernel_rfl) (fun _ _ _ h => h) (Or.inl ⟨by rfl, ?_⟩) (by assumption) ?_
          rotate_left
          · intro w hSw
            (try dsimp only at hSw)
            go_simp
            try with_reducible rfl
          try simp only [Act.put, List.setIfInBounds_toArray, List.set_cons_zero, List.set_cons_succ]
          refine wpAnyH_ready (rs := [15]) (by kernel_rfl) (by simp) ?_
          refine AllReadyH.cons (i := 15) rfl (fun K hK => ?_) ?_
          · go_simp
            refine hK.out _ _ ?_ (fun hHeld => ?_)
            · (try dsimp only)
              (first | exact KEEPF.out _ (Fr.of_below _ (by first | with_reducible assumption | exact Below.drew (by with_reducible assumption) | exact Heap.Below.alloc' (by with_reducible assumption) (Nat.le_refl _) _ | exact Heap.Below.alloc' (Below.drew (by with_reducible assumption)) (Nat.le_refl _) _ | exact Below.drew (Heap.Below.alloc' (by with_reducible assumption) (Nat.le_refl _) _))) | exact KEEPF.out _ (Fr.setAt (Fr.of_below _ (by first | with_reducible assumption | exact Below.drew (by with_reducible assumption) | exact Heap.Below.alloc' (by with_reducible assumption) (Nat.le_refl _) _ | exact Heap.Below.alloc' (Below.drew (by with_reducible assumption)) (Nat.le_refl _) _ | exact Below.drew (Heap.Below.alloc' (by with_reducible assumption) (Nat.le_refl _) _))) _ _) | go_keep)
            clear hK K
            try simp only [Act.put, List.setIfInBounds_toArray, List.set_cons_zero, List.set_cons_succ]
            refine wpAnyH_done (by kernel_rfl) ?_ _
            refine NoPanic.normal ?_
            go_wp2
            go_ret2
            obtain ⟨hr3, hf3⟩ := HRF.out _ hbl3
            have hrow := Row.of_owns HQ2.out
            rw [List.nil_append, Nat.zero_add] at hrow
            have hr4 := hr3.setPeers (l := T.peers ++ [⟨p, nm⟩]) (by rw [show (T.peers ++ [(⟨p, nm⟩ : TPeer)]).flatMap peerCells = T.peers.flatMap peerCells ++ [.int .i64 p, .string (str nm)] by rw [List.flatMap_append]; rfl, show (T.peers ++ [(⟨p, nm⟩ : TPeer)]).length = T.peers.length + 1 by simp]; exact hrow)
            exact rdoPost_mk HF (Row.nil _ _) hr4 (hf3.setAt _ _)
          exact AllReadyH.nil
        exact AllReadyH.nil
      exact AllReadyH.nil
    exact AllReadyH.nil
  exact AllReadyH.nil
end Go.Proofs.Rm
