/- Several texts in one: The walks of the reference's room: Do of all kinds; Table. -/
import Derived.Test.YthlamfoldfeocaaDoorP15
import Derived.Test.YthlamfoldfeocaaDoorP16
set_option linter.unusedSimpArgs false
namespace Go.Proofs.Rm
open Go.RowKit Go.Proofs.Heap Go.Proofs.Mem
open Go.Proofs.Lab (may key Tabs)
theorem rDo_any (b : Nat) (T : Tab) (o : Op) (sa ba : Option Addr) (sc bl bc : Nat) (w : World) (hR : RefAt w b T) (hsm : T.Small) (hT : Tabs w) (hnm : o.name.length < 9223372036854775807) (hpn : ∀ x ∈ T.peers, x.name.length < 9223372036854775807)
    (hrow : RRow w (.slice sa o.ssrcs.length sc) o.ssrcs.length (u32s o.ssrcs)) (hok : T.wrong o = 0 → ROk T o) :
    Calls Tryd.prog 13 #[.pointer (some ⟨b, 0, none⟩), .agg #[.int .i64 o.kind, .int .i64 o.peer, .int .i64 o.source, .int .i64 o.layer, .string (str o.name), .slice sa o.ssrcs.length sc, .slice ba bl bc]] w (RDoPost b T o w) := by
  by_cases hw : T.wrong o = 0
  · have ok := hok hw
    have hk := ok.kind
    have : o.kind = 2 ∨ o.kind = 3 ∨ o.kind = 4 ∨ o.kind = 5 ∨ o.kind = 6 ∨ o.kind = 7 ∨ o.kind = 8 ∨ o.kind = 9 ∨ o.kind = 10 ∨ o.kind = 11 ∨ o.kind = 12 := by omega
    rcases this with h | h | h | h | h | h | h | h | h | h | h
    · exact rdo_join b T o sa ba sc bl bc w hR hsm hT hnm hpn hrow hw ok h
    · exact rdo_leave b T o sa ba sc bl bc w hR hsm hT hnm hpn hrow hw ok h
    · exact rdo_publish b T o sa ba sc bl bc w hR hsm hT hnm hpn hrow hw ok h
    · exact rdo_unpublish b T o sa ba sc bl bc w hR hsm hT hnm hpn hrow hw ok h
    · exact rdo_subscribe b T o sa ba sc bl bc w hR hsm hT hnm hpn hrow hw ok h
    · exact rdo_unsubscribe b T o sa ba sc bl bc w hR hsm hT hnm hpn hrow hw ok h
    · exact rdo_mute b T o sa ba sc bl bc w hR hsm hT hnm hpn hrow hw ok h
    · exact rdo_unmute b T o sa ba sc bl bc w hR hsm hT hnm hpn hrow hw ok h
    · exact rdo_pause b T o sa ba sc bl bc w hR hsm hT hnm hpn hrow hw ok h
    · exact rdo_resume b T o sa ba sc bl bc w hR hsm hT hnm hpn hrow hw ok h
    · exact rdo_want b T o sa ba sc bl bc w hR hsm hT hnm hpn hrow hw ok h
  · exact rdo_err b T o sa ba sc bl bc w hR hsm hT hnm hpn hrow hw
theorem tabPeers_succ (T : Tab) (k : Nat) : T.tabPeers (k + 1) = T.tabPeers k ++ if 0 ≤ T.peerAt ((k : Int) + 1) then [T.peers.getD (T.peerAt ((k : Int) + 1)).toNat ⟨0, []⟩] else [] := by
  unfold Tab.tabPeers; rw [List.range_succ, List.flatMap_append]; simp
theorem tabSrcs_succ (T : Tab) (k : Nat) : T.tabSrcs (k + 1) = T.tabSrcs k ++ if 0 ≤ T.srcAt ((k : Int) + 1) then [T.srcD ((k : Int) + 1)] else [] := by
  unfold Tab.tabSrcs; rw [List.range_succ, List.flatMap_append]; simp
theorem tabSubs_succ (T : Tab) (k : Nat) : T.tabSubs (k + 1) = T.tabSubs k ++ T.tabSubs1 ((k : Int) + 1) (T.hears ((k : Int) + 1)) := by
  unfold Tab.tabSubs; rw [List.range_succ, List.flatMap_append]; simp
theorem tabPeers_len (T : Tab) : ∀ k, (T.tabPeers k).length ≤ k
  | 0 => Nat.le_refl _
  | k + 1 => by rw [tabPeers_succ, List.length_append]; have := tabPeers_len T k; split <;> simp <;> omega
theorem tabSrcs_len (T : Tab) : ∀ k, (T.tabSrcs k).length ≤ k
  | 0 => Nat.le_refl _
  | k + 1 => by rw [tabSrcs_succ, List.length_append]; have := tabSrcs_len T k; split <;> simp <;> omega
theorem tabSubs_len (T : Tab) : ∀ k, (T.tabSubs k).length ≤ k * 8
  | 0 => Nat.le_refl _
  | k + 1 => by
    rw [tabSubs_succ, List.length_append]; have := tabSubs_len T k
    have h2 : (T.hears ((k : Int) + 1)).length ≤ 8 := hearsTo_len T _ 8
    unfold Tab.tabSubs1; rw [List.length_map]; omega
theorem below_lt {w : World} {g o : Nat} {v : Value} (h : w.cell? ⟨g, o, none⟩ = some v) : g < w.heap.size := by
  rcases Nat.lt_or_ge g w.heap.size with h1 | h1
  · exact h1
  · simp [World.cell?, Array.getElem?_eq_none h1] at h
set_option maxRecDepth 100000 in
set_option maxHeartbeats 8000000 in
theorem rTable_any (b : Nat) (T : Tab) (w : World) (hR : RefAt w b T) :
    Calls Tryd.prog 32 #[.pointer (some ⟨b, 0, none⟩)] w fun e w' => (∃ pv sv uv, e = .returned (.agg #[pv, sv, uv]) ∧ TabAt w' pv sv uv T.table) ∧ Below w.heap.size w w' := by
  have hb := hR.lt
  have HR : Hid (∀ w', Below w.heap.size w w' → RefAt w' b T) := fun w' h => hR.below h
  have HTAB : Hid (T.table = ⟨T.tabPeers 8, T.tabSrcs 8, T.tabSubs 8⟩) := rfl
  obtain ⟨rpv, rsv, ruv, hcell, htab⟩ := hR.vals
  have hrowP := htab.peers
  obtain ⟨PS, hms, hrowS, hrs⟩ := htab.srcs
  have hrowU := htab.subs
  have hlP := hrowP.len
  have hlS := hrowS.len
  have hlU := hrowU.len
  have cP := cell_of hcell 0
  have cS := cell_of hcell 1
  have cU := cell_of hcell 2
  obtain ⟨pa, pc, rfl, -, -⟩ := id hrowP
  obtain ⟨sa, sc, rfl, -, -⟩ := id hrowS
  obtain ⟨ua, uc, rfl, -, -⟩ := id hrowU
  have HPK : Hid (∀ k : Int, 0 ≤ T.peerAt k → ∃ (i : Nat) (g off : Nat) (x : TPeer), i < T.peers.length ∧ T.peerAt k = i ∧ pa = some ⟨g, off, none⟩ ∧ T.peers.getD (T.peerAt k).toNat ⟨0, []⟩ = x ∧ ∀ w', Below w.heap.size w w' → w'.cell? ⟨b, 0, none⟩ = some (.slice (some ⟨g, off, none⟩) T.peers.length pc) ∧ w'.cell? ⟨g, off + i * 2, none⟩ = some (.int .i64 x.num) ∧ w'.cell? ⟨g, off + i * 2 + 1, none⟩ = some (.string (str x.name)) ∧ Below w.heap.size w w') := fun k h => by
    obtain ⟨i, hi, hie, -, -⟩ := findAt_at h
    have hie : T.peerAt k = i := hie
    obtain ⟨g, off, e1, hc⟩ := peer_at hrowP (by omega)
    obtain ⟨d0, d1⟩ := hc i T.peers[i] (List.getElem?_eq_getElem hi)
    have hg := below_lt d0
    refine ⟨i, g, off, T.peers[i], hi, hie, e1, by rw [hie, Int.toNat_natCast, List.getD_eq_getElem?_getD, List.getElem?_eq_getElem hi]; rfl, fun w' h' => ?_⟩
    subst e1
    exact ⟨(h'.cell (p := ⟨b, 0, none⟩) hb).trans cP, (h'.cell (p := ⟨g, off + i * 2, none⟩) hg).trans d0, (h'.cell (p := ⟨g, off + i * 2 + 1, none⟩) hg).trans d1, h'⟩
  have HSK : Hid (∀ k : Int, 0 ≤ T.srcAt k → ∃ (i : Nat) (g off : Nat) (x : TSrc) (va : Option Addr) (vc : Nat), i < PS.length ∧ T.srcAt k = i ∧ sa = some ⟨g, off, none⟩ ∧ T.srcD k = x ∧ ∀ w', Below w.heap.size w w' → w'.cell? ⟨b, 1, none⟩ = some (.slice (some ⟨g, off, none⟩) PS.length sc) ∧ w'.cell? ⟨g, off + i * 4, none⟩ = some (.int .i64 x.num) ∧ w'.cell? ⟨g, off + i * 4 + 1, none⟩ = some (.int .i64 x.own) ∧ w'.cell? ⟨g, off + i * 4 + 2, none⟩ = some (.slice va x.ss.length vc) ∧ w'.cell? ⟨g, off + i * 4 + 3, none⟩ = some (.bool x.muted) ∧ Row w' 23 (.slice va x.ss.length vc) x.ss.length (u32s x.ss) ∧ Below w.heap.size w w') := fun k h => by
    obtain ⟨i, hi, hie, -, -⟩ := findAt_at h
    have hie : T.srcAt k = i := hie
    have hi' : i < PS.length := by rw [← hms, List.length_map] at hi; exact hi
    obtain ⟨g, off, e1, hc⟩ := tsrc_at hrowS (by omega)
    obtain ⟨d0, d1, d2, d3⟩ := hc i PS[i] (List.getElem?_eq_getElem hi')
    have hg := below_lt d0
    have hr := hrs PS[i] (List.getElem_mem hi')
    obtain ⟨va, vc, hv, -, -⟩ := id hr
    rw [hv] at d2 hr
    refine ⟨i, g, off, PS[i].1, va, vc, hi', hie, e1, by unfold Tab.srcD; rw [hie, Int.toNat_natCast, ← hms, getD_map_fst hi'], fun w' h' => ?_⟩
    subst e1
    exact ⟨(h'.cell (p := ⟨b, 1, none⟩) hb).trans cS, (h'.cell (p := ⟨g, off + i * 4, none⟩) hg).trans d0, (h'.cell (p := ⟨g, off + i * 4 + 1, none⟩) hg).trans d1, (h'.cell (p := ⟨g, off + i * 4 + 2, none⟩) hg).trans d2, (h'.cell (p := ⟨g, off + i * 4 + 3, none⟩) hg).trans d3, hr.fr (Fr.of_below NoB h') (Nat.le_refl _) (fun _ _ _ h => h.elim), h'⟩
  have HUK : Hid (∀ p k : Int, 0 ≤ T.subAt p k → ∃ (i : Nat) (g off : Nat) (x : TSub), i < T.subs.length ∧ T.subAt p k = i ∧ ua = some ⟨g, off, none⟩ ∧ T.subD p k = x ∧ ∀ w', Below w.heap.size w w' → w'.cell? ⟨b, 2, none⟩ = some (.slice (some ⟨g, off, none⟩) T.subs.length uc) ∧ w'.cell? ⟨g, off + i * 4, none⟩ = some (.int .i64 x.peer) ∧ w'.cell? ⟨g, off + i * 4 + 1, none⟩ = some (.int .i64 x.source) ∧ w'.cell? ⟨g, off + i * 4 + 2, none⟩ = some (.int .i64 x.want) ∧ w'.cell? ⟨g, off + i * 4 + 3, none⟩ = some (.bool x.paused) ∧ Below w.heap.size w w') := fun p k h => by
    obtain ⟨i, hi, hie, -, -⟩ := findAt_at h
    have hie : T.subAt p k = i := hie
    obtain ⟨g, off, e1, hc⟩ := tsub_at hrowU (by omega)
    obtain ⟨d0, d1, d2, d3⟩ := hc i T.subs[i] (List.getElem?_eq_getElem hi)
    have hg := below_lt d0
    refine ⟨i, g, off, T.subs[i], hi, hie, e1, by unfold Tab.subD; rw [hie, Int.toNat_natCast, getD_sub hi], fun w' h' => ?_⟩
    subst e1
    exact ⟨(h'.cell (p := ⟨b, 2, none⟩) hb).trans cU, (h'.cell (p := ⟨g, off + i * 4, none⟩) hg).trans d0, (h'.cell (p := ⟨g, off + i * 4 + 1, none⟩) hg).trans d1, (h'.cell (p := ⟨g, off + i * 4 + 2, none⟩) hg).trans d2, (h'.cell (p := ⟨g, off + i * 4 + 3, none⟩) hg).trans d3, h'⟩
  have HNS : Hid (∀ k, (T.tabPeers k).length ≤ k ∧ (T.tabSrcs k).length ≤ k ∧ (T.tabSubs k).length ≤ k * 8) := fun k => ⟨tabPeers_len T k, tabSrcs_len T k, tabSubs_len T k⟩
  clear hR hcell htab hrowP hrowS hrowU hrs hms cP cS cU
  generalize T.peers.length = NP at *
  generalize PS.length = NSr at *
  generalize T.subs.length = NU at *
  go_enter Tryd.func32, Tryd.ntmps32
  go_wp2
  go_loopw [4] (fun i w' => ∃ k : Nat, k ≤ 8 ∧ i = .int .i64 ((k : Int) + 1) ∧ ∃ pv sv uv ms, TG w w' pv sv uv (T.tabPeers k) ms (T.tabSubs k) ∧ Hid (ms.map Prod.fst = T.tabSrcs k)) (fun i _ => 9 - (intOf i).toNat)
  case atStart => exact ⟨0, by omega, rfl, _, _, _, [], ⟨⟨((Below.refl _ _).alloc (Nat.le_refl _) _).alloc (by simp) _, (two_new w _ _).2, (two_new w _ _).1⟩, World.ownsRow_nil _ _ _ _, World.ownsRow_nil _ _ _ _, fun m hm => by simp at hm, World.ownsRow_nil _ _ _ _⟩, rfl⟩
  case round =>
    obtain ⟨k, hk, rfl, pv, sv, uv, ms, htg, HMS⟩ := hrel
    have HTG := Lib.hid htg
    have hsz := htg.tb.size
    have HBW := Lib.hid htg.tb.bel
    clear htg
    by_cases hk8 : k < 8
    · have CP := Lib.hid (PeerAt_any b T ((k : Int) + 1) wr (HR.out _ HBW.out))
      have HSP := Lib.hid (tabPeers_succ T k)
      have hgl := (HNS.out k).1
      go_upto_if 18 with (go_at_call 21; (with_reducible refine CP.out.mono ?_); rintro e w1 ⟨rfl, hb1⟩; have HTG1 := Lib.hid (HTG.out.below hb1); clear hb1)
      go_cut [5] (fun _ wx => ∃ pv', TG w wx pv' sv uv (T.tabPeers (k + 1)) ms (T.tabSubs k))
      case first =>
        by_cases h0 : 0 ≤ T.peerAt ((k : Int) + 1)
        · obtain ⟨i, g, off, x, hi, hie, rfl, hx, hkeep⟩ := HPK.out _ h0
          have HF : Hid (T.tabPeers (k + 1) = T.tabPeers k ++ [x]) := by show _ = _; rw [HSP.out, if_pos h0, hx]
          have KEEP := Lib.hid hkeep
          have hbw := HTG1.out.tb.bel
          have cp := HTG1.out.tb.cells.1
          have fp := HTG1.out.tb.frozen 0
          have ne1 := World.new_ne w1 _ cp
          have hiI : (i : Int) < (NP : Int) := Int.ofNat_lt.2 hi
          have hi0 : (0 : Int) ≤ (i : Int) := Int.natCast_nonneg i
          rw [hie]
          clear hkeep h0 hx hie HSP
          generalize T.tabPeers k = G at *
          obtain ⟨xn, xs⟩ := x
          dsimp only at KEEP
          have hz1 := HTG1.out.tb.size
          have HTGW := HTG1.out
          have rr0 : Below w1.heap.size w1 w1 := Below.refl _ _
          go_wp2_with fail
          refine wp_region_noPanic ?_
          refine wp_region_held_drew (S := (fun w' => w'.cell? ⟨b, 0, none⟩ = some (.slice (some ⟨g, off, none⟩) NP pc) ∧ w'.cell? ⟨g, off + i * 2, none⟩ = some (.int .i64 xn) ∧ w'.cell? ⟨g, off + i * 2 + 1, none⟩ = some (.string (str xs)) ∧ Below w.heap.size w w')) (by kernel_rfl) ?_ (fun hHeld => ?_)
          · (try dsimp only)
            (first | exact KEEP.out _ (by first | with_reducible assumption | exact Below.drew (by with_reducible assumption) | exact Heap.Below.alloc' (by with_reducible assumption) (Nat.le_refl _) _ | exact Heap.Below.alloc' (Below.drew (by with_reducible assumption)) (Nat.le_refl _) _ | exact Below.drew (Heap.Below.alloc' (by with_reducible assumption) (Nat.le_refl _) _) | exact Below.setCell (by with_reducible assumption) (by simp) _ | exact Below.setCell (Below.drew (by with_reducible assumption)) (by simp) _) | go_keep)
          refine wpAnyH_take (i := 0) (v := ?_) rfl (by kernel_rfl) (by kernel_rfl) (by kernel_rfl) (fun _ _ _ h => h) (Or.inl ⟨by rfl, ?_⟩) (by assumption) ?_
          rotate_left
          · intro w hSw
            (try dsimp only at hSw)
            go_simp
            try with_reducible rfl
          try simp only [Act.put, List.setIfInBounds_toArray, List.set_cons_zero, List.set_cons_succ]
          refine wpAnyH_take (i := 2) (v := ?_) rfl (by kernel_rfl) (by kernel_rfl) (by kernel_rfl) (fun _ _ _ h => h) (Or.inl ⟨by rfl, ?_⟩) (by assumption) ?_
          rotate_left
          · intro w hSw
            (try dsimp only at hSw)
            go_simp
            try with_reducible rfl
          try simp only [Act.put, List.setIfInBounds_toArray, List.set_cons_zero, List.set_cons_succ]
          refine wpAnyH_take (i := 3) (v := ?_) rfl (by kernel_rfl) (by kernel_rfl) (by kernel_rfl) (fun _ _ _ h => h) (Or.inl ⟨by rfl, ?_⟩) (by assumption) ?_
          rotate_left
          · intro w hSw
            (try dsimp only at hSw)
            go_simp
            try with_reducible rfl
          try simp only [Act.put, List.setIfInBounds_toArray, List.set_cons_zero, List.set_cons_succ]
          refine wpAnyH_take (i := 4) (v := ?_) rfl (by kernel_rfl) (by kernel_rfl) (by kernel_rfl) (fun _ _ _ h => h) (Or.inl ⟨by rfl, ?_⟩) (by assumption) ?_
          rotate_left
          · intro w hSw
            (try dsimp only at hSw)
            go_simp
            try with_reducible rfl
          try simp only [Act.put, List.setIfInBounds_toArray, List.set_cons_zero, List.set_cons_succ]
          refine wpAnyH_take (i := 5) (v := ?_) rfl (by kernel_rfl) (by kernel_rfl) (by kernel_rfl) (fun _ _ _ h => h) (Or.inl ⟨by rfl, ?_⟩) (by assumption) ?_
          rotate_left
          · intro w hSw
            (try dsimp only at hSw)
            go_simp
            try with_reducible rfl
          try simp only [Act.put, List.setIfInBounds_toArray, List.set_cons_zero, List.set_cons_succ]
          refine wpAnyH_take (i := 6) (v := ?_) rfl (by kernel_rfl) (by kernel_rfl) (by kernel_rfl) (fun _ _ _ h => h) (Or.inl ⟨by rfl, ?_⟩) (by assumption) ?_
          rotate_left
          · intro w hSw
            (try dsimp only at hSw)
            go_simp
            try with_reducible rfl
          try simp only [Act.put, List.setIfInBounds_toArray, List.set_cons_zero, List.set_cons_succ]
          refine wpAnyH_take (i := 7) (v := ?_) rfl (by kernel_rfl) (by kernel_rfl) (by kernel_rfl) (fun _ _ _ h => h) (Or.inl ⟨by rfl, ?_⟩) (by assumption) ?_
          rotate_left
          · intro w hSw
            (try dsimp only at hSw)
            go_simp
            try with_reducible rfl
          try simp only [Act.put, List.setIfInBounds_toArray, List.set_cons_zero, List.set_cons_succ]
          refine wpAnyH_take (i := 8) (v := ?_) rfl (by kernel_rfl) (by kernel_rfl) (by kernel_rfl) (fun _ _ _ h => h) (Or.inl ⟨by rfl, ?_⟩) (by assumption) ?_
          rotate_left
          · intro w hSw
            (try dsimp only at hSw)
            go_simp
            try with_reducible rfl
          try simp only [Act.put, List.setIfInBounds_toArray, List.set_cons_zero, List.set_cons_succ]
          refine wpAnyH_ready (rs := [1, 9]) (by kernel_rfl) (by simp) ?_
          refine AllReadyH.cons (i := 1) rfl (fun K hK => ?_) ?_
          · go_simp
            refine hK.out _ _ ?_ (fun hHeld => ?_)
            · (try dsimp only)
              (first | exact KEEP.out _ (by first | with_reducible assumption | exact Below.drew (by with_reducible assumption) | exact Heap.Below.alloc' (by with_reducible assumption) (Nat.le_refl _) _ | exact Heap.Below.alloc' (Below.drew (by with_reducible assumption)) (Nat.le_refl _) _ | exact Below.drew (Heap.Below.alloc' (by with_reducible assumption) (Nat.le_refl _) _) | exact Below.setCell (by with_reducible assumption) (by simp) _ | exact Below.setCell (Below.drew (by with_reducible assumption)) (by simp) _) | go_keep)
            clear hK K
            try simp only [Act.put, List.setIfInBounds_toArray, List.set_cons_zero, List.set_cons_succ]
            refine wpAnyH_ready (rs := [9]) (by kernel_rfl) (by simp) ?_
            refine AllReadyH.cons (i := 9) rfl (fun K hK => ?_) ?_
            · go_simp
              refine hK.out _ _ ?_ (fun hHeld => ?_)
              · (try dsimp only)
                (first | exact KEEP.out _ (by first | with_reducible assumption | exact Below.drew (by with_reducible assumption) | exact Heap.Below.alloc' (by with_reducible assumption) (Nat.le_refl _) _ | exact Heap.Below.alloc' (Below.drew (by with_reducible assumption)) (Nat.le_refl _) _ | exact Below.drew (Heap.Below.alloc' (by with_reducible assumption) (Nat.le_refl _) _) | exact Below.setCell (by with_reducible assumption) (by simp) _ | exact Below.setCell (Below.drew (by with_reducible assumption)) (by simp) _) | go_keep)
              clear hK K
              try simp only [Act.put, List.setIfInBounds_toArray, List.set_cons_zero, List.set_cons_succ]
              refine wpAnyH_ready (rs := [10]) (by kernel_rfl) (by simp) ?_
              refine AllReadyH.cons (i := 10) rfl (fun K hK => ?_) ?_
              · (first | (go_split_ands; refine step_app (by rfl) (.tmp 20) (.tmp 28) 28 (by rfl) (w.heap.size + 2) elemPeer pv G.length (G.flatMap peerCells) (by rfl) ?_ _ 1 [.int .i64 xn, .string (str xs)] (by rfl) ?_ (by rfl) (peer_one ⟨xn, xs⟩) (by omega) (by omega) ?_ ?_; (exact TG.pe (sv := sv) (uv := uv) (P := G) (ms := ms) (us := T.tabSubs k) (by first | with_reducible assumption | exact TG.drew (by with_reducible assumption) | exact TG.alloc (by with_reducible assumption) _ | exact TG.alloc (TG.drew (by with_reducible assumption)) _ | exact TG.drew (TG.alloc (by with_reducible assumption) _))); (repeat (first | ((with_reducible refine row_new3 _ _ 1 [.int .i64 xn, .string (str xs)] (by decide) _ ?_); rfl) | with_reducible refine Row.drew ?_)); (exact Nat.le_trans (Nat.succ_le_of_lt hz1) (Below.size (B := w1.heap.size) (by first | with_reducible assumption | exact Below.drew (by with_reducible assumption) | exact Heap.Below.alloc' (by with_reducible assumption) (Nat.le_refl _) _ | exact Heap.Below.alloc' (Below.drew (by with_reducible assumption)) (Nat.le_refl _) _ | exact Below.drew (Heap.Below.alloc' (by with_reducible assumption) (Nat.le_refl _) _) | exact Below.setCell (by with_reducible assumption) (by simp) _ | exact Below.setCell (Below.drew (by with_reducible assumption)) (by simp) _))); intro v' w3 HO HG; have tb3 := TG.grownTB_p (w := w) (sv := sv) (uv := uv) (P := G) (ms := ms) (us := T.tabSubs k) (by first | with_reducible assumption | exact TG.drew (by with_reducible assumption) | exact TG.alloc (by with_reducible assumption) _ | exact TG.alloc (TG.drew (by with_reducible assumption)) _ | exact TG.drew (TG.alloc (by with_reducible assumption) _)) HG; have hbw3 := tb3.bel; have c3 := tb3.cells.1; have f3 := tb3.frozen 0; obtain ⟨va, vc, hv⟩ := own_form HO.out; subst hv))
                refine hK.out _ _ ?_ (fun hHeld => ?_)
                · (try dsimp only)
                  (first | exact KEEP.out _ (by first | with_reducible assumption | exact Below.drew (by with_reducible assumption) | exact Heap.Below.alloc' (by with_reducible assumption) (Nat.le_refl _) _ | exact Heap.Below.alloc' (Below.drew (by with_reducible assumption)) (Nat.le_refl _) _ | exact Below.drew (Heap.Below.alloc' (by with_reducible assumption) (Nat.le_refl _) _) | exact Below.setCell (by with_reducible assumption) (by simp) _ | exact Below.setCell (Below.drew (by with_reducible assumption)) (by simp) _) | go_keep)
                clear hK K
                try simp only [Act.put, List.setIfInBounds_toArray, List.set_cons_zero, List.set_cons_succ]
                refine wpAnyH_take (i := 11) (v := ?_) rfl (by kernel_rfl) (by kernel_rfl) (by kernel_rfl) (fun _ _ _ h => h) (Or.inl ⟨by rfl, ?_⟩) (by assumption) ?_
                rotate_left
                · intro w hSw
                  (try dsimp only at hSw)
                  go_simp
                  try with_reducible rfl
                try simp only [Act.put, List.setIfInBounds_toArray, List.set_cons_zero, List.set_cons_succ]
                refine wpAnyH_ready (rs := [12]) (by kernel_rfl) (by simp) ?_
                refine AllReadyH.cons (i := 12) rfl (fun K hK => ?_) ?_
                · go_simp
                  refine hK.out _ _ ?_ (fun hHeld => ?_)
                  · (try dsimp only)
                    (first | exact KEEP.out _ (by first | with_reducible assumption | exact Below.drew (by with_reducible assumption) | exact Heap.Below.alloc' (by with_reducible assumption) (Nat.le_refl _) _ | exact Heap.Below.alloc' (Below.drew (by with_reducible assumption)) (Nat.le_refl _) _ | exact Below.drew (Heap.Below.alloc' (by with_reducible assumption) (Nat.le_refl _) _) | exact Below.setCell (by with_reducible assumption) (by simp) _ | exact Below.setCell (Below.drew (by with_reducible assumption)) (by simp) _) | go_keep)
                  clear hK K
                  try simp only [Act.put, List.setIfInBounds_toArray, List.set_cons_zero, List.set_cons_succ]
                  refine wpAnyH_done (by kernel_rfl) ?_ _
                  refine NoPanic.normal ?_
                  go_wp2_with fail
                  go_meet
                  exact ⟨_, by rw [HF.out]; exact TG.addPeer (w := w) (sv := sv) (uv := uv) (P := G) (ms := ms) (us := T.tabSubs k) (by first | with_reducible assumption | exact TG.drew (by with_reducible assumption) | exact TG.alloc (by with_reducible assumption) _ | exact TG.alloc (TG.drew (by with_reducible assumption)) _ | exact TG.drew (TG.alloc (by with_reducible assumption) _)) ⟨xn, xs⟩ HO HG⟩
                exact AllReadyH.nil
              exact AllReadyH.nil
            exact AllReadyH.nil
          refine AllReadyH.cons (i := 9) rfl (fun K hK => ?_) ?_
          · go_simp
            refine hK.out _ _ ?_ (fun hHeld => ?_)
            · (try dsimp only)
              (first | exact KEEP.out _ (by first | with_reducible assumption | exact Below.drew (by with_reducible assumption) | exact Heap.Below.alloc' (by with_reducible assumption) (Nat.le_refl _) _ | exact Heap.Below.alloc' (Below.drew (by with_reducible assumption)) (Nat.le_refl _) _ | exact Below.drew (Heap.Below.alloc' (by with_reducible assumption) (Nat.le_refl _) _) | exact Below.setCell (by with_reducible assumption) (by simp) _ | exact Below.setCell (Below.drew (by with_reducible assumption)) (by simp) _) | go_keep)
            clear hK K
            try simp only [Act.put, List.setIfInBounds_toArray, List.set_cons_zero, List.set_cons_succ]
            refine wpAnyH_ready (rs := [1]) (by kernel_rfl) (by simp) ?_
            refine AllReadyH.cons (i := 1) rfl (fun K hK => ?_) ?_
            · go_simp
              refine hK.out _ _ ?_ (fun hHeld => ?_)
              · (try dsimp only)
                (first | exact KEEP.out _ (by first | with_reducible assumption | exact Below.drew (by with_reducible assumption) | exact Heap.Below.alloc' (by with_reducible assumption) (Nat.le_refl _) _ | exact Heap.Below.alloc' (Below.drew (by with_reducible assumption)) (Nat.le_refl _) _ | exact Below.drew (Heap.Below.alloc' (by with_reducible assumption) (Nat.le_refl _) _) | exact Below.setCell (by with_reducible assumption) (by simp) _ | exact Below.setCell (Below.drew (by with_reducible assumption)) (by simp) _) | go_keep)
              clear hK K
              try simp only [Act.put, List.setIfInBounds_toArray, List.set_cons_zero, List.set_cons_succ]
              refine wpAnyH_ready (rs := [10]) (by kernel_rfl) (by simp) ?_
              refine AllReadyH.cons (i := 10) rfl (fun K hK => ?_) ?_
              · (first | (go_split_ands; refine step_app (by rfl) (.tmp 20) (.tmp 28) 28 (by rfl) (w.heap.size + 2) elemPeer pv G.length (G.flatMap peerCells) (by rfl) ?_ _ 1 [.int .i64 xn, .string (str xs)] (by rfl) ?_ (by rfl) (peer_one ⟨xn, xs⟩) (by omega) (by omega) ?_ ?_; (exact TG.pe (sv := sv) (uv := uv) (P := G) (ms := ms) (us := T.tabSubs k) (by first | with_reducible assumption | exact TG.drew (by with_reducible assumption) | exact TG.alloc (by with_reducible assumption) _ | exact TG.alloc (TG.drew (by with_reducible assumption)) _ | exact TG.drew (TG.alloc (by with_reducible assumption) _))); (repeat (first | ((with_reducible refine row_new3 _ _ 1 [.int .i64 xn, .string (str xs)] (by decide) _ ?_); rfl) | with_reducible refine Row.drew ?_)); (exact Nat.le_trans (Nat.succ_le_of_lt hz1) (Below.size (B := w1.heap.size) (by first | with_reducible assumption | exact Below.drew (by with_reducible assumption) | exact Heap.Below.alloc' (by with_reducible assumption) (Nat.le_refl _) _ | exact Heap.Below.alloc' (Below.drew (by with_reducible assumption)) (Nat.le_refl _) _ | exact Below.drew (Heap.Below.alloc' (by with_reducible assumption) (Nat.le_refl _) _) | exact Below.setCell (by with_reducible assumption) (by simp) _ | exact Below.setCell (Below.drew (by with_reducible assumption)) (by simp) _))); intro v' w3 HO HG; have tb3 := TG.grownTB_p (w := w) (sv := sv) (uv := uv) (P := G) (ms := ms) (us := T.tabSubs k) (by first | with_reducible assumption | exact TG.drew (by with_reducible assumption) | exact TG.alloc (by with_reducible assumption) _ | exact TG.alloc (TG.drew (by with_reducible assumption)) _ | exact TG.drew (TG.alloc (by with_reducible assumption) _)) HG; have hbw3 := tb3.bel; have c3 := tb3.cells.1; have f3 := tb3.frozen 0; obtain ⟨va, vc, hv⟩ := own_form HO.out; subst hv))
                refine hK.out _ _ ?_ (fun hHeld => ?_)
                · (try dsimp only)
                  (first | exact KEEP.out _ (by first | with_reducible assumption | exact Below.drew (by with_reducible assumption) | exact Heap.Below.alloc' (by with_reducible assumption) (Nat.le_refl _) _ | exact Heap.Below.alloc' (Below.drew (by with_reducible assumption)) (Nat.le_refl _) _ | exact Below.drew (Heap.Below.alloc' (by with_reducible assumption) (Nat.le_refl _) _) | exact Below.setCell (by with_reducible assumption) (by simp) _ | exact Below.setCell (Below.drew (by with_reducible assumption)) (by simp) _) | go_keep)
                clear hK K
                try simp only [Act.put, List.setIfInBounds_toArray, List.set_cons_zero, List.set_cons_succ]
                refine wpAnyH_take (i := 11) (v := ?_) rfl (by kernel_rfl) (by kernel_rfl) (by kernel_rfl) (fun _ _ _ h => h) (Or.inl ⟨by rfl, ?_⟩) (by assumption) ?_
                rotate_left
                · intro w hSw
                  (try dsimp only at hSw)
                  go_simp
                  try with_reducible rfl
                try simp only [Act.put, List.setIfInBounds_toArray, List.set_cons_zero, List.set_cons_succ]
                refine wpAnyH_ready (rs := [12]) (by kernel_rfl) (by simp) ?_
                refine AllReadyH.cons (i := 12) rfl (fun K hK => ?_) ?_
                · go_simp
                  refine hK.out _ _ ?_ (fun hHeld => ?_)
                  · (try dsimp only)
                    (first | exact KEEP.out _ (by first | with_reducible assumption | exact Below.drew (by with_reducible assumption) | exact Heap.Below.alloc' (by with_reducible assumption) (Nat.le_refl _) _ | exact Heap.Below.alloc' (Below.drew (by with_reducible assumption)) (Nat.le_refl _) _ | exact Below.drew (Heap.Below.alloc' (by with_reducible assumption) (Nat.le_refl _) _) | exact Below.setCell (by with_reducible assumption) (by simp) _ | exact Below.setCell (Below.drew (by with_reducible assumption)) (by simp) _) | go_keep)
                  clear hK K
                  try simp only [Act.put, List.setIfInBounds_toArray, List.set_cons_zero, List.set_cons_succ]
                  refine wpAnyH_done (by kernel_rfl) ?_ _
                  refine NoPanic.normal ?_
                  go_wp2_with fail
                  go_meet
                  exact ⟨_, by rw [HF.out]; exact TG.addPeer (w := w) (sv := sv) (uv := uv) (P := G) (ms := ms) (us := T.tabSubs k) (by first | with_reducible assumption | exact TG.drew (by with_reducible assumption) | exact TG.alloc (by with_reducible assumption) _ | exact TG.alloc (TG.drew (by with_reducible assumption)) _ | exact TG.drew (TG.alloc (by with_reducible assumption) _)) ⟨xn, xs⟩ HO HG⟩
                exact AllReadyH.nil
              exact AllReadyH.nil
            exact AllReadyH.nil
          exact AllReadyH.nil
        · have HF : Hid (T.tabPeers (k + 1) = T.tabPeers k) := by show _ = _; rw [HSP.out, if_neg h0, List.append_nil]
          have h0d : decide (0 ≤ T.peerAt ((k : Int) + 1)) = false := decide_eq_false h0
          go_wp2_with fail
          go_meet
          exact ⟨pv, by rw [HF.out]; exact HTG1.out⟩
      case rest =>
        clear HTG1 HTG HSP CP HPK hsz HBW
        obtain ⟨pv, htg⟩ := hcut
        obtain ⟨W2, rfl⟩ : ∃ W2 : World, W2 = wc := ⟨_, rfl⟩
        have HTG := Lib.hid htg
        have HBW := Lib.hid htg.tb.bel
        clear htg
        have CS := Lib.hid (SourceAt_any b T ((k : Int) + 1) W2 (HR.out _ HBW.out))
        have HSS := Lib.hid (tabSrcs_succ T k)
        have hgl2 := (HNS.out k).2.1
        have hml : ms.length ≤ k := by have h := congrArg List.length HMS.out; rw [List.length_map] at h; omega
        go_upto_if 35 with (go_at_call 18; (with_reducible refine CS.out.mono ?_); rintro e w1 ⟨rfl, hb1⟩; have HTG1 := Lib.hid (HTG.out.below hb1); clear hb1)
        go_cut [6] (fun _ wx => ∃ sv' ms', TG w wx pv sv' uv (T.tabPeers (k + 1)) ms' (T.tabSubs k) ∧ ms'.map Prod.fst = T.tabSrcs (k + 1))
        case first =>
          by_cases h0 : 0 ≤ T.srcAt ((k : Int) + 1)
          · obtain ⟨i, g, off, x, xa, xc, hi, hie, rfl, hx, hkeep⟩ := HSK.out _ h0
            have HF : Hid (T.tabSrcs (k + 1) = T.tabSrcs k ++ [x]) := by show _ = _; rw [HSS.out, if_pos h0, hx]
            have KEEP : Hid (∀ w', Below w.heap.size w w' → w'.cell? ⟨b, 1, none⟩ = some (.slice (some ⟨g, off, none⟩) NSr sc) ∧ w'.cell? ⟨g, off + i * 4, none⟩ = some (.int .i64 x.num) ∧ w'.cell? ⟨g, off + i * 4 + 1, none⟩ = some (.int .i64 x.own) ∧ w'.cell? ⟨g, off + i * 4 + 2, none⟩ = some (.slice xa x.ss.length xc) ∧ w'.cell? ⟨g, off + i * 4 + 3, none⟩ = some (.bool x.muted) ∧ Below w.heap.size w w') := fun w' h => by
              obtain ⟨a1, a2, a3, a4, a5, -, a6⟩ := hkeep w' h
              exact ⟨a1, a2, a3, a4, a5, a6⟩
            have KROW : Hid (∀ w', Below w.heap.size w w' → Row w' 23 (.slice xa x.ss.length xc) x.ss.length (u32s x.ss)) := fun w' h => (hkeep w' h).2.2.2.2.2.1
            have hbw := HTG1.out.tb.bel
            have cp := HTG1.out.tb.cells.2.1
            have fp := HTG1.out.tb.frozen 1
            have ne1 := World.new_ne w1 _ cp
            have hiI : (i : Int) < (NSr : Int) := Int.ofNat_lt.2 hi
            have hi0 : (0 : Int) ≤ (i : Int) := Int.natCast_nonneg i
            rw [hie]
            clear hkeep h0 hx hie HSS
            obtain ⟨xn, xo, xss, xm⟩ := x
            dsimp only at KEEP KROW
            have hz1 := HTG1.out.tb.size
            have HTGW := HTG1.out
            have rr0 : Below w1.heap.size w1 w1 := Below.refl _ _
            go_wp2_with fail
            refine wp_region_noPanic ?_
            refine wp_region_held_drew (S := (fun w' => w'.cell? ⟨b, 1, none⟩ = some (.slice (some ⟨g, off, none⟩) NSr sc) ∧ w'.cell? ⟨g, off + i * 4, none⟩ = some (.int .i64 xn) ∧ w'.cell? ⟨g, off + i * 4 + 1, none⟩ = some (.int .i64 xo) ∧ w'.cell? ⟨g, off + i * 4 + 2, none⟩ = some (.slice xa xss.length xc) ∧ w'.cell? ⟨g, off + i * 4 + 3, none⟩ = some (.bool xm) ∧ Below w.heap.size w w')) (by kernel_rfl) ?_ (fun hHeld => ?_)
            · (try dsimp only)
              (first | exact KEEP.out _ (by first | with_reducible assumption | exact Below.drew (by with_reducible assumption) | exact Heap.Below.alloc' (by with_reducible assumption) (Nat.le_refl _) _ | exact Heap.Below.alloc' (Below.drew (by with_reducible assumption)) (Nat.le_refl _) _ | exact Below.drew (Heap.Below.alloc' (by with_reducible assumption) (Nat.le_refl _) _) | exact Below.setCell (by with_reducible assumption) (by simp) _ | exact Below.setCell (Below.drew (by with_reducible assumption)) (by simp) _) | go_keep)
            refine wpAnyH_take (i := 0) (v := ?_) rfl (by kernel_rfl) (by kernel_rfl) (by kernel_rfl) (fun _ _ _ h => h) (Or.inl ⟨by rfl, ?_⟩) (by assumption) ?_
            rotate_left
            · intro w hSw
              (try dsimp only at hSw)
              go_simp
              try with_reducible rfl
            try simp only [Act.put, List.setIfInBounds_toArray, List.set_cons_zero, List.set_cons_succ]
            refine wpAnyH_take (i := 2) (v := ?_) rfl (by kernel_rfl) (by kernel_rfl) (by kernel_rfl) (fun _ _ _ h => h) (Or.inl ⟨by rfl, ?_⟩) (by assumption) ?_
            rotate_left
            · intro w hSw
              (try dsimp only at hSw)
              go_simp
              try with_reducible rfl
            try simp only [Act.put, List.setIfInBounds_toArray, List.set_cons_zero, List.set_cons_succ]
            refine wpAnyH_take (i := 3) (v := ?_) rfl (by kernel_rfl) (by kernel_rfl) (by kernel_rfl) (fun _ _ _ h => h) (Or.inl ⟨by rfl, ?_⟩) (by assumption) ?_
            rotate_left
            · intro w hSw
              (try dsimp only at hSw)
              go_simp
              try with_reducible rfl
            try simp only [Act.put, List.setIfInBounds_toArray, List.set_cons_zero, List.set_cons_succ]
            refine wpAnyH_take (i := 4) (v := ?_) rfl (by kernel_rfl) (by kernel_rfl) (by kernel_rfl) (fun _ _ _ h => h) (Or.inl ⟨by rfl, ?_⟩) (by assumption) ?_
            rotate_left
            · intro w hSw
              (try dsimp only at hSw)
              go_simp
              try with_reducible rfl
            try simp only [Act.put, List.setIfInBounds_toArray, List.set_cons_zero, List.set_cons_succ]
            refine wpAnyH_take (i := 5) (v := ?_) rfl (by kernel_rfl) (by kernel_rfl) (by kernel_rfl) (fun _ _ _ h => h) (Or.inl ⟨by rfl, ?_⟩) (by assumption) ?_
            rotate_left
            · intro w hSw
              (try dsimp only at hSw)
              go_simp
              try with_reducible rfl
            try simp only [Act.put, List.setIfInBounds_toArray, List.set_cons_zero, List.set_cons_succ]
            refine wpAnyH_take (i := 6) (v := ?_) rfl (by kernel_rfl) (by kernel_rfl) (by kernel_rfl) (fun _ _ _ h => h) (Or.inl ⟨by rfl, ?_⟩) (by assumption) ?_
            rotate_left
            · intro w hSw
              (try dsimp only at hSw)
              go_simp
              try with_reducible rfl
            try simp only [Act.put, List.setIfInBounds_toArray, List.set_cons_zero, List.set_cons_succ]
            refine wpAnyH_take (i := 7) (v := ?_) rfl (by kernel_rfl) (by kernel_rfl) (by kernel_rfl) (fun _ _ _ h => h) (Or.inl ⟨by rfl, ?_⟩) (by assumption) ?_
            rotate_left
            · intro w hSw
              (try dsimp only at hSw)
              go_simp
              try with_reducible rfl
            try simp only [Act.put, List.setIfInBounds_toArray, List.set_cons_zero, List.set_cons_succ]
            refine wpAnyH_take (i := 8) (v := ?_) rfl (by kernel_rfl) (by kernel_rfl) (by kernel_rfl) (fun _ _ _ h => h) (Or.inl ⟨by rfl, ?_⟩) (by assumption) ?_
            rotate_left
            · intro w hSw
              (try dsimp only at hSw)
              go_simp
              try with_reducible rfl
            try simp only [Act.put, List.setIfInBounds_toArray, List.set_cons_zero, List.set_cons_succ]
            refine wpAnyH_ready (rs := [1, 9]) (by kernel_rfl) (by simp) ?_
            refine AllReadyH.cons (i := 1) rfl (fun K hK => ?_) ?_
            · go_simp
              refine hK.out _ _ ?_ (fun hHeld => ?_)
              · (try dsimp only)
                (first | exact KEEP.out _ (by first | with_reducible assumption | exact Below.drew (by with_reducible assumption) | exact Heap.Below.alloc' (by with_reducible assumption) (Nat.le_refl _) _ | exact Heap.Below.alloc' (Below.drew (by with_reducible assumption)) (Nat.le_refl _) _ | exact Below.drew (Heap.Below.alloc' (by with_reducible assumption) (Nat.le_refl _) _) | exact Below.setCell (by with_reducible assumption) (by simp) _ | exact Below.setCell (Below.drew (by with_reducible assumption)) (by simp) _) | go_keep)
              clear hK K
              try simp only [Act.put, List.setIfInBounds_toArray, List.set_cons_zero, List.set_cons_succ]
              refine wpAnyH_ready (rs := [9]) (by kernel_rfl) (by simp) ?_
              refine AllReadyH.cons (i := 9) rfl (fun K hK => ?_) ?_
              · go_simp
                refine hK.out _ _ ?_ (fun hHeld => ?_)
                · (try dsimp only)
                  (first | exact KEEP.out _ (by first | with_reducible assumption | exact Below.drew (by with_reducible assumption) | exact Heap.Below.alloc' (by with_reducible assumption) (Nat.le_refl _) _ | exact Heap.Below.alloc' (Below.drew (by with_reducible assumption)) (Nat.le_refl _) _ | exact Below.drew (Heap.Below.alloc' (by with_reducible assumption) (Nat.le_refl _) _) | exact Below.setCell (by with_reducible assumption) (by simp) _ | exact Below.setCell (Below.drew (by with_reducible assumption)) (by simp) _) | go_keep)
                clear hK K
                try simp only [Act.put, List.setIfInBounds_toArray, List.set_cons_zero, List.set_cons_succ]
                refine wpAnyH_ready (rs := [10]) (by kernel_rfl) (by simp) ?_
                refine AllReadyH.cons (i := 10) rfl (fun K hK => ?_) ?_
                · (first | (go_split_ands; refine step_app (by rfl) (.tmp 37) (.tmp 45) 29 (by rfl) (w.heap.size + 2) elemSrc sv ms.length (ms.flatMap tsrcCells) (by rfl) ?_ _ 1 [.int .i64 xn, .int .i64 xo, .slice xa xss.length xc, .bool xm] (by rfl) ?_ (by rfl) (tsrc_one ⟨xn, xo, xss, xm⟩ xa xss.length xc) (by omega) (by omega) ?_ ?_; (exact TG.sr (pv := pv) (uv := uv) (P := T.tabPeers (k + 1)) (ms := ms) (us := T.tabSubs k) (by first | with_reducible assumption | exact TG.drew (by with_reducible assumption) | exact TG.alloc (by with_reducible assumption) _ | exact TG.alloc (TG.drew (by with_reducible assumption)) _ | exact TG.drew (TG.alloc (by with_reducible assumption) _))); (repeat (first | ((with_reducible refine row_new3 _ _ 1 [.int .i64 xn, .int .i64 xo, .slice xa xss.length xc, .bool xm] (by decide) _ ?_); rfl) | with_reducible refine Row.drew ?_)); (exact Nat.le_trans (Nat.succ_le_of_lt hz1) (Below.size (B := w1.heap.size) (by first | with_reducible assumption | exact Below.drew (by with_reducible assumption) | exact Heap.Below.alloc' (by with_reducible assumption) (Nat.le_refl _) _ | exact Heap.Below.alloc' (Below.drew (by with_reducible assumption)) (Nat.le_refl _) _ | exact Below.drew (Heap.Below.alloc' (by with_reducible assumption) (Nat.le_refl _) _) | exact Below.setCell (by with_reducible assumption) (by simp) _ | exact Below.setCell (Below.drew (by with_reducible assumption)) (by simp) _))); intro v' w3 HO HG; have tb3 := TG.grownTB_s (w := w) (pv := pv) (uv := uv) (P := T.tabPeers (k + 1)) (ms := ms) (us := T.tabSubs k) (by first | with_reducible assumption | exact TG.drew (by with_reducible assumption) | exact TG.alloc (by with_reducible assumption) _ | exact TG.alloc (TG.drew (by with_reducible assumption)) _ | exact TG.drew (TG.alloc (by with_reducible assumption) _)) HG; have hbw3 := tb3.bel; have c3 := tb3.cells.2.1; have f3 := tb3.frozen 1; obtain ⟨va, vc, hv⟩ := own_form HO.out; subst hv))
                  refine hK.out _ _ ?_ (fun hHeld => ?_)
                  · (try dsimp only)
                    (first | exact KEEP.out _ (by first | with_reducible assumption | exact Below.drew (by with_reducible assumption) | exact Heap.Below.alloc' (by with_reducible assumption) (Nat.le_refl _) _ | exact Heap.Below.alloc' (Below.drew (by with_reducible assumption)) (Nat.le_refl _) _ | exact Below.drew (Heap.Below.alloc' (by with_reducible assumption) (Nat.le_refl _) _) | exact Below.setCell (by with_reducible assumption) (by simp) _ | exact Below.setCell (Below.drew (by with_reducible assumption)) (by simp) _) | go_keep)
                  clear hK K
                  try simp only [Act.put, List.setIfInBounds_toArray, List.set_cons_zero, List.set_cons_succ]
                  refine wpAnyH_take (i := 11) (v := ?_) rfl (by kernel_rfl) (by kernel_rfl) (by kernel_rfl) (fun _ _ _ h => h) (Or.inl ⟨by rfl, ?_⟩) (by assumption) ?_
                  rotate_left
                  · intro w hSw
                    (try dsimp only at hSw)
                    go_simp
                    try with_reducible rfl
                  try simp only [Act.put, List.setIfInBounds_toArray, List.set_cons_zero, List.set_cons_succ]
                  refine wpAnyH_ready (rs := [12]) (by kernel_rfl) (by simp) ?_
                  refine AllReadyH.cons (i := 12) rfl (fun K hK => ?_) ?_
                  · go_simp
                    refine hK.out _ _ ?_ (fun hHeld => ?_)
                    · (try dsimp only)
                      (first | exact KEEP.out _ (by first | with_reducible assumption | exact Below.drew (by with_reducible assumption) | exact Heap.Below.alloc' (by with_reducible assumption) (Nat.le_refl _) _ | exact Heap.Below.alloc' (Below.drew (by with_reducible assumption)) (Nat.le_refl _) _ | exact Below.drew (Heap.Below.alloc' (by with_reducible assumption) (Nat.le_refl _) _) | exact Below.setCell (by with_reducible assumption) (by simp) _ | exact Below.setCell (Below.drew (by with_reducible assumption)) (by simp) _) | go_keep)
                    clear hK K
                    try simp only [Act.put, List.setIfInBounds_toArray, List.set_cons_zero, List.set_cons_succ]
                    refine wpAnyH_done (by kernel_rfl) ?_ _
                    refine NoPanic.normal ?_
                    go_wp2_with fail
                    go_meet
                    exact ⟨_, ms ++ [(⟨xn, xo, xss, xm⟩, .slice xa xss.length xc)], TG.addSrc (w := w) (pv := pv) (uv := uv) (P := T.tabPeers (k + 1)) (ms := ms) (us := T.tabSubs k) (by first | with_reducible assumption | exact TG.drew (by with_reducible assumption) | exact TG.alloc (by with_reducible assumption) _ | exact TG.alloc (TG.drew (by with_reducible assumption)) _ | exact TG.drew (TG.alloc (by with_reducible assumption) _)) (⟨xn, xo, xss, xm⟩, .slice xa xss.length xc) (KROW.out _ (by first | with_reducible assumption | exact Below.drew (by with_reducible assumption) | exact Heap.Below.alloc' (by with_reducible assumption) (Nat.le_refl _) _ | exact Heap.Below.alloc' (Below.drew (by with_reducible assumption)) (Nat.le_refl _) _ | exact Below.drew (Heap.Below.alloc' (by with_reducible assumption) (Nat.le_refl _) _) | exact Below.setCell (by with_reducible assumption) (by simp) _ | exact Below.setCell (Below.drew (by with_reducible assumption)) (by simp) _)) HO HG, by rw [HF.out, List.map_append, HMS.out]; rfl⟩
                  exact AllReadyH.nil
                exact AllReadyH.nil
              exact AllReadyH.nil
            refine AllReadyH.cons (i := 9) rfl (fun K hK => ?_) ?_
            · go_simp
              refine hK.out _ _ ?_ (fun hHeld => ?_)
              · (try dsimp only)
                (first | exact KEEP.out _ (by first | with_reducible assumption | exact Below.drew (by with_reducible assumption) | exact Heap.Below.alloc' (by with_reducible assumption) (Nat.le_refl _) _ | exact Heap.Below.alloc' (Below.drew (by with_reducible assumption)) (Nat.le_refl _) _ | exact Below.drew (Heap.Below.alloc' (by with_reducible assumption) (Nat.le_refl _) _) | exact Below.setCell (by with_reducible assumption) (by simp) _ | exact Below.setCell (Below.drew (by with_reducible assumption)) (by simp) _) | go_keep)
              clear hK K
              try simp only [Act.put, List.setIfInBounds_toArray, List.set_cons_zero, List.set_cons_succ]
              refine wpAnyH_ready (rs := [1]) (by kernel_rfl) (by simp) ?_
              refine AllReadyH.cons (i := 1) rfl (fun K hK => ?_) ?_
              · go_simp
                refine hK.out _ _ ?_ (fun hHeld => ?_)
                · (try dsimp only)
                  (first | exact KEEP.out _ (by first | with_reducible assumption | exact Below.drew (by with_reducible assumption) | exact Heap.Below.alloc' (by with_reducible assumption) (Nat.le_refl _) _ | exact Heap.Below.alloc' (Below.drew (by with_reducible assumption)) (Nat.le_refl _) _ | exact Below.drew (Heap.Below.alloc' (by with_reducible assumption) (Nat.le_refl _) _) | exact Below.setCell (by with_reducible assumption) (by simp) _ | exact Below.setCell (Below.drew (by with_reducible assumption)) (by simp) _) | go_keep)
                clear hK K
                try simp only [Act.put, List.setIfInBounds_toArray, List.set_cons_zero, List.set_cons_succ]
                refine wpAnyH_ready (rs := [10]) (by kernel_rfl) (by simp) ?_
                refine AllReadyH.cons (i := 10) rfl (fun K hK => ?_) ?_
                · (first | (go_split_ands; refine step_app (by rfl) (.tmp 37) (.tmp 45) 29 (by rfl) (w.heap.size + 2) elemSrc sv ms.length (ms.flatMap tsrcCells) (by rfl) ?_ _ 1 [.int .i64 xn, .int .i64 xo, .slice xa xss.length xc, .bool xm] (by rfl) ?_ (by rfl) (tsrc_one ⟨xn, xo, xss, xm⟩ xa xss.length xc) (by omega) (by omega) ?_ ?_; (exact TG.sr (pv := pv) (uv := uv) (P := T.tabPeers (k + 1)) (ms := ms) (us := T.tabSubs k) (by first | with_reducible assumption | exact TG.drew (by with_reducible assumption) | exact TG.alloc (by with_reducible assumption) _ | exact TG.alloc (TG.drew (by with_reducible assumption)) _ | exact TG.drew (TG.alloc (by with_reducible assumption) _))); (repeat (first | ((with_reducible refine row_new3 _ _ 1 [.int .i64 xn, .int .i64 xo, .slice xa xss.length xc, .bool xm] (by decide) _ ?_); rfl) | with_reducible refine Row.drew ?_)); (exact Nat.le_trans (Nat.succ_le_of_lt hz1) (Below.size (B := w1.heap.size) (by first | with_reducible assumption | exact Below.drew (by with_reducible assumption) | exact Heap.Below.alloc' (by with_reducible assumption) (Nat.le_refl _) _ | exact Heap.Below.alloc' (Below.drew (by with_reducible assumption)) (Nat.le_refl _) _ | exact Below.drew (Heap.Below.alloc' (by with_reducible assumption) (Nat.le_refl _) _) | exact Below.setCell (by with_reducible assumption) (by simp) _ | exact Below.setCell (Below.drew (by with_reducible assumption)) (by simp) _))); intro v' w3 HO HG; have tb3 := TG.grownTB_s (w := w) (pv := pv) (uv := uv) (P := T.tabPeers (k + 1)) (ms := ms) (us := T.tabSubs k) (by first | with_reducible assumption | exact TG.drew (by with_reducible assumption) | exact TG.alloc (by with_reducible assumption) _ | exact TG.alloc (TG.drew (by with_reducible assumption)) _ | exact TG.drew (TG.alloc (by with_reducible assumption) _)) HG; have hbw3 := tb3.bel; have c3 := tb3.cells.2.1; have f3 := tb3.frozen 1; obtain ⟨va, vc, hv⟩ := own_form HO.out; subst hv))
                  refine hK.out _ _ ?_ (fun hHeld => ?_)
                  · (try dsimp only)
                    (first | exact KEEP.out _ (by first | with_reducible assumption | exact Below.drew (by with_reducible assumption) | exact Heap.Below.alloc' (by with_reducible assumption) (Nat.le_refl _) _ | exact Heap.Below.alloc' (Below.drew (by with_reducible assumption)) (Nat.le_refl _) _ | exact Below.drew (Heap.Below.alloc' (by with_reducible assumption) (Nat.le_refl _) _) | exact Below.setCell (by with_reducible assumption) (by simp) _ | exact Below.setCell (Below.drew (by with_reducible assumption)) (by simp) _) | go_keep)
                  clear hK K
                  try simp only [Act.put, List.setIfInBounds_toArray, List.set_cons_zero, List.set_cons_succ]
                  refine wpAnyH_take (i := 11) (v := ?_) rfl (by kernel_rfl) (by kernel_rfl) (by kernel_rfl) (fun _ _ _ h => h) (Or.inl ⟨by rfl, ?_⟩) (by assumption) ?_
                  rotate_left
                  · intro w hSw
                    (try dsimp only at hSw)
                    go_simp
                    try with_reducible rfl
                  try simp only [Act.put, List.setIfInBounds_toArray, List.set_cons_zero, List.set_cons_succ]
                  refine wpAnyH_ready (rs := [12]) (by kernel_rfl) (by simp) ?_
                  refine AllReadyH.cons (i := 12) rfl (fun K hK => ?_) ?_
                  · go_simp
                    refine hK.out _ _ ?_ (fun hHeld => ?_)
                    · (try dsimp only)
                      (first | exact KEEP.out _ (by first | with_reducible assumption | exact Below.drew (by with_reducible assumption) | exact Heap.Below.alloc' (by with_reducible assumption) (Nat.le_refl _) _ | exact Heap.Below.alloc' (Below.drew (by with_reducible assumption)) (Nat.le_refl _) _ | exact Below.drew (Heap.Below.alloc' (by with_reducible assumption) (Nat.le_refl _) _) | exact Below.setCell (by with_reducible assumption) (by simp) _ | exact Below.setCell (Below.drew (by with_reducible assumption)) (by simp) _) | go_keep)
                    clear hK K
                    try simp only [Act.put, List.setIfInBounds_toArray, List.set_cons_zero, List.set_cons_succ]
                    refine wpAnyH_done (by kernel_rfl) ?_ _
                    refine NoPanic.normal ?_
                    go_wp2_with fail
                    go_meet
                    exact ⟨_, ms ++ [(⟨xn, xo, xss, xm⟩, .slice xa xss.length xc)], TG.addSrc (w := w) (pv := pv) (uv := uv) (P := T.tabPeers (k + 1)) (ms := ms) (us := T.tabSubs k) (by first | with_reducible assumption | exact TG.drew (by with_reducible assumption) | exact TG.alloc (by with_reducible assumption) _ | exact TG.alloc (TG.drew (by with_reducible assumption)) _ | exact TG.drew (TG.alloc (by with_reducible assumption) _)) (⟨xn, xo, xss, xm⟩, .slice xa xss.length xc) (KROW.out _ (by first | with_reducible assumption | exact Below.drew (by with_reducible assumption) | exact Heap.Below.alloc' (by with_reducible assumption) (Nat.le_refl _) _ | exact Heap.Below.alloc' (Below.drew (by with_reducible assumption)) (Nat.le_refl _) _ | exact Below.drew (Heap.Below.alloc' (by with_reducible assumption) (Nat.le_refl _) _) | exact Below.setCell (by with_reducible assumption) (by simp) _ | exact Below.setCell (Below.drew (by with_reducible assumption)) (by simp) _)) HO HG, by rw [HF.out, List.map_append, HMS.out]; rfl⟩
                  exact AllReadyH.nil
                exact AllReadyH.nil
              exact AllReadyH.nil
            exact AllReadyH.nil
          · have HF : Hid (T.tabSrcs (k + 1) = T.tabSrcs k) := by show _ = _; rw [HSS.out, if_neg h0, List.append_nil]
            have h0d : decide (0 ≤ T.srcAt ((k : Int) + 1)) = false := decide_eq_false h0
            go_wp2_with fail
            go_meet
            exact ⟨sv, ms, HTG1.out, by rw [HF.out]; exact HMS.out⟩
        case rest =>
          clear HTG1 HTG HSS CS HSK HMS hml hgl2
          obtain ⟨sv, ms, htg, hms⟩ := hcut
          have HMS := Lib.hid hms
          clear hms
          obtain ⟨W3, rfl⟩ : ∃ W3 : World, W3 = wc := ⟨_, rfl⟩
          have HTG := Lib.hid htg
          have hbw2 := htg.tb.bel
          clear htg HBW
          have CH := Lib.hid (Hears_any b T ((k : Int) + 1) W3 (HR.out _ hbw2))
          have HLL : (T.hears ((k : Int) + 1)).length ≤ 8 := hearsTo_len T _ 8
          have HMEM : Hid (∀ j, j < (T.hears ((k : Int) + 1)).length → 0 ≤ T.subAt ((T.hears ((k : Int) + 1)).getD j 0 : Nat) ((k : Int) + 1)) := fun j h => (hears_mem.1 (getD_mem h)).2.2
          have HTS := Lib.hid (tabSubs_succ T k)
          have HUS : Hid (∀ j, j < (T.hears ((k : Int) + 1)).length → T.tabSubs1 ((k : Int) + 1) ((T.hears ((k : Int) + 1)).take (j + 1)) = T.tabSubs1 ((k : Int) + 1) ((T.hears ((k : Int) + 1)).take j) ++ [T.subD ((T.hears ((k : Int) + 1)).getD j 0 : Nat) ((k : Int) + 1)]) := fun j h => by
            unfold Tab.tabSubs1; rw [take_snocN h, List.map_append]; rfl
          have HUL : Hid (∀ j, (T.tabSubs1 ((k : Int) + 1) ((T.hears ((k : Int) + 1)).take j)).length ≤ 8) := fun j => by unfold Tab.tabSubs1; rw [List.length_map, List.length_take]; omega
          have hul0 := (HNS.out k).2.2
          generalize T.hears ((k : Int) + 1) = L at *
          go_wp2_with fail
          (with_reducible refine CH.out.mono ?_)
          rintro e w1 ⟨⟨lv, rfl, hrow⟩, hb1⟩
          have HTG1 := Lib.hid (HTG.out.below hb1)
          have HROW := Lib.hid hrow
          obtain ⟨la, lcap, rfl, -, -⟩ := id hrow
          clear hb1 hrow CH HTG hbw2
          go_wp2_with fail
          go_loopw [52] (fun i w' => ∃ j : Nat, j ≤ L.length ∧ i = .int .i64 j ∧ ∃ uv', TG w w' pv sv uv' (T.tabPeers (k + 1)) ms (T.tabSubs k ++ T.tabSubs1 ((k : Int) + 1) (L.take j)) ∧ Row w' 3 (.slice la L.length lcap) L.length (ints L)) (fun i _ => L.length - (intOf i).toNat)
          case atStart => exact ⟨0, by omega, rfl, uv, by rw [List.take_zero]; show TG _ _ _ _ _ _ _ (T.tabSubs k ++ []); rw [List.append_nil]; exact HTG1.out, HROW.out⟩
          case round =>
            clear HTG1 HROW
            obtain ⟨j, hj, rfl, uv', htg, hrow⟩ := hrel
            have HTG := Lib.hid htg
            have HROW := Lib.hid hrow
            have hbw := htg.tb.bel
            clear htg
            by_cases hjl : j < L.length
            · obtain ⟨gl, offl, capl, e1, hgl3, hcells⟩ := int_open hrow (by omega)
              cases e1
              have hc := hcells j hjl
              have HU := Lib.hid (HUS.out j hjl)
              have hul := HUL.out j
              obtain ⟨i, g, off, x, hi, hie, rfl, hx, hkeep⟩ := HUK.out _ _ (HMEM.out j hjl)
              have KEEP := Lib.hid hkeep
              have ca := fun w1 (h : Below w.heap.size w w1) => SubAt_any b T (L.getD j 0 : Nat) ((k : Int) + 1) w1 (HR.out _ h)
              rw [hie] at ca
              rw [hx] at HU
              have CA := Lib.hid ca
              have cp := HTG.out.tb.cells.2.2
              have fp := HTG.out.tb.frozen 2
              have ne1 := World.new_ne wr _ cp
              have hiI : (i : Int) < (NU : Int) := Int.ofNat_lt.2 hi
              have hi0 : (0 : Int) ≤ (i : Int) := Int.natCast_nonneg i
              clear hcells hrow hkeep hie hx ca
              generalize L.getD j 0 = p at *
              have hlen : (T.tabSubs k ++ T.tabSubs1 ((k : Int) + 1) (L.take j)).length ≤ 90 := by rw [List.length_append]; omega
              generalize hUU : T.tabSubs k ++ T.tabSubs1 ((k : Int) + 1) (L.take j) = UU at *
              have HUU := Lib.hid hUU
              clear hUU
              obtain ⟨xp, xs, xw, xq⟩ := x
              dsimp only at KEEP
              have hz1 := HTG.out.tb.size
              have HTGW := HTG.out
              go_upto_region 14 with fail
              have hrw : Row wr 3 (.slice (some ⟨gl, offl, none⟩) L.length lcap) L.length (ints L) := HROW.out
              have rr0 : Below wr.heap.size wr wr := Below.refl _ _
              refine wp_region_noPanic ?_
              refine wp_region_held_drew (S := (fun w' => w'.cell? ⟨b, 2, none⟩ = some (.slice (some ⟨g, off, none⟩) NU uc) ∧ w'.cell? ⟨g, off + i * 4, none⟩ = some (.int .i64 xp) ∧ w'.cell? ⟨g, off + i * 4 + 1, none⟩ = some (.int .i64 xs) ∧ w'.cell? ⟨g, off + i * 4 + 2, none⟩ = some (.int .i64 xw) ∧ w'.cell? ⟨g, off + i * 4 + 3, none⟩ = some (.bool xq) ∧ Below w.heap.size w w')) (by kernel_rfl) ?_ (fun hHeld => ?_)
              · (try dsimp only)
                (first | exact KEEP.out _ (by first | with_reducible assumption | exact Below.drew (by with_reducible assumption) | exact Heap.Below.alloc' (by with_reducible assumption) (Nat.le_refl _) _ | exact Heap.Below.alloc' (Below.drew (by with_reducible assumption)) (Nat.le_refl _) _ | exact Below.drew (Heap.Below.alloc' (by with_reducible assumption) (Nat.le_refl _) _) | exact Below.setCell (by with_reducible assumption) (by simp) _ | exact Below.setCell (Below.drew (by with_reducible assumption)) (by simp) _) | go_keep)
              refine wpAnyH_take (i := 0) (v := ?_) rfl (by kernel_rfl) (by kernel_rfl) (by kernel_rfl) (fun _ _ _ h => h) (Or.inl ⟨by rfl, ?_⟩) (by assumption) ?_
              rotate_left
              · intro w hSw
                (try dsimp only at hSw)
                go_simp
                try with_reducible rfl
              try simp only [Act.put, List.setIfInBounds_toArray, List.set_cons_zero, List.set_cons_succ]
              refine wpAnyH_take (i := 2) (v := ?_) rfl (by kernel_rfl) (by kernel_rfl) (by kernel_rfl) (fun _ _ _ h => h) (Or.inl ⟨by rfl, ?_⟩) (by assumption) ?_
              rotate_left
              · intro w hSw
                (try dsimp only at hSw)
                go_simp
                try with_reducible rfl
              try simp only [Act.put, List.setIfInBounds_toArray, List.set_cons_zero, List.set_cons_succ]
              refine wpAnyH_take (i := 3) (v := ?_) rfl (by kernel_rfl) (by kernel_rfl) (by kernel_rfl) (fun _ _ _ h => h) (Or.inl ⟨by rfl, ?_⟩) (by assumption) ?_
              rotate_left
              · intro w hSw
                (try dsimp only at hSw)
                go_simp
                try with_reducible rfl
              try simp only [Act.put, List.setIfInBounds_toArray, List.set_cons_zero, List.set_cons_succ]
              refine wpAnyH_take (i := 4) (v := ?_) rfl (by kernel_rfl) (by kernel_rfl) (by kernel_rfl) (fun _ _ _ h => h) (Or.inl ⟨by rfl, ?_⟩) (by assumption) ?_
              rotate_left
              · intro w hSw
                (try dsimp only at hSw)
                go_simp
                try with_reducible rfl
              try simp only [Act.put, List.setIfInBounds_toArray, List.set_cons_zero, List.set_cons_succ]
              refine wpAnyH_take (i := 5) (v := ?_) rfl (by kernel_rfl) (by kernel_rfl) (by kernel_rfl) (fun _ _ _ h => h) (Or.inl ⟨by rfl, ?_⟩) (by assumption) ?_
              rotate_left
              · intro w hSw
                (try dsimp only at hSw)
                go_simp
                try with_reducible rfl
              try simp only [Act.put, List.setIfInBounds_toArray, List.set_cons_zero, List.set_cons_succ]
              refine wpAnyH_take (i := 6) (v := ?_) rfl (by kernel_rfl) (by kernel_rfl) (by kernel_rfl) (fun _ _ _ h => h) (Or.inl ⟨by rfl, ?_⟩) (by assumption) ?_
              rotate_left
              · intro w hSw
                (try dsimp only at hSw)
                go_simp
                try with_reducible rfl
              try simp only [Act.put, List.setIfInBounds_toArray, List.set_cons_zero, List.set_cons_succ]
              refine wpAnyH_take (i := 7) (v := ?_) rfl (by kernel_rfl) (by kernel_rfl) (by kernel_rfl) (fun _ _ _ h => h) (Or.inl ⟨by rfl, ?_⟩) (by assumption) ?_
              rotate_left
              · intro w hSw
                (try dsimp only at hSw)
                go_simp
                try with_reducible rfl
              try simp only [Act.put, List.setIfInBounds_toArray, List.set_cons_zero, List.set_cons_succ]
              refine wpAnyH_take (i := 8) (v := ?_) rfl (by kernel_rfl) (by kernel_rfl) (by kernel_rfl) (fun _ _ _ h => h) (Or.inl ⟨by rfl, ?_⟩) (by assumption) ?_
              rotate_left
              · intro w hSw
                (try dsimp only at hSw)
                go_simp
                try with_reducible rfl
              try simp only [Act.put, List.setIfInBounds_toArray, List.set_cons_zero, List.set_cons_succ]
              refine wpAnyH_ready (rs := [1, 9]) (by kernel_rfl) (by simp) ?_
              refine AllReadyH.cons (i := 1) rfl (fun K hK => ?_) ?_
              · go_simp
                refine hK.out _ _ ?_ (fun hHeld => ?_)
                · (try dsimp only)
                  (first | exact KEEP.out _ (by first | with_reducible assumption | exact Below.drew (by with_reducible assumption) | exact Heap.Below.alloc' (by with_reducible assumption) (Nat.le_refl _) _ | exact Heap.Below.alloc' (Below.drew (by with_reducible assumption)) (Nat.le_refl _) _ | exact Below.drew (Heap.Below.alloc' (by with_reducible assumption) (Nat.le_refl _) _) | exact Below.setCell (by with_reducible assumption) (by simp) _ | exact Below.setCell (Below.drew (by with_reducible assumption)) (by simp) _) | go_keep)
                clear hK K
                try simp only [Act.put, List.setIfInBounds_toArray, List.set_cons_zero, List.set_cons_succ]
                refine wpAnyH_ready (rs := [9]) (by kernel_rfl) (by simp) ?_
                refine AllReadyH.cons (i := 9) rfl (fun K hK => ?_) ?_
                · go_simp
                  (first | (go_at_call 19; go_split_ands; (with_reducible refine Calls.mono (CA.out _ (by first | with_reducible assumption | exact Below.drew (by with_reducible assumption) | exact Heap.Below.alloc' (by with_reducible assumption) (Nat.le_refl _) _ | exact Heap.Below.alloc' (Below.drew (by with_reducible assumption)) (Nat.le_refl _) _ | exact Below.drew (Heap.Below.alloc' (by with_reducible assumption) (Nat.le_refl _) _) | exact Below.setCell (by with_reducible assumption) (by simp) _ | exact Below.setCell (Below.drew (by with_reducible assumption)) (by simp) _)) ?_); rintro e w4 ⟨rfl, hb4⟩; have hbw4 := Below.trans (by first | with_reducible assumption | exact Below.drew (by with_reducible assumption) | exact Heap.Below.alloc' (by with_reducible assumption) (Nat.le_refl _) _ | exact Heap.Below.alloc' (Below.drew (by with_reducible assumption)) (Nat.le_refl _) _ | exact Below.drew (Heap.Below.alloc' (by with_reducible assumption) (Nat.le_refl _) _) | exact Below.setCell (by with_reducible assumption) (by simp) _ | exact Below.setCell (Below.drew (by with_reducible assumption)) (by simp) _) (hb4.mono (Below.size (by first | with_reducible assumption | exact Below.drew (by with_reducible assumption) | exact Heap.Below.alloc' (by with_reducible assumption) (Nat.le_refl _) _ | exact Heap.Below.alloc' (Below.drew (by with_reducible assumption)) (Nat.le_refl _) _ | exact Below.drew (Heap.Below.alloc' (by with_reducible assumption) (Nat.le_refl _) _) | exact Below.setCell (by with_reducible assumption) (by simp) _ | exact Below.setCell (Below.drew (by with_reducible assumption)) (by simp) _))); have htg4 : TG w w4 pv sv uv' (T.tabPeers (k + 1)) ms UU := TG.below (by first | with_reducible assumption | exact TG.drew (by with_reducible assumption) | exact TG.alloc (by with_reducible assumption) _ | exact TG.alloc (TG.drew (by with_reducible assumption)) _ | exact TG.drew (TG.alloc (by with_reducible assumption) _)) hb4; have rr4 : Below wr.heap.size wr w4 := Heap.Below.call (by first | with_reducible assumption | exact Below.drew (by with_reducible assumption) | exact Heap.Below.alloc' (by with_reducible assumption) (Nat.le_refl _) _ | exact Heap.Below.alloc' (Below.drew (by with_reducible assumption)) (Nat.le_refl _) _ | exact Below.drew (Heap.Below.alloc' (by with_reducible assumption) (Nat.le_refl _) _) | exact Below.setCell (by with_reducible assumption) (by simp) _ | exact Below.setCell (Below.drew (by with_reducible assumption)) (by simp) _) (Nat.le_refl _) hb4; have c4 := htg4.tb.cells.2.2; have f4 := htg4.tb.frozen 2; have ne4 := World.new_ne w4 _ c4; have hz4 := htg4.tb.size) | (go_split_ands; refine step_app (by rfl) (.tmp 57) (.tmp 68) 30 (by rfl) (w.heap.size + 2) elemSub uv' UU.length (UU.flatMap tsubCells) (by rfl) ?_ _ 1 [.int .i64 xp, .int .i64 xs, .int .i64 xw, .bool xq] (by rfl) ?_ (by rfl) (tsub_one ⟨xp, xs, xw, xq⟩) (by omega) (by omega) ?_ ?_; (exact TG.su (pv := pv) (sv := sv) (P := T.tabPeers (k + 1)) (ms := ms) (us := UU) (by first | with_reducible assumption | exact TG.drew (by with_reducible assumption) | exact TG.alloc (by with_reducible assumption) _ | exact TG.alloc (TG.drew (by with_reducible assumption)) _ | exact TG.drew (TG.alloc (by with_reducible assumption) _))); (repeat (first | ((with_reducible refine row_new3 _ _ 1 [.int .i64 xp, .int .i64 xs, .int .i64 xw, .bool xq] (by decide) _ ?_); rfl) | with_reducible refine Row.drew ?_)); (exact Nat.le_trans (Nat.succ_le_of_lt hz1) (Below.size (B := wr.heap.size) (by first | with_reducible assumption | exact Below.drew (by with_reducible assumption) | exact Heap.Below.alloc' (by with_reducible assumption) (Nat.le_refl _) _ | exact Heap.Below.alloc' (Below.drew (by with_reducible assumption)) (Nat.le_refl _) _ | exact Below.drew (Heap.Below.alloc' (by with_reducible assumption) (Nat.le_refl _) _) | exact Below.setCell (by with_reducible assumption) (by simp) _ | exact Below.setCell (Below.drew (by with_reducible assumption)) (by simp) _))); intro v' w3 HO HG; have hrw3 : Row w3 3 (.slice (some ⟨gl, offl, none⟩) L.length lcap) L.length (ints L) := Row.grown (Row.below hrw (by first | with_reducible assumption | exact Below.drew (by with_reducible assumption) | exact Heap.Below.alloc' (by with_reducible assumption) (Nat.le_refl _) _ | exact Heap.Below.alloc' (Below.drew (by with_reducible assumption)) (Nat.le_refl _) _ | exact Below.drew (Heap.Below.alloc' (by with_reducible assumption) (Nat.le_refl _) _) | exact Below.setCell (by with_reducible assumption) (by simp) _ | exact Below.setCell (Below.drew (by with_reducible assumption)) (by simp) _)) (TG.su (w := w) (pv := pv) (sv := sv) (P := T.tabPeers (k + 1)) (ms := ms) (us := UU) (by first | with_reducible assumption | exact TG.drew (by with_reducible assumption) | exact TG.alloc (by with_reducible assumption) _ | exact TG.alloc (TG.drew (by with_reducible assumption)) _ | exact TG.drew (TG.alloc (by with_reducible assumption) _))) HG.out (by decide); have tb3 := TG.grownTB_u (w := w) (pv := pv) (sv := sv) (P := T.tabPeers (k + 1)) (ms := ms) (us := UU) (by first | with_reducible assumption | exact TG.drew (by with_reducible assumption) | exact TG.alloc (by with_reducible assumption) _ | exact TG.alloc (TG.drew (by with_reducible assumption)) _ | exact TG.drew (TG.alloc (by with_reducible assumption) _)) HG; have hbw3 := tb3.bel; have c3 := tb3.cells.2.2; have f3 := tb3.frozen 2; obtain ⟨va, vc, hv⟩ := own_form HO.out; subst hv))
                  go_wp2_with fail
                  refine hK.out _ _ ?_ (fun hHeld => ?_)
                  · (try dsimp only)
                    (first | exact KEEP.out _ (by first | with_reducible assumption | exact Below.drew (by with_reducible assumption) | exact Heap.Below.alloc' (by with_reducible assumption) (Nat.le_refl _) _ | exact Heap.Below.alloc' (Below.drew (by with_reducible assumption)) (Nat.le_refl _) _ | exact Below.drew (Heap.Below.alloc' (by with_reducible assumption) (Nat.le_refl _) _) | exact Below.setCell (by with_reducible assumption) (by simp) _ | exact Below.setCell (Below.drew (by with_reducible assumption)) (by simp) _) | go_keep)
                  clear hK K
                  try simp only [Act.put, List.setIfInBounds_toArray, List.set_cons_zero, List.set_cons_succ]
                  refine wpAnyH_take (i := 10) (v := ?_) rfl (by kernel_rfl) (by kernel_rfl) (by kernel_rfl) (fun _ _ _ h => h) (Or.inl ⟨by rfl, ?_⟩) (by assumption) ?_
                  rotate_left
                  · intro w hSw
                    (try dsimp only at hSw)
                    go_simp
                    try with_reducible rfl
                  try simp only [Act.put, List.setIfInBounds_toArray, List.set_cons_zero, List.set_cons_succ]
                  refine wpAnyH_take (i := 11) (v := ?_) rfl (by kernel_rfl) (by kernel_rfl) (by kernel_rfl) (fun _ _ _ h => h) (Or.inl ⟨by rfl, ?_⟩) (by assumption) ?_
                  rotate_left
                  · intro w hSw
                    (try dsimp only at hSw)
                    go_simp
                    try with_reducible rfl
                  try simp only [Act.put, List.setIfInBounds_toArray, List.set_cons_zero, List.set_cons_succ]
                  refine wpAnyH_ready (rs := [12]) (by kernel_rfl) (by simp) ?_
                  refine AllReadyH.cons (i := 12) rfl (fun K hK => ?_) ?_
                  · go_simp
                    refine hK.out _ _ ?_ (fun hHeld => ?_)
                    · (try dsimp only)
                      (first | exact KEEP.out _ (by first | with_reducible assumption | exact Below.drew (by with_reducible assumption) | exact Heap.Below.alloc' (by with_reducible assumption) (Nat.le_refl _) _ | exact Heap.Below.alloc' (Below.drew (by with_reducible assumption)) (Nat.le_refl _) _ | exact Below.drew (Heap.Below.alloc' (by with_reducible assumption) (Nat.le_refl _) _) | exact Below.setCell (by with_reducible assumption) (by simp) _ | exact Below.setCell (Below.drew (by with_reducible assumption)) (by simp) _) | go_keep)
                    clear hK K
                    try simp only [Act.put, List.setIfInBounds_toArray, List.set_cons_zero, List.set_cons_succ]
                    refine wpAnyH_ready (rs := [13]) (by kernel_rfl) (by simp) ?_
                    refine AllReadyH.cons (i := 13) rfl (fun K hK => ?_) ?_
                    · (first | (go_at_call 19; go_split_ands; (with_reducible refine Calls.mono (CA.out _ (by first | with_reducible assumption | exact Below.drew (by with_reducible assumption) | exact Heap.Below.alloc' (by with_reducible assumption) (Nat.le_refl _) _ | exact Heap.Below.alloc' (Below.drew (by with_reducible assumption)) (Nat.le_refl _) _ | exact Below.drew (Heap.Below.alloc' (by with_reducible assumption) (Nat.le_refl _) _) | exact Below.setCell (by with_reducible assumption) (by simp) _ | exact Below.setCell (Below.drew (by with_reducible assumption)) (by simp) _)) ?_); rintro e w4 ⟨rfl, hb4⟩; have hbw4 := Below.trans (by first | with_reducible assumption | exact Below.drew (by with_reducible assumption) | exact Heap.Below.alloc' (by with_reducible assumption) (Nat.le_refl _) _ | exact Heap.Below.alloc' (Below.drew (by with_reducible assumption)) (Nat.le_refl _) _ | exact Below.drew (Heap.Below.alloc' (by with_reducible assumption) (Nat.le_refl _) _) | exact Below.setCell (by with_reducible assumption) (by simp) _ | exact Below.setCell (Below.drew (by with_reducible assumption)) (by simp) _) (hb4.mono (Below.size (by first | with_reducible assumption | exact Below.drew (by with_reducible assumption) | exact Heap.Below.alloc' (by with_reducible assumption) (Nat.le_refl _) _ | exact Heap.Below.alloc' (Below.drew (by with_reducible assumption)) (Nat.le_refl _) _ | exact Below.drew (Heap.Below.alloc' (by with_reducible assumption) (Nat.le_refl _) _) | exact Below.setCell (by with_reducible assumption) (by simp) _ | exact Below.setCell (Below.drew (by with_reducible assumption)) (by simp) _))); have htg4 : TG w w4 pv sv uv' (T.tabPeers (k + 1)) ms UU := TG.below (by first | with_reducible assumption | exact TG.drew (by with_reducible assumption) | exact TG.alloc (by with_reducible assumption) _ | exact TG.alloc (TG.drew (by with_reducible assumption)) _ | exact TG.drew (TG.alloc (by with_reducible assumption) _)) hb4; have rr4 : Below wr.heap.size wr w4 := Heap.Below.call (by first | with_reducible assumption | exact Below.drew (by with_reducible assumption) | exact Heap.Below.alloc' (by with_reducible assumption) (Nat.le_refl _) _ | exact Heap.Below.alloc' (Below.drew (by with_reducible assumption)) (Nat.le_refl _) _ | exact Below.drew (Heap.Below.alloc' (by with_reducible assumption) (Nat.le_refl _) _) | exact Below.setCell (by with_reducible assumption) (by simp) _ | exact Below.setCell (Below.drew (by with_reducible assumption)) (by simp) _) (Nat.le_refl _) hb4; have c4 := htg4.tb.cells.2.2; have f4 := htg4.tb.frozen 2; have ne4 := World.new_ne w4 _ c4; have hz4 := htg4.tb.size) | (go_split_ands; refine step_app (by rfl) (.tmp 57) (.tmp 68) 30 (by rfl) (w.heap.size + 2) elemSub uv' UU.length (UU.flatMap tsubCells) (by rfl) ?_ _ 1 [.int .i64 xp, .int .i64 xs, .int .i64 xw, .bool xq] (by rfl) ?_ (by rfl) (tsub_one ⟨xp, xs, xw, xq⟩) (by omega) (by omega) ?_ ?_; (exact TG.su (pv := pv) (sv := sv) (P := T.tabPeers (k + 1)) (ms := ms) (us := UU) (by first | with_reducible assumption | exact TG.drew (by with_reducible assumption) | exact TG.alloc (by with_reducible assumption) _ | exact TG.alloc (TG.drew (by with_reducible assumption)) _ | exact TG.drew (TG.alloc (by with_reducible assumption) _))); (repeat (first | ((with_reducible refine row_new3 _ _ 1 [.int .i64 xp, .int .i64 xs, .int .i64 xw, .bool xq] (by decide) _ ?_); rfl) | with_reducible refine Row.drew ?_)); (exact Nat.le_trans (Nat.succ_le_of_lt hz1) (Below.size (B := wr.heap.size) (by first | with_reducible assumption | exact Below.drew (by with_reducible assumption) | exact Heap.Below.alloc' (by with_reducible assumption) (Nat.le_refl _) _ | exact Heap.Below.alloc' (Below.drew (by with_reducible assumption)) (Nat.le_refl _) _ | exact Below.drew (Heap.Below.alloc' (by with_reducible assumption) (Nat.le_refl _) _) | exact Below.setCell (by with_reducible assumption) (by simp) _ | exact Below.setCell (Below.drew (by with_reducible assumption)) (by simp) _))); intro v' w3 HO HG; have hrw3 : Row w3 3 (.slice (some ⟨gl, offl, none⟩) L.length lcap) L.length (ints L) := Row.grown (Row.below hrw (by first | with_reducible assumption | exact Below.drew (by with_reducible assumption) | exact Heap.Below.alloc' (by with_reducible assumption) (Nat.le_refl _) _ | exact Heap.Below.alloc' (Below.drew (by with_reducible assumption)) (Nat.le_refl _) _ | exact Below.drew (Heap.Below.alloc' (by with_reducible assumption) (Nat.le_refl _) _) | exact Below.setCell (by with_reducible assumption) (by simp) _ | exact Below.setCell (Below.drew (by with_reducible assumption)) (by simp) _)) (TG.su (w := w) (pv := pv) (sv := sv) (P := T.tabPeers (k + 1)) (ms := ms) (us := UU) (by first | with_reducible assumption | exact TG.drew (by with_reducible assumption) | exact TG.alloc (by with_reducible assumption) _ | exact TG.alloc (TG.drew (by with_reducible assumption)) _ | exact TG.drew (TG.alloc (by with_reducible assumption) _))) HG.out (by decide); have tb3 := TG.grownTB_u (w := w) (pv := pv) (sv := sv) (P := T.tabPeers (k + 1)) (ms := ms) (us := UU) (by first | with_reducible assumption | exact TG.drew (by with_reducible assumption) | exact TG.alloc (by with_reducible assumption) _ | exact TG.alloc (TG.drew (by with_reducible assumption)) _ | exact TG.drew (TG.alloc (by with_reducible assumption) _)) HG; have hbw3 := tb3.bel; have c3 := tb3.cells.2.2; have f3 := tb3.frozen 2; obtain ⟨va, vc, hv⟩ := own_form HO.out; subst hv))
                      refine hK.out _ _ ?_ (fun hHeld => ?_)
                      · (try dsimp only)
                        (first | exact KEEP.out _ (by first | with_reducible assumption | exact Below.drew (by with_reducible assumption) | exact Heap.Below.alloc' (by with_reducible assumption) (Nat.le_refl _) _ | exact Heap.Below.alloc' (Below.drew (by with_reducible assumption)) (Nat.le_refl _) _ | exact Below.drew (Heap.Below.alloc' (by with_reducible assumption) (Nat.le_refl _) _) | exact Below.setCell (by with_reducible assumption) (by simp) _ | exact Below.setCell (Below.drew (by with_reducible assumption)) (by simp) _) | go_keep)
                      clear hK K
                      try simp only [Act.put, List.setIfInBounds_toArray, List.set_cons_zero, List.set_cons_succ]
                      refine wpAnyH_take (i := 14) (v := ?_) rfl (by kernel_rfl) (by kernel_rfl) (by kernel_rfl) (fun _ _ _ h => h) (Or.inl ⟨by rfl, ?_⟩) (by assumption) ?_
                      rotate_left
                      · intro w hSw
                        (try dsimp only at hSw)
                        go_simp
                        try with_reducible rfl
                      try simp only [Act.put, List.setIfInBounds_toArray, List.set_cons_zero, List.set_cons_succ]
                      refine wpAnyH_ready (rs := [15]) (by kernel_rfl) (by simp) ?_
                      refine AllReadyH.cons (i := 15) rfl (fun K hK => ?_) ?_
                      · go_simp
                        refine hK.out _ _ ?_ (fun hHeld => ?_)
                        · (try dsimp only)
                          (first | exact KEEP.out _ (by first | with_reducible assumption | exact Below.drew (by with_reducible assumption) | exact Heap.Below.alloc' (by with_reducible assumption) (Nat.le_refl _) _ | exact Heap.Below.alloc' (Below.drew (by with_reducible assumption)) (Nat.le_refl _) _ | exact Below.drew (Heap.Below.alloc' (by with_reducible assumption) (Nat.le_refl _) _) | exact Below.setCell (by with_reducible assumption) (by simp) _ | exact Below.setCell (Below.drew (by with_reducible assumption)) (by simp) _) | go_keep)
                        clear hK K
                        try simp only [Act.put, List.setIfInBounds_toArray, List.set_cons_zero, List.set_cons_succ]
                        refine wpAnyH_done (by kernel_rfl) ?_ _
                        refine NoPanic.normal ?_
                        have hfin : TG w (w3.setCell ⟨w.heap.size + 1, 2, none⟩ (.slice va (UU.length + 1) vc)) pv sv (.slice va (UU.length + 1) vc) (T.tabPeers (k + 1)) ms (UU ++ [⟨xp, xs, xw, xq⟩]) := TG.addSub (w := w) (pv := pv) (sv := sv) (P := T.tabPeers (k + 1)) (ms := ms) (us := UU) (by first | with_reducible assumption | exact TG.drew (by with_reducible assumption) | exact TG.alloc (by with_reducible assumption) _ | exact TG.alloc (TG.drew (by with_reducible assumption)) _ | exact TG.drew (TG.alloc (by with_reducible assumption) _)) ⟨xp, xs, xw, xq⟩ HO HG
                        have hrow4 := hrw3.fr ((Fr.refl w3.heap.size (· = w.heap.size + 1) w3).setAt 2 (.slice va (UU.length + 1) vc)) (Nat.le_refl _) (tb_typ tb3 (by decide))
                        go_wp2
                        go_roundw
                        case rel =>
                          refine ⟨j + 1, by omega, by go_num, .slice va (UU.length + 1) vc, ?_, hrow4⟩
                          rw [HU.out, ← List.append_assoc, HUU.out]
                          exact hfin
                        case measure => simp [intOf]; omega
                      exact AllReadyH.nil
                    exact AllReadyH.nil
                  exact AllReadyH.nil
                exact AllReadyH.nil
              refine AllReadyH.cons (i := 9) rfl (fun K hK => ?_) ?_
              · go_simp
                (first | (go_at_call 19; go_split_ands; (with_reducible refine Calls.mono (CA.out _ (by first | with_reducible assumption | exact Below.drew (by with_reducible assumption) | exact Heap.Below.alloc' (by with_reducible assumption) (Nat.le_refl _) _ | exact Heap.Below.alloc' (Below.drew (by with_reducible assumption)) (Nat.le_refl _) _ | exact Below.drew (Heap.Below.alloc' (by with_reducible assumption) (Nat.le_refl _) _) | exact Below.setCell (by with_reducible assumption) (by simp) _ | exact Below.setCell (Below.drew (by with_reducible assumption)) (by simp) _)) ?_); rintro e w4 ⟨rfl, hb4⟩; have hbw4 := Below.trans (by first | with_reducible assumption | exact Below.drew (by with_reducible assumption) | exact Heap.Below.alloc' (by with_reducible assumption) (Nat.le_refl _) _ | exact Heap.Below.alloc' (Below.drew (by with_reducible assumption)) (Nat.le_refl _) _ | exact Below.drew (Heap.Below.alloc' (by with_reducible assumption) (Nat.le_refl _) _) | exact Below.setCell (by with_reducible assumption) (by simp) _ | exact Below.setCell (Below.drew (by with_reducible assumption)) (by simp) _) (hb4.mono (Below.size (by first | with_reducible assumption | exact Below.drew (by with_reducible assumption) | exact Heap.Below.alloc' (by with_reducible assumption) (Nat.le_refl _) _ | exact Heap.Below.alloc' (Below.drew (by with_reducible assumption)) (Nat.le_refl _) _ | exact Below.drew (Heap.Below.alloc' (by with_reducible assumption) (Nat.le_refl _) _) | exact Below.setCell (by with_reducible assumption) (by simp) _ | exact Below.setCell (Below.drew (by with_reducible assumption)) (by simp) _))); have htg4 : TG w w4 pv sv uv' (T.tabPeers (k + 1)) ms UU := TG.below (by first | with_reducible assumption | exact TG.drew (by with_reducible assumption) | exact TG.alloc (by with_reducible assumption) _ | exact TG.alloc (TG.drew (by with_reducible assumption)) _ | exact TG.drew (TG.alloc (by with_reducible assumption) _)) hb4; have rr4 : Below wr.heap.size wr w4 := Heap.Below.call (by first | with_reducible assumption | exact Below.drew (by with_reducible assumption) | exact Heap.Below.alloc' (by with_reducible assumption) (Nat.le_refl _) _ | exact Heap.Below.alloc' (Below.drew (by with_reducible assumption)) (Nat.le_refl _) _ | exact Below.drew (Heap.Below.alloc' (by with_reducible assumption) (Nat.le_refl _) _) | exact Below.setCell (by with_reducible assumption) (by simp) _ | exact Below.setCell (Below.drew (by with_reducible assumption)) (by simp) _) (Nat.le_refl _) hb4; have c4 := htg4.tb.cells.2.2; have f4 := htg4.tb.frozen 2; have ne4 := World.new_ne w4 _ c4; have hz4 := htg4.tb.size) | (go_split_ands; refine step_app (by rfl) (.tmp 57) (.tmp 68) 30 (by rfl) (w.heap.size + 2) elemSub uv' UU.length (UU.flatMap tsubCells) (by rfl) ?_ _ 1 [.int .i64 xp, .int .i64 xs, .int .i64 xw, .bool xq] (by rfl) ?_ (by rfl) (tsub_one ⟨xp, xs, xw, xq⟩) (by omega) (by omega) ?_ ?_; (exact TG.su (pv := pv) (sv := sv) (P := T.tabPeers (k + 1)) (ms := ms) (us := UU) (by first | with_reducible assumption | exact TG.drew (by with_reducible assumption) | exact TG.alloc (by with_reducible assumption) _ | exact TG.alloc (TG.drew (by with_reducible assumption)) _ | exact TG.drew (TG.alloc (by with_reducible assumption) _))); (repeat (first | ((with_reducible refine row_new3 _ _ 1 [.int .i64 xp, .int .i64 xs, .int .i64 xw, .bool xq] (by decide) _ ?_); rfl) | with_reducible refine Row.drew ?_)); (exact Nat.le_trans (Nat.succ_le_of_lt hz1) (Below.size (B := wr.heap.size) (by first | with_reducible assumption | exact Below.drew (by with_reducible assumption) | exact Heap.Below.alloc' (by with_reducible assumption) (Nat.le_refl _) _ | exact Heap.Below.alloc' (Below.drew (by with_reducible assumption)) (Nat.le_refl _) _ | exact Below.drew (Heap.Below.alloc' (by with_reducible assumption) (Nat.le_refl _) _) | exact Below.setCell (by with_reducible assumption) (by simp) _ | exact Below.setCell (Below.drew (by with_reducible assumption)) (by simp) _))); intro v' w3 HO HG; have hrw3 : Row w3 3 (.slice (some ⟨gl, offl, none⟩) L.length lcap) L.length (ints L) := Row.grown (Row.below hrw (by first | with_reducible assumption | exact Below.drew (by with_reducible assumption) | exact Heap.Below.alloc' (by with_reducible assumption) (Nat.le_refl _) _ | exact Heap.Below.alloc' (Below.drew (by with_reducible assumption)) (Nat.le_refl _) _ | exact Below.drew (Heap.Below.alloc' (by with_reducible assumption) (Nat.le_refl _) _) | exact Below.setCell (by with_reducible assumption) (by simp) _ | exact Below.setCell (Below.drew (by with_reducible assumption)) (by simp) _)) (TG.su (w := w) (pv := pv) (sv := sv) (P := T.tabPeers (k + 1)) (ms := ms) (us := UU) (by first | with_reducible assumption | exact TG.drew (by with_reducible assumption) | exact TG.alloc (by with_reducible assumption) _ | exact TG.alloc (TG.drew (by with_reducible assumption)) _ | exact TG.drew (TG.alloc (by with_reducible assumption) _))) HG.out (by decide); have tb3 := TG.grownTB_u (w := w) (pv := pv) (sv := sv) (P := T.tabPeers (k + 1)) (ms := ms) (us := UU) (by first | with_reducible assumption | exact TG.drew (by with_reducible assumption) | exact TG.alloc (by with_reducible assumption) _ | exact TG.alloc (TG.drew (by with_reducible assumption)) _ | exact TG.drew (TG.alloc (by with_reducible assumption) _)) HG; have hbw3 := tb3.bel; have c3 := tb3.cells.2.2; have f3 := tb3.frozen 2; obtain ⟨va, vc, hv⟩ := own_form HO.out; subst hv))
                go_wp2_with fail
                refine hK.out _ _ ?_ (fun hHeld => ?_)
                · (try dsimp only)
                  (first | exact KEEP.out _ (by first | with_reducible assumption | exact Below.drew (by with_reducible assumption) | exact Heap.Below.alloc' (by with_reducible assumption) (Nat.le_refl _) _ | exact Heap.Below.alloc' (Below.drew (by with_reducible assumption)) (Nat.le_refl _) _ | exact Below.drew (Heap.Below.alloc' (by with_reducible assumption) (Nat.le_refl _) _) | exact Below.setCell (by with_reducible assumption) (by simp) _ | exact Below.setCell (Below.drew (by with_reducible assumption)) (by simp) _) | go_keep)
                clear hK K
                try simp only [Act.put, List.setIfInBounds_toArray, List.set_cons_zero, List.set_cons_succ]
                refine wpAnyH_take (i := 10) (v := ?_) rfl (by kernel_rfl) (by kernel_rfl) (by kernel_rfl) (fun _ _ _ h => h) (Or.inl ⟨by rfl, ?_⟩) (by assumption) ?_
                rotate_left
                · intro w hSw
                  (try dsimp only at hSw)
                  go_simp
                  try with_reducible rfl
                try simp only [Act.put, List.setIfInBounds_toArray, List.set_cons_zero, List.set_cons_succ]
                refine wpAnyH_take (i := 11) (v := ?_) rfl (by kernel_rfl) (by kernel_rfl) (by kernel_rfl) (fun _ _ _ h => h) (Or.inl ⟨by rfl, ?_⟩) (by assumption) ?_
                rotate_left
                · intro w hSw
                  (try dsimp only at hSw)
                  go_simp
                  try with_reducible rfl
                try simp only [Act.put, List.setIfInBounds_toArray, List.set_cons_zero, List.set_cons_succ]
                refine wpAnyH_ready (rs := [1, 12]) (by kernel_rfl) (by simp) ?_
                refine AllReadyH.cons (i := 1) rfl (fun K hK => ?_) ?_
                · go_simp
                  refine hK.out _ _ ?_ (fun hHeld => ?_)
                  · (try dsimp only)
                    (first | exact KEEP.out _ (by first | with_reducible assumption | exact Below.drew (by with_reducible assumption) | exact Heap.Below.alloc' (by with_reducible assumption) (Nat.le_refl _) _ | exact Heap.Below.alloc' (Below.drew (by with_reducible assumption)) (Nat.le_refl _) _ | exact Below.drew (Heap.Below.alloc' (by with_reducible assumption) (Nat.le_refl _) _) | exact Below.setCell (by with_reducible assumption) (by simp) _ | exact Below.setCell (Below.drew (by with_reducible assumption)) (by simp) _) | go_keep)
                  clear hK K
                  try simp only [Act.put, List.setIfInBounds_toArray, List.set_cons_zero, List.set_cons_succ]
                  refine wpAnyH_ready (rs := [12]) (by kernel_rfl) (by simp) ?_
                  refine AllReadyH.cons (i := 12) rfl (fun K hK => ?_) ?_
                  · go_simp
                    refine hK.out _ _ ?_ (fun hHeld => ?_)
                    · (try dsimp only)
                      (first | exact KEEP.out _ (by first | with_reducible assumption | exact Below.drew (by with_reducible assumption) | exact Heap.Below.alloc' (by with_reducible assumption) (Nat.le_refl _) _ | exact Heap.Below.alloc' (Below.drew (by with_reducible assumption)) (Nat.le_refl _) _ | exact Below.drew (Heap.Below.alloc' (by with_reducible assumption) (Nat.le_refl _) _) | exact Below.setCell (by with_reducible assumption) (by simp) _ | exact Below.setCell (Below.drew (by with_reducible assumption)) (by simp) _) | go_keep)
                    clear hK K
                    try simp only [Act.put, List.setIfInBounds_toArray, List.set_cons_zero, List.set_cons_succ]
                    refine wpAnyH_ready (rs := [13]) (by kernel_rfl) (by simp) ?_
                    refine AllReadyH.cons (i := 13) rfl (fun K hK => ?_) ?_
                    · (first | (go_at_call 19; go_split_ands; (with_reducible refine Calls.mono (CA.out _ (by first | with_reducible assumption | exact Below.drew (by with_reducible assumption) | exact Heap.Below.alloc' (by with_reducible assumption) (Nat.le_refl _) _ | exact Heap.Below.alloc' (Below.drew (by with_reducible assumption)) (Nat.le_refl _) _ | exact Below.drew (Heap.Below.alloc' (by with_reducible assumption) (Nat.le_refl _) _) | exact Below.setCell (by with_reducible assumption) (by simp) _ | exact Below.setCell (Below.drew (by with_reducible assumption)) (by simp) _)) ?_); rintro e w4 ⟨rfl, hb4⟩; have hbw4 := Below.trans (by first | with_reducible assumption | exact Below.drew (by with_reducible assumption) | exact Heap.Below.alloc' (by with_reducible assumption) (Nat.le_refl _) _ | exact Heap.Below.alloc' (Below.drew (by with_reducible assumption)) (Nat.le_refl _) _ | exact Below.drew (Heap.Below.alloc' (by with_reducible assumption) (Nat.le_refl _) _) | exact Below.setCell (by with_reducible assumption) (by simp) _ | exact Below.setCell (Below.drew (by with_reducible assumption)) (by simp) _) (hb4.mono (Below.size (by first | with_reducible assumption | exact Below.drew (by with_reducible assumption) | exact Heap.Below.alloc' (by with_reducible assumption) (Nat.le_refl _) _ | exact Heap.Below.alloc' (Below.drew (by with_reducible assumption)) (Nat.le_refl _) _ | exact Below.drew (Heap.Below.alloc' (by with_reducible assumption) (Nat.le_refl _) _) | exact Below.setCell (by with_reducible assumption) (by simp) _ | exact Below.setCell (Below.drew (by with_reducible assumption)) (by simp) _))); have htg4 : TG w w4 pv sv uv' (T.tabPeers (k + 1)) ms UU := TG.below (by first | with_reducible assumption | exact TG.drew (by with_reducible assumption) | exact TG.alloc (by with_reducible assumption) _ | exact TG.alloc (TG.drew (by with_reducible assumption)) _ | exact TG.drew (TG.alloc (by with_reducible assumption) _)) hb4; have rr4 : Below wr.heap.size wr w4 := Heap.Below.call (by first | with_reducible assumption | exact Below.drew (by with_reducible assumption) | exact Heap.Below.alloc' (by with_reducible assumption) (Nat.le_refl _) _ | exact Heap.Below.alloc' (Below.drew (by with_reducible assumption)) (Nat.le_refl _) _ | exact Below.drew (Heap.Below.alloc' (by with_reducible assumption) (Nat.le_refl _) _) | exact Below.setCell (by with_reducible assumption) (by simp) _ | exact Below.setCell (Below.drew (by with_reducible assumption)) (by simp) _) (Nat.le_refl _) hb4; have c4 := htg4.tb.cells.2.2; have f4 := htg4.tb.frozen 2; have ne4 := World.new_ne w4 _ c4; have hz4 := htg4.tb.size) | (go_split_ands; refine step_app (by rfl) (.tmp 57) (.tmp 68) 30 (by rfl) (w.heap.size + 2) elemSub uv' UU.length (UU.flatMap tsubCells) (by rfl) ?_ _ 1 [.int .i64 xp, .int .i64 xs, .int .i64 xw, .bool xq] (by rfl) ?_ (by rfl) (tsub_one ⟨xp, xs, xw, xq⟩) (by omega) (by omega) ?_ ?_; (exact TG.su (pv := pv) (sv := sv) (P := T.tabPeers (k + 1)) (ms := ms) (us := UU) (by first | with_reducible assumption | exact TG.drew (by with_reducible assumption) | exact TG.alloc (by with_reducible assumption) _ | exact TG.alloc (TG.drew (by with_reducible assumption)) _ | exact TG.drew (TG.alloc (by with_reducible assumption) _))); (repeat (first | ((with_reducible refine row_new3 _ _ 1 [.int .i64 xp, .int .i64 xs, .int .i64 xw, .bool xq] (by decide) _ ?_); rfl) | with_reducible refine Row.drew ?_)); (exact Nat.le_trans (Nat.succ_le_of_lt hz1) (Below.size (B := wr.heap.size) (by first | with_reducible assumption | exact Below.drew (by with_reducible assumption) | exact Heap.Below.alloc' (by with_reducible assumption) (Nat.le_refl _) _ | exact Heap.Below.alloc' (Below.drew (by with_reducible assumption)) (Nat.le_refl _) _ | exact Below.drew (Heap.Below.alloc' (by with_reducible assumption) (Nat.le_refl _) _) | exact Below.setCell (by with_reducible assumption) (by simp) _ | exact Below.setCell (Below.drew (by with_reducible assumption)) (by simp) _))); intro v' w3 HO HG; have hrw3 : Row w3 3 (.slice (some ⟨gl, offl, none⟩) L.length lcap) L.length (ints L) := Row.grown (Row.below hrw (by first | with_reducible assumption | exact Below.drew (by with_reducible assumption) | exact Heap.Below.alloc' (by with_reducible assumption) (Nat.le_refl _) _ | exact Heap.Below.alloc' (Below.drew (by with_reducible assumption)) (Nat.le_refl _) _ | exact Below.drew (Heap.Below.alloc' (by with_reducible assumption) (Nat.le_refl _) _) | exact Below.setCell (by with_reducible assumption) (by simp) _ | exact Below.setCell (Below.drew (by with_reducible assumption)) (by simp) _)) (TG.su (w := w) (pv := pv) (sv := sv) (P := T.tabPeers (k + 1)) (ms := ms) (us := UU) (by first | with_reducible assumption | exact TG.drew (by with_reducible assumption) | exact TG.alloc (by with_reducible assumption) _ | exact TG.alloc (TG.drew (by with_reducible assumption)) _ | exact TG.drew (TG.alloc (by with_reducible assumption) _))) HG.out (by decide); have tb3 := TG.grownTB_u (w := w) (pv := pv) (sv := sv) (P := T.tabPeers (k + 1)) (ms := ms) (us := UU) (by first | with_reducible assumption | exact TG.drew (by with_reducible assumption) | exact TG.alloc (by with_reducible assumption) _ | exact TG.alloc (TG.drew (by with_reducible assumption)) _ | exact TG.drew (TG.alloc (by with_reducible assumption) _)) HG; have hbw3 := tb3.bel; have c3 := tb3.cells.2.2; have f3 := tb3.frozen 2; obtain ⟨va, vc, hv⟩ := own_form HO.out; subst hv))
                      refine hK.out _ _ ?_ (fun hHeld => ?_)
                      · (try dsimp only)
                        (first | exact KEEP.out _ (by first | with_reducible assumption | exact Below.drew (by with_reducible assumption) | exact Heap.Below.alloc' (by with_reducible assumption) (Nat.le_refl _) _ | exact Heap.Below.alloc' (Below.drew (by with_reducible assumption)) (Nat.le_refl _) _ | exact Below.drew (Heap.Below.alloc' (by with_reducible assumption) (Nat.le_refl _) _) | exact Below.setCell (by with_reducible assumption) (by simp) _ | exact Below.setCell (Below.drew (by with_reducible assumption)) (by simp) _) | go_keep)
                      clear hK K
                      try simp only [Act.put, List.setIfInBounds_toArray, List.set_cons_zero, List.set_cons_succ]
                      refine wpAnyH_take (i := 14) (v := ?_) rfl (by kernel_rfl) (by kernel_rfl) (by kernel_rfl) (fun _ _ _ h => h) (Or.inl ⟨by rfl, ?_⟩) (by assumption) ?_
                      rotate_left
                      · intro w hSw
                        (try dsimp only at hSw)
                        go_simp
                        try with_reducible rfl
                      try simp only [Act.put, List.setIfInBounds_toArray, List.set_cons_zero, List.set_cons_succ]
                      refine wpAnyH_ready (rs := [15]) (by kernel_rfl) (by simp) ?_
                      refine AllReadyH.cons (i := 15) rfl (fun K hK => ?_) ?_
                      · go_simp
                        refine hK.out _ _ ?_ (fun hHeld => ?_)
                        · (try dsimp only)
                          (first | exact KEEP.out _ (by first | with_reducible assumption | exact Below.drew (by with_reducible assumption) | exact Heap.Below.alloc' (by with_reducible assumption) (Nat.le_refl _) _ | exact Heap.Below.alloc' (Below.drew (by with_reducible assumption)) (Nat.le_refl _) _ | exact Below.drew (Heap.Below.alloc' (by with_reducible assumption) (Nat.le_refl _) _) | exact Below.setCell (by with_reducible assumption) (by simp) _ | exact Below.setCell (Below.drew (by with_reducible assumption)) (by simp) _) | go_keep)
                        clear hK K
                        try simp only [Act.put, List.setIfInBounds_toArray, List.set_cons_zero, List.set_cons_succ]
                        refine wpAnyH_done (by kernel_rfl) ?_ _
                        refine NoPanic.normal ?_
                        have hfin : TG w (w3.setCell ⟨w.heap.size + 1, 2, none⟩ (.slice va (UU.length + 1) vc)) pv sv (.slice va (UU.length + 1) vc) (T.tabPeers (k + 1)) ms (UU ++ [⟨xp, xs, xw, xq⟩]) := TG.addSub (w := w) (pv := pv) (sv := sv) (P := T.tabPeers (k + 1)) (ms := ms) (us := UU) (by first | with_reducible assumption | exact TG.drew (by with_reducible assumption) | exact TG.alloc (by with_reducible assumption) _ | exact TG.alloc (TG.drew (by with_reducible assumption)) _ | exact TG.drew (TG.alloc (by with_reducible assumption) _)) ⟨xp, xs, xw, xq⟩ HO HG
                        have hrow4 := hrw3.fr ((Fr.refl w3.heap.size (· = w.heap.size + 1) w3).setAt 2 (.slice va (UU.length + 1) vc)) (Nat.le_refl _) (tb_typ tb3 (by decide))
                        go_wp2
                        go_roundw
                        case rel =>
                          refine ⟨j + 1, by omega, by go_num, .slice va (UU.length + 1) vc, ?_, hrow4⟩
                          rw [HU.out, ← List.append_assoc, HUU.out]
                          exact hfin
                        case measure => simp [intOf]; omega
                      exact AllReadyH.nil
                    exact AllReadyH.nil
                  exact AllReadyH.nil
                refine AllReadyH.cons (i := 12) rfl (fun K hK => ?_) ?_
                · go_simp
                  refine hK.out _ _ ?_ (fun hHeld => ?_)
                  · (try dsimp only)
                    (first | exact KEEP.out _ (by first | with_reducible assumption | exact Below.drew (by with_reducible assumption) | exact Heap.Below.alloc' (by with_reducible assumption) (Nat.le_refl _) _ | exact Heap.Below.alloc' (Below.drew (by with_reducible assumption)) (Nat.le_refl _) _ | exact Below.drew (Heap.Below.alloc' (by with_reducible assumption) (Nat.le_refl _) _) | exact Below.setCell (by with_reducible assumption) (by simp) _ | exact Below.setCell (Below.drew (by with_reducible assumption)) (by simp) _) | go_keep)
                  clear hK K
                  try simp only [Act.put, List.setIfInBounds_toArray, List.set_cons_zero, List.set_cons_succ]
                  refine wpAnyH_ready (rs := [1]) (by kernel_rfl) (by simp) ?_
                  refine AllReadyH.cons (i := 1) rfl (fun K hK => ?_) ?_
                  · go_simp
                    refine hK.out _ _ ?_ (fun hHeld => ?_)
                    · (try dsimp only)
                      (first | exact KEEP.out _ (by first | with_reducible assumption | exact Below.drew (by with_reducible assumption) | exact Heap.Below.alloc' (by with_reducible assumption) (Nat.le_refl _) _ | exact Heap.Below.alloc' (Below.drew (by with_reducible assumption)) (Nat.le_refl _) _ | exact Below.drew (Heap.Below.alloc' (by with_reducible assumption) (Nat.le_refl _) _) | exact Below.setCell (by with_reducible assumption) (by simp) _ | exact Below.setCell (Below.drew (by with_reducible assumption)) (by simp) _) | go_keep)
                    clear hK K
                    try simp only [Act.put, List.setIfInBounds_toArray, List.set_cons_zero, List.set_cons_succ]
                    refine wpAnyH_ready (rs := [13]) (by kernel_rfl) (by simp) ?_
                    refine AllReadyH.cons (i := 13) rfl (fun K hK => ?_) ?_
                    · (first | (go_at_call 19; go_split_ands; (with_reducible refine Calls.mono (CA.out _ (by first | with_reducible assumption | exact Below.drew (by with_reducible assumption) | exact Heap.Below.alloc' (by with_reducible assumption) (Nat.le_refl _) _ | exact Heap.Below.alloc' (Below.drew (by with_reducible assumption)) (Nat.le_refl _) _ | exact Below.drew (Heap.Below.alloc' (by with_reducible assumption) (Nat.le_refl _) _) | exact Below.setCell (by with_reducible assumption) (by simp) _ | exact Below.setCell (Below.drew (by with_reducible assumption)) (by simp) _)) ?_); rintro e w4 ⟨rfl, hb4⟩; have hbw4 := Below.trans (by first | with_reducible assumption | exact Below.drew (by with_reducible assumption) | exact Heap.Below.alloc' (by with_reducible assumption) (Nat.le_refl _) _ | exact Heap.Below.alloc' (Below.drew (by with_reducible assumption)) (Nat.le_refl _) _ | exact Below.drew (Heap.Below.alloc' (by with_reducible assumption) (Nat.le_refl _) _) | exact Below.setCell (by with_reducible assumption) (by simp) _ | exact Below.setCell (Below.drew (by with_reducible assumption)) (by simp) _) (hb4.mono (Below.size (by first | with_reducible assumption | exact Below.drew (by with_reducible assumption) | exact Heap.Below.alloc' (by with_reducible assumption) (Nat.le_refl _) _ | exact Heap.Below.alloc' (Below.drew (by with_reducible assumption)) (Nat.le_refl _) _ | exact Below.drew (Heap.Below.alloc' (by with_reducible assumption) (Nat.le_refl _) _) | exact Below.setCell (by with_reducible assumption) (by simp) _ | exact Below.setCell (Below.drew (by with_reducible assumption)) (by simp) _))); have htg4 : TG w w4 pv sv uv' (T.tabPeers (k + 1)) ms UU := TG.below (by first | with_reducible assumption | exact TG.drew (by with_reducible assumption) | exact TG.alloc (by with_reducible assumption) _ | exact TG.alloc (TG.drew (by with_reducible assumption)) _ | exact TG.drew (TG.alloc (by with_reducible assumption) _)) hb4; have rr4 : Below wr.heap.size wr w4 := Heap.Below.call (by first | with_reducible assumption | exact Below.drew (by with_reducible assumption) | exact Heap.Below.alloc' (by with_reducible assumption) (Nat.le_refl _) _ | exact Heap.Below.alloc' (Below.drew (by with_reducible assumption)) (Nat.le_refl _) _ | exact Below.drew (Heap.Below.alloc' (by with_reducible assumption) (Nat.le_refl _) _) | exact Below.setCell (by with_reducible assumption) (by simp) _ | exact Below.setCell (Below.drew (by with_reducible assumption)) (by simp) _) (Nat.le_refl _) hb4; have c4 := htg4.tb.cells.2.2; have f4 := htg4.tb.frozen 2; have ne4 := World.new_ne w4 _ c4; have hz4 := htg4.tb.size) | (go_split_ands; refine step_app (by rfl) (.tmp 57) (.tmp 68) 30 (by rfl) (w.heap.size + 2) elemSub uv' UU.length (UU.flatMap tsubCells) (by rfl) ?_ _ 1 [.int .i64 xp, .int .i64 xs, .int .i64 xw, .bool xq] (by rfl) ?_ (by rfl) (tsub_one ⟨xp, xs, xw, xq⟩) (by omega) (by omega) ?_ ?_; (exact TG.su (pv := pv) (sv := sv) (P := T.tabPeers (k + 1)) (ms := ms) (us := UU) (by first | with_reducible assumption | exact TG.drew (by with_reducible assumption) | exact TG.alloc (by with_reducible assumption) _ | exact TG.alloc (TG.drew (by with_reducible assumption)) _ | exact TG.drew (TG.alloc (by with_reducible assumption) _))); (repeat (first | ((with_reducible refine row_new3 _ _ 1 [.int .i64 xp, .int .i64 xs, .int .i64 xw, .bool xq] (by decide) _ ?_); rfl) | with_reducible refine Row.drew ?_)); (exact Nat.le_trans (Nat.succ_le_of_lt hz1) (Below.size (B := wr.heap.size) (by first | with_reducible assumption | exact Below.drew (by with_reducible assumption) | exact Heap.Below.alloc' (by with_reducible assumption) (Nat.le_refl _) _ | exact Heap.Below.alloc' (Below.drew (by with_reducible assumption)) (Nat.le_refl _) _ | exact Below.drew (Heap.Below.alloc' (by with_reducible assumption) (Nat.le_refl _) _) | exact Below.setCell (by with_reducible assumption) (by simp) _ | exact Below.setCell (Below.drew (by with_reducible assumption)) (by simp) _))); intro v' w3 HO HG; have hrw3 : Row w3 3 (.slice (some ⟨gl, offl, none⟩) L.length lcap) L.length (ints L) := Row.grown (Row.below hrw (by first | with_reducible assumption | exact Below.drew (by with_reducible assumption) | exact Heap.Below.alloc' (by with_reducible assumption) (Nat.le_refl _) _ | exact Heap.Below.alloc' (Below.drew (by with_reducible assumption)) (Nat.le_refl _) _ | exact Below.drew (Heap.Below.alloc' (by with_reducible assumption) (Nat.le_refl _) _) | exact Below.setCell (by with_reducible assumption) (by simp) _ | exact Below.setCell (Below.drew (by with_reducible assumption)) (by simp) _)) (TG.su (w := w) (pv := pv) (sv := sv) (P := T.tabPeers (k + 1)) (ms := ms) (us := UU) (by first | with_reducible assumption | exact TG.drew (by with_reducible assumption) | exact TG.alloc (by with_reducible assumption) _ | exact TG.alloc (TG.drew (by with_reducible assumption)) _ | exact TG.drew (TG.alloc (by with_reducible assumption) _))) HG.out (by decide); have tb3 := TG.grownTB_u (w := w) (pv := pv) (sv := sv) (P := T.tabPeers (k + 1)) (ms := ms) (us := UU) (by first | with_reducible assumption | exact TG.drew (by with_reducible assumption) | exact TG.alloc (by with_reducible assumption) _ | exact TG.alloc (TG.drew (by with_reducible assumption)) _ | exact TG.drew (TG.alloc (by with_reducible assumption) _)) HG; have hbw3 := tb3.bel; have c3 := tb3.cells.2.2; have f3 := tb3.frozen 2; obtain ⟨va, vc, hv⟩ := own_form HO.out; subst hv))
                      refine hK.out _ _ ?_ (fun hHeld => ?_)
                      · (try dsimp only)
                        (first | exact KEEP.out _ (by first | with_reducible assumption | exact Below.drew (by with_reducible assumption) | exact Heap.Below.alloc' (by with_reducible assumption) (Nat.le_refl _) _ | exact Heap.Below.alloc' (Below.drew (by with_reducible assumption)) (Nat.le_refl _) _ | exact Below.drew (Heap.Below.alloc' (by with_reducible assumption) (Nat.le_refl _) _) | exact Below.setCell (by with_reducible assumption) (by simp) _ | exact Below.setCell (Below.drew (by with_reducible assumption)) (by simp) _) | go_keep)
                      clear hK K
                      try simp only [Act.put, List.setIfInBounds_toArray, List.set_cons_zero, List.set_cons_succ]
                      refine wpAnyH_take (i := 14) (v := ?_) rfl (by kernel_rfl) (by kernel_rfl) (by kernel_rfl) (fun _ _ _ h => h) (Or.inl ⟨by rfl, ?_⟩) (by assumption) ?_
                      rotate_left
                      · intro w hSw
                        (try dsimp only at hSw)
                        go_simp
                        try with_reducible rfl
                      try simp only [Act.put, List.setIfInBounds_toArray, List.set_cons_zero, List.set_cons_succ]
                      refine wpAnyH_ready (rs := [15]) (by kernel_rfl) (by simp) ?_
                      refine AllReadyH.cons (i := 15) rfl (fun K hK => ?_) ?_
                      · go_simp
                        refine hK.out _ _ ?_ (fun hHeld => ?_)
                        · (try dsimp only)
                          (first | exact KEEP.out _ (by first | with_reducible assumption | exact Below.drew (by with_reducible assumption) | exact Heap.Below.alloc' (by with_reducible assumption) (Nat.le_refl _) _ | exact Heap.Below.alloc' (Below.drew (by with_reducible assumption)) (Nat.le_refl _) _ | exact Below.drew (Heap.Below.alloc' (by with_reducible assumption) (Nat.le_refl _) _) | exact Below.setCell (by with_reducible assumption) (by simp) _ | exact Below.setCell (Below.drew (by with_reducible assumption)) (by simp) _) | go_keep)
                        clear hK K
                        try simp only [Act.put, List.setIfInBounds_toArray, List.set_cons_zero, List.set_cons_succ]
                        refine wpAnyH_done (by kernel_rfl) ?_ _
                        refine NoPanic.normal ?_
                        have hfin : TG w (w3.setCell ⟨w.heap.size + 1, 2, none⟩ (.slice va (UU.length + 1) vc)) pv sv (.slice va (UU.length + 1) vc) (T.tabPeers (k + 1)) ms (UU ++ [⟨xp, xs, xw, xq⟩]) := TG.addSub (w := w) (pv := pv) (sv := sv) (P := T.tabPeers (k + 1)) (ms := ms) (us := UU) (by first | with_reducible assumption | exact TG.drew (by with_reducible assumption) | exact TG.alloc (by with_reducible assumption) _ | exact TG.alloc (TG.drew (by with_reducible assumption)) _ | exact TG.drew (TG.alloc (by with_reducible assumption) _)) ⟨xp, xs, xw, xq⟩ HO HG
                        have hrow4 := hrw3.fr ((Fr.refl w3.heap.size (· = w.heap.size + 1) w3).setAt 2 (.slice va (UU.length + 1) vc)) (Nat.le_refl _) (tb_typ tb3 (by decide))
                        go_wp2
                        go_roundw
                        case rel =>
                          refine ⟨j + 1, by omega, by go_num, .slice va (UU.length + 1) vc, ?_, hrow4⟩
                          rw [HU.out, ← List.append_assoc, HUU.out]
                          exact hfin
                        case measure => simp [intOf]; omega
                      exact AllReadyH.nil
                    exact AllReadyH.nil
                  exact AllReadyH.nil
                exact AllReadyH.nil
              exact AllReadyH.nil
            · have hT : L.take j = L := List.take_of_length_le (by omega)
              rw [hT] at HTG
              clear hT hrow
              go_wp2
              go_roundw
              case rel =>
                refine ⟨k + 1, by omega, by go_num, pv, sv, uv', ms, ?_, HMS⟩
                rw [HTS.out]
                exact HTG.out
              case measure => simp [intOf]; omega
    · obtain rfl : k = 8 := by omega
      have c0 := HTG.out.tb.cells
      obtain ⟨va0, vc0, hp⟩ := own_form HTG.out.pe
      obtain ⟨va1, vc1, hs⟩ := own_form HTG.out.sr
      obtain ⟨va2, vc2, hu⟩ := own_form HTG.out.su
      subst hp hs hu
      obtain ⟨c1, c2, c3⟩ := c0
      have hb0 := HTG.out.tb.blk0
      have d0 : ∀ j, j < 3 → wr.cell? ⟨w.heap.size, j, none⟩ = some (.slice none 0 0) ∧ wr.frozen? ⟨w.heap.size, j, none⟩ = false := by
        intro j hj
        have : j = 0 ∨ j = 1 ∨ j = 2 := by omega
        rcases this with rfl | rfl | rfl <;> exact ⟨by simp only [World.cell?, hb0]; rfl, by simp [World.frozen?, hb0]⟩
      obtain ⟨d1, e1⟩ := d0 0 (by omega)
      obtain ⟨d2, e2⟩ := d0 1 (by omega)
      obtain ⟨d3, e3⟩ := d0 2 (by omega)
      clear d0 hb0
      have R3 := Lib.hid (set3 (v0 := .slice va0 (T.tabPeers 8).length vc0) (v1 := .slice va1 ms.length vc1) (v2 := .slice va2 (T.tabSubs 8).length vc2) d1 d2 d3)
      go_wp2
      obtain ⟨r0, r1, r2⟩ := R3.out
      refine bodyPost_ret (v := .agg #[.slice va0 (T.tabPeers 8).length vc0, .slice va1 ms.length vc1, .slice va2 (T.tabSubs 8).length vc2]) (by simp [results, Tryd.results32, go_sem, r0, r1, r2]) rfl ⟨⟨_, _, _, rfl, ?_⟩, ?_⟩
      · have hf : Fr wr.heap.size (· = w.heap.size) wr (((wr.setCell ⟨w.heap.size, 0, none⟩ (.slice va0 (T.tabPeers 8).length vc0)).setCell ⟨w.heap.size, 1, none⟩ (.slice va1 ms.length vc1)).setCell ⟨w.heap.size, 2, none⟩ (.slice va2 (T.tabSubs 8).length vc2)) := (((Fr.refl _ _ _).setAt _ _).setAt _ _).setAt _ _
        have ht : ∀ e, e ≠ 61 → ∀ k c fr, k = w.heap.size → wr.heap[k]? ≠ some (.cells c e fr) := by
          intro e he k c fr hk
          subst hk
          rw [HTG.out.tb.blk0]
          exact cells_ne (fun h => he h.symm)
        rw [HTAB.out]
        exact TabAt.fr ⟨Row.of_owns HTG.out.pe, ⟨ms, HMS.out, Row.of_owns HTG.out.sr, HTG.out.rows⟩, Row.of_owns HTG.out.su⟩ hf (Nat.le_refl _) (ht _ (by decide)) (ht _ (by decide)) (ht _ (by decide)) (ht _ (by decide))
      · exact ((HTG.out.tb.bel.setCell (by simp) _).setCell (by simp) _).setCell (by simp) _
end Go.Proofs.Rm
