/- Several texts in one: The walks of the reference's room: wrong. More on worlds that are as they were below a block number. Over any program. The walks of the reference's room: ask. The reference's room: small plain laws for the walks. The walks of the reference's room: endSource. -/
import Derived.StillTailTactics
import Derived.Test.YthlamfoldfeocaaDoorP01
import Derived.Test.YthlamfoldfeocaaDoorP06
import Derived.Test.YthlamfoldfeocaaDoorP07
import Derived.Test.YthlamfoldfeocaaDoorP08
namespace Go.Proofs.Rm
open Go.RowKit Go.Proofs.Heap Go.Proofs.Mem
open Go.Proofs.Lab (may key Tabs)
/-- Two strings lie in two boxes. -/
structure KX (w : World) (g : Nat) (nm nk : List UInt8) (w' : World) : Prop where
  c1 : w'.cell? ⟨w.heap.size, 4, none⟩ = some (.string (str nm))
  c2 : w'.cell? ⟨g, 1, none⟩ = some (.string (str nk))
  bel : Below w.heap.size w w'
  s1 : w.heap.size < w'.heap.size
  s2 : g < w'.heap.size
section
variable {w w1 w2 : World} {g : Nat} {nm nk : List UInt8}
theorem KX.below (h : KX w g nm nk w1) (hb : Below w1.heap.size w1 w2) : KX w g nm nk w2 :=
  ⟨(hb.cell (p := ⟨w.heap.size, 4, none⟩) h.s1).trans h.c1, (hb.cell (p := ⟨g, 1, none⟩) h.s2).trans h.c2, h.bel.trans (hb.mono h.bel.size), Nat.lt_of_lt_of_le h.s1 hb.size, Nat.lt_of_lt_of_le h.s2 hb.size⟩
theorem KX.drew (h : KX w g nm nk w1) : KX w g nm nk w1.drew := h.below (Below.refl _ _).drew
theorem KX.all (h : KX w g nm nk w1) : w1.cell? ⟨w.heap.size, 4, none⟩ = some (.string (str nm)) ∧ w1.cell? ⟨g, 1, none⟩ = some (.string (str nk)) ∧ KX w g nm nk w1 := ⟨h.c1, h.c2, h⟩
theorem KX.mk' {y0 : Int} (h1 : Below w.heap.size w w1) (h2 : w.heap.size < w1.heap.size) (h3 : w1.cell? ⟨w.heap.size, 4, none⟩ = some (.string (str nm))) {e : TypeId} : KX w w1.heap.size nm nk (w1.alloc (.cells #[.int .i64 y0, .string (str nk)] e)) := by
  refine ⟨?_, ?_, h1.alloc h1.size _, by simp; omega, by simp⟩
  · rw [(below_alloc w1 _).cell (p := ⟨w.heap.size, 4, none⟩) h2]; exact h3
  · exact cell_of (heap_new w1 _) 1
end
set_option maxRecDepth 100000 in
set_option maxHeartbeats 4000000 in
theorem rwrong_join (b : Nat) (T : Tab) (o : Op) (sa ba : Option Addr) (sl sc bl bc : Nat) (w : World) (hR : RefAt w b T) (hT : Tabs w) (hnm : o.name.length < 9223372036854775807) (hpn : ∀ x ∈ T.peers, x.name.length < 9223372036854775807) (hk : o.kind = 2) (hp1 : 1 ≤ o.peer ∧ o.peer ≤ 8) :
    Calls Tryd.prog 36 #[.pointer (some ⟨b, 0, none⟩), .agg #[.int .i64 o.kind, .int .i64 o.peer, .int .i64 o.source, .int .i64 o.layer, .string (str o.name), .slice sa sl sc, .slice ba bl bc]] w fun e w' => e = .returned (.int .i64 (T.wrong o)) ∧ Below w.heap.size w w' := by
  have CA := Lib.hid (fun (w1 : World) (h : Below w.heap.size w w1) => PeerAt_any b T o.peer w1 (hR.below h))
  have hb := hR.lt
  obtain ⟨kd, p, n, q, nm, ss⟩ := o
  dsimp only at *
  subst hk
  have HJ : Hid (T.wrong ⟨2, p, n, q, nm, ss⟩ = if 0 ≤ T.peerAt p then 9 else if !may nm then 12 else if T.peers.any (fun x => decide (key x.name = key nm)) then 9 else 0) := by
    show _ = _; unfold Tab.wrong; rw [if_neg (by simp), if_neg (by simp; omega), if_pos rfl]
  have CM : Hid (∀ w1, Below w.heap.size w w1 → Calls Tryd.prog 46 #[.string (str nm)] w1 fun e w' => e = .returned (.bool (may nm)) ∧ Below w1.heap.size w1 w') := fun w1 h => Lab.rMay_any (str nm) w1 (by rw [str_size]; exact hnm) (Utf8Tabs_below hT h)
  have CK : Hid (∀ (s : List UInt8) w1, s.length < 9223372036854775807 → Below w.heap.size w w1 → Calls Tryd.prog 27 #[.string (str s)] w1 fun e w' => e = .returned (.string (str (key s))) ∧ Below w1.heap.size w1 w') := fun s w1 hs h => Lab.rKey_any (str s) w1 (by rw [str_size]; exact hs) (Utf8Tabs_below hT h)
  have hnmL := hnm
  obtain ⟨pv, sv, uv, hcell, htab⟩ := hR.vals
  have hlen := htab.peers.len
  have HC0 : Hid (∀ w', Below w.heap.size w w' → w'.cell? ⟨b, 0, none⟩ = some pv) := fun w' h => (h.cell (p := ⟨b, 0, none⟩) hb).trans (cell_of hcell 0)
  have HP : Hid (∀ w', Below w.heap.size w w' → Row w' 66 pv T.peers.length (T.peers.flatMap peerCells)) := fun w' h => htab.peers.below h
  obtain ⟨pa, pc, rfl, _⟩ := id htab.peers
  have HPN := Lib.hid hpn
  generalize T.wrong ⟨2, p, n, q, nm, ss⟩ = jn at *
  generalize T.peerAt p = at' at *
  clear hR hnm htab hcell hpn
  generalize T.peers = P at *
  by_cases hj : 0 ≤ at'
  · have HF : Hid (jn = 9) := by show _ = _; rw [HJ.out, if_pos hj]
    go_enter Tryd.func36, Tryd.ntmps36
    go_wp2_with (go_at_call 21; refine (CA.out _ (below_alloc _ _)).mono ?_; rintro e w1 ⟨rfl, hb1⟩; obtain ⟨hcl, hfz⟩ := bcell hb1; have hz1 := hb1.size)
    go_ret
    exact ⟨ret_int HF.out.symm, (below_alloc _ _).trans (hb1.mono (by simp))⟩
  cases hm : may nm
  · have HF : Hid (jn = 12) := by show _ = _; rw [HJ.out, if_neg hj, hm]; rfl
    rw [hm] at CM
    clear hm
    go_enter Tryd.func36, Tryd.ntmps36
    go_wp2_with (first | (go_at_call 21; refine (CA.out _ (below_alloc _ _)).mono ?_; rintro e w1 ⟨rfl, hb1⟩; obtain ⟨hcl, hfz⟩ := bcell hb1; have hz1 := hb1.size; have hbl1 := (below_alloc w _).trans (hb1.mono (by simp))) | (go_at_call 46; refine (CM.out _ hbl1).mono ?_; rintro e w2 ⟨rfl, hb2⟩))
    go_ret
    exact ⟨ret_int HF.out.symm, hbl1.trans (hb2.mono hbl1.size)⟩
  have HJ2 : Hid (jn = if P.any (fun x => decide (key x.name = key nm)) then 9 else 0) := by show _ = _; rw [HJ.out, if_neg hj, hm]; rfl
  rw [hm] at CM
  clear hm HJ
  go_enter Tryd.func36, Tryd.ntmps36
  go_wp2_with (first | (go_at_call 21; refine (CA.out _ (below_alloc _ _)).mono ?_; rintro e w1 ⟨rfl, hb1⟩; obtain ⟨hcl, hfz⟩ := bcell hb1; have hz1 : w.heap.size < w1.heap.size := Nat.lt_of_lt_of_le (by simp) hb1.size; have hbl1 := (below_alloc w _).trans (hb1.mono (by simp)); have hbox1 := hb1.cell (p := ⟨w.heap.size, 4, none⟩) (by simp); simp at hbox1) | (go_at_call 46; refine (CM.out _ hbl1).mono ?_; rintro e w2 ⟨rfl, hb2⟩; have hbl2 := hbl1.trans (hb2.mono hbl1.size); have hc2 := HC0.out _ hbl2; have hbox2 := (hb2.cell (p := ⟨w.heap.size, 4, none⟩) hz1).trans hbox1; have hz2 := Nat.lt_of_lt_of_le hz1 hb2.size))
  clear hc2
  go_loopw [43] (fun i w' => ∃ k : Nat, k ≤ P.length ∧ i = .int .i64 k ∧ Below w.heap.size w w' ∧ w.heap.size < w'.heap.size ∧ w'.cell? ⟨w.heap.size, 4, none⟩ = some (.string (str nm)) ∧ Hid (∀ j (h : j < P.length), j < k → key P[j].name ≠ key nm)) (fun i _ => P.length - (intOf i).toNat)
  case atStart => exact ⟨0, Nat.zero_le _, rfl, hbl2, hz2, hbox2, fun j h hj => by omega⟩
  case round =>
    obtain ⟨k, hk, rfl, hbl, hsz, hbox, hno⟩ := hrel
    by_cases hkl : k < P.length
    · obtain ⟨g, off, e1, hc⟩ := peer_at (HP.out wr hbl) (by omega)
      subst e1
      obtain ⟨d0, d1⟩ := hc k P[k] (List.getElem?_eq_getElem hkl)
      have hnl := HPN.out P[k] (List.getElem_mem hkl)
      have HIN : Hid (key P[k].name = key nm → jn = 9) := by
        intro h
        rw [HJ2.out, if_pos]
        rw [List.any_eq_true]
        exact ⟨P[k], List.getElem_mem hkl, by simpa using h⟩
      have HNX : Hid (key P[k].name ≠ key nm → ∀ j (h : j < P.length), j < k + 1 → key P[j].name ≠ key nm) := fun h j hj hjk => by
        by_cases e : j = k
        · subst e; exact h
        · exact hno.out j hj (by omega)
      clear hc
      generalize P[k] = y at *
      obtain ⟨y0, nk⟩ := y
      dsimp only at d0 d1 HIN HNX hnl
      have CK1 := Lib.hid (fun w2 (h : Below w.heap.size w w2) => CK.out nk w2 hnl h)
      have CK2 := Lib.hid (fun w2 (h : Below w.heap.size w w2) => CK.out nm w2 hnmL h)
      have hkx := KX.mk' (nk := nk) (y0 := y0) (e := 66) hbl hsz hbox
      by_cases hke : key nk = key nm
      · have HF := Lib.hid (HIN.out hke)
        rw [hke] at CK1
        clear hke
        go_wp2_with fail
        go_region_held3 (fun w' => w'.cell? ⟨w.heap.size, 4, none⟩ = some (.string (str nm)) ∧ w'.cell? ⟨wr.heap.size, 1, none⟩ = some (.string (str nk)) ∧ KX w wr.heap.size nm nk w') (first | ((with_reducible apply KX.all); with_reducible assumption) | ((with_reducible apply KX.all); (with_reducible apply KX.drew); with_reducible assumption) | go_keep) (first | (go_at_call 27; go_split_ands; (with_reducible refine Calls.mono (CK1.out _ ?_) ?_); (with_reducible apply KX.bel); (with_reducible assumption); rintro e w2 ⟨rfl, hb2⟩; have kx2 := KX.below (by with_reducible assumption) hb2) | (go_at_call 27; go_split_ands; (with_reducible refine Calls.mono (CK2.out _ ?_) ?_); (with_reducible apply KX.bel); (with_reducible assumption); rintro e w3 ⟨rfl, hb3⟩; have kx3 := KX.below (by with_reducible assumption) hb3))
        all_goals (go_wp2; go_ret; exact ⟨ret_int HF.out.symm, KX.bel (by with_reducible assumption)⟩)
      · have HF := Lib.hid (HNX.out hke)
        have e3 : ((str (key nk)).toList == (str (key nm)).toList) = false := by rw [beq_eq_false_iff_ne, ByteArray.toList_eq, ByteArray.toList_eq]; exact hke
        clear hke
        go_wp2_with fail
        go_region_held3 (fun w' => w'.cell? ⟨w.heap.size, 4, none⟩ = some (.string (str nm)) ∧ w'.cell? ⟨wr.heap.size, 1, none⟩ = some (.string (str nk)) ∧ KX w wr.heap.size nm nk w') (first | ((with_reducible apply KX.all); with_reducible assumption) | ((with_reducible apply KX.all); (with_reducible apply KX.drew); with_reducible assumption) | go_keep) (first | (go_at_call 27; go_split_ands; (with_reducible refine Calls.mono (CK1.out _ ?_) ?_); (with_reducible apply KX.bel); (with_reducible assumption); rintro e w2 ⟨rfl, hb2⟩; have kx2 := KX.below (by with_reducible assumption) hb2) | (go_at_call 27; go_split_ands; (with_reducible refine Calls.mono (CK2.out _ ?_) ?_); (with_reducible apply KX.bel); (with_reducible assumption); rintro e w3 ⟨rfl, hb3⟩; have kx3 := KX.below (by with_reducible assumption) hb3))
        all_goals
          go_wp2
          go_roundw
          case rel => exact ⟨k + 1, by omega, by go_num, KX.bel (by with_reducible assumption), KX.s1 (by with_reducible assumption), KX.c1 (by with_reducible assumption), HF.out⟩
          case measure => simp [intOf]; omega
    · have HF : Hid (jn = 0) := by
        show _ = _
        rw [HJ2.out, if_neg]
        rw [List.any_eq_true]
        rintro ⟨x, hx, hx2⟩
        obtain ⟨j, hj, rfl⟩ := List.getElem_of_mem hx
        exact hno.out j hj (by omega) (by simpa using hx2)
      go_wp2
      go_ret
      exact ⟨ret_int HF.out.symm, hbl⟩
theorem wrongSub_any (b : Nat) (T : Tab) (o : Op) (s : TSrc) (sa ba ca : Option Addr) (sl sc bl bc cc : Nat) (w : World) (hR : RefAt w b T) (hk : 5 ≤ o.kind ∧ o.kind ≤ 12) :
    Calls Tryd.prog 61 #[.pointer (some ⟨b, 0, none⟩), .agg #[.int .i64 o.kind, .int .i64 o.peer, .int .i64 o.source, .int .i64 o.layer, .string (str o.name), .slice sa sl sc, .slice ba bl bc], .agg #[.int .i64 s.num, .int .i64 s.own, .slice ca s.ss.length cc, .bool s.muted]] w fun e w' => e = .returned (.int .i64 (T.wrongSub o s)) ∧ Below w.heap.size w w' := by
  by_cases h1 : o.kind = 5 ∨ o.kind = 8 ∨ o.kind = 9
  · exact wrongSub_own b T o s sa ba ca sl sc bl bc cc w h1
  by_cases h2 : o.kind = 6
  · exact wrongSub_subscribe b T o s sa ba ca sl sc bl bc cc w hR h2
  by_cases h3 : T.subAt o.peer o.source < 0
  · exact wrongSub_none b T o s sa ba ca sl sc bl bc cc w hR (by omega) h3
  · exact wrongSub_hears b T o s sa ba ca sl sc bl bc cc w hR (by omega) (by omega)
set_option maxRecDepth 100000 in
set_option maxHeartbeats 4000000 in
theorem rwrong_rest (b : Nat) (T : Tab) (o : Op) (sa ba : Option Addr) (sc bl bc : Nat) (w : World) (hR : RefAt w b T) (hk : ¬ (o.kind = 2 ∧ 1 ≤ o.peer ∧ o.peer ≤ 8))
    (hrow : RRow w (.slice sa o.ssrcs.length sc) o.ssrcs.length (u32s o.ssrcs)) :
    Calls Tryd.prog 36 #[.pointer (some ⟨b, 0, none⟩), .agg #[.int .i64 o.kind, .int .i64 o.peer, .int .i64 o.source, .int .i64 o.layer, .string (str o.name), .slice sa o.ssrcs.length sc, .slice ba bl bc]] w fun e w' => e = .returned (.int .i64 (T.wrong o)) ∧ Below w.heap.size w w' := by
  have CA := Lib.hid (fun (w1 : World) (h : Below w.heap.size w w1) => PeerAt_any b T o.peer w1 (hR.below h))
  have CB := Lib.hid (fun (w1 : World) (h : Below w.heap.size w w1) => SourceAt_any b T o.source w1 (hR.below h))
  have CP := Lib.hid (fun (w1 : World) (h : Below w.heap.size w w1) => wrongSsrcs_any b T o (T.srcAt o.source) sa ba sc bl bc w1 (hR.below h) (hrow.below h))
  have HR := Lib.hid hR
  have hb := hR.lt
  have HW : Hid (T.wrong o = if o.kind < 2 ∨ 12 < o.kind then 4
  else if o.peer < 1 ∨ 8 < o.peer then 5
  else if o.kind = 2 then
    (if 0 ≤ T.peerAt o.peer then 9 else if !may o.name then 12 else if T.peers.any (fun x => decide (key x.name = key o.name)) then 9 else 0)
  else if T.peerAt o.peer < 0 then 8
  else if o.kind = 3 then 0
  else if o.source < 1 ∨ 8 < o.source then 5
  else if o.kind = 4 then T.wrongSsrcs o (T.srcAt o.source)
  else if T.srcAt o.source < 0 then 8
  else T.wrongSub o (T.srcD o.source)) := rfl
  have HS : Hid (0 ≤ T.srcAt o.source → ∃ k : Nat, k < T.srcs.length ∧ T.srcAt o.source = k ∧ T.srcD o.source = T.srcs.getD k noTSrc) := fun h => by
    obtain ⟨k, hk, e, -, -⟩ := findAt_at h
    refine ⟨k, hk, e, ?_⟩
    unfold Tab.srcD
    rw [show T.srcAt o.source = k from e, Int.toNat_natCast]
  have CS := Lib.hid (fun (s : TSrc) (ca : Option Addr) (cc : Nat) (w1 : World) (h : Below w.heap.size w w1) (hk : 5 ≤ o.kind ∧ o.kind ≤ 12) => wrongSub_any b T o s sa ba ca o.ssrcs.length sc bl bc cc w1 (hR.below h) hk)
  obtain ⟨kd, p, n, q, nm, ss⟩ := o
  dsimp only at *
  clear hR hrow
  have HAT : Hid (T.peerAt p < 0 ∨ 0 ≤ T.peerAt p) := by show _ ∨ _; omega
  generalize T.wrong ⟨kd, p, n, q, nm, ss⟩ = wv at *
  generalize T.peerAt p = pat at *
  generalize T.wrongSsrcs ⟨kd, p, n, q, nm, ss⟩ (T.srcAt n) = pb at *
  by_cases h1 : kd < 2
  · have HF : Hid (wv = 4) := by show _ = _; rw [HW.out, if_pos (Or.inl h1)]
    go_enter Tryd.func36, Tryd.ntmps36
    go_wp2
    go_ret
    exact ⟨ret_int HF.out.symm, below_alloc _ _⟩
  by_cases h2 : 12 < kd
  · have HF : Hid (wv = 4) := by show _ = _; rw [HW.out, if_pos (Or.inr h2)]
    go_enter Tryd.func36, Tryd.ntmps36
    go_wp2
    go_ret
    exact ⟨ret_int HF.out.symm, below_alloc _ _⟩
  by_cases h3 : p < 1
  · have HF : Hid (wv = 5) := by show _ = _; rw [HW.out, if_neg (by omega), if_pos (Or.inl h3)]
    go_enter Tryd.func36, Tryd.ntmps36
    go_wp2
    go_ret
    exact ⟨ret_int HF.out.symm, below_alloc _ _⟩
  by_cases h4 : 8 < p
  · have HF : Hid (wv = 5) := by show _ = _; rw [HW.out, if_neg (by omega), if_pos (Or.inr h4)]
    go_enter Tryd.func36, Tryd.ntmps36
    go_wp2
    go_ret
    exact ⟨ret_int HF.out.symm, below_alloc _ _⟩
  have hk2 : kd ≠ 2 := fun h => hk ⟨h, by omega, by omega⟩
  have HK2 := Lib.hid hk2
  have b2 : (kd == 2) = false := by rw [beq_eq_false_iff_ne]; exact hk2
  have HW2 : Hid (wv = if pat < 0 then 8 else if kd = 3 then 0 else if n < 1 ∨ 8 < n then 5 else if kd = 4 then pb else if T.srcAt n < 0 then 8 else T.wrongSub ⟨kd, p, n, q, nm, ss⟩ (T.srcD n)) := by
    show _ = _; rw [HW.out, if_neg (by omega), if_neg (by omega), if_neg hk2]
  clear HW hk hk2
  by_cases h5 : pat < 0
  · have HF : Hid (wv = 8) := by show _ = _; rw [HW2.out, if_pos h5]
    have b5 : decide (0 ≤ pat) = false := by simpa using h5
    go_enter Tryd.func36, Tryd.ntmps36
    go_wp2_with (go_at_call 21; (with_reducible refine (CA.out _ (below_alloc _ _)).mono ?_); rintro e w1 ⟨rfl, hb1⟩; obtain ⟨hcl, hfz⟩ := bcell hb1; have hz1 : w.heap.size < w1.heap.size := Nat.lt_of_lt_of_le (by simp) hb1.size)
    go_ret
    exact ⟨ret_int HF.out.symm, (below_alloc _ _).trans (hb1.mono (by simp))⟩
  have h5p : 0 ≤ pat := by omega
  by_cases h6 : kd = 3
  · subst h6
    have HF : Hid (wv = 0) := by show _ = _; rw [HW2.out, if_neg h5, if_pos rfl]
    go_enter Tryd.func36, Tryd.ntmps36
    go_wp2_with (go_at_call 21; (with_reducible refine (CA.out _ (below_alloc _ _)).mono ?_); rintro e w1 ⟨rfl, hb1⟩; obtain ⟨hcl, hfz⟩ := bcell hb1; have hz1 : w.heap.size < w1.heap.size := Nat.lt_of_lt_of_le (by simp) hb1.size)
    go_ret
    exact ⟨ret_int HF.out.symm, (below_alloc _ _).trans (hb1.mono (by simp))⟩
  have b3 : (kd == 3) = false := by rw [beq_eq_false_iff_ne]; exact h6
  by_cases h7 : n < 1
  · have HF : Hid (wv = 5) := by show _ = _; rw [HW2.out, if_neg h5, if_neg h6, if_pos (Or.inl h7)]
    clear h6
    go_enter Tryd.func36, Tryd.ntmps36
    go_wp2_with (go_at_call 21; (with_reducible refine (CA.out _ (below_alloc _ _)).mono ?_); rintro e w1 ⟨rfl, hb1⟩; obtain ⟨hcl, hfz⟩ := bcell hb1; have hz1 : w.heap.size < w1.heap.size := Nat.lt_of_lt_of_le (by simp) hb1.size)
    go_ret
    exact ⟨ret_int HF.out.symm, (below_alloc _ _).trans (hb1.mono (by simp))⟩
  by_cases h8 : 8 < n
  · have HF : Hid (wv = 5) := by show _ = _; rw [HW2.out, if_neg h5, if_neg h6, if_pos (Or.inr h8)]
    clear h6
    go_enter Tryd.func36, Tryd.ntmps36
    go_wp2_with (go_at_call 21; (with_reducible refine (CA.out _ (below_alloc _ _)).mono ?_); rintro e w1 ⟨rfl, hb1⟩; obtain ⟨hcl, hfz⟩ := bcell hb1; have hz1 : w.heap.size < w1.heap.size := Nat.lt_of_lt_of_le (by simp) hb1.size)
    go_ret
    exact ⟨ret_int HF.out.symm, (below_alloc _ _).trans (hb1.mono (by simp))⟩
  have HW3 : Hid (wv = if kd = 4 then pb else if T.srcAt n < 0 then 8 else T.wrongSub ⟨kd, p, n, q, nm, ss⟩ (T.srcD n)) := by
    show _ = _; rw [HW2.out, if_neg h5, if_neg h6, if_neg (by omega)]
  clear HW2
  by_cases h9 : kd = 4
  · subst h9
    have HF : Hid (wv = pb) := by show _ = _; rw [HW3.out, if_pos rfl]
    clear h6 HS HW3
    generalize T.srcAt n = sat at *
    go_enter Tryd.func36, Tryd.ntmps36
    go_wp2_with (first | (go_at_call 21; (with_reducible refine (CA.out _ (below_alloc _ _)).mono ?_); rintro e w1 ⟨rfl, hb1⟩; obtain ⟨hcl, hfz⟩ := bcell hb1; have hz1 : w.heap.size < w1.heap.size := Nat.lt_of_lt_of_le (by simp) hb1.size; have hbl1 := (below_alloc w _).trans (hb1.mono (by simp))) | (go_at_call 18; (with_reducible refine (CB.out _ hbl1).mono ?_); rintro e w2 ⟨rfl, hb2⟩; obtain ⟨hcl2, hfz2⟩ := bcell hb2; have hz2 := Nat.lt_of_lt_of_le hz1 hb2.size; have hbl2 := hbl1.trans (hb2.mono hbl1.size)) | (go_at_call 60; (with_reducible refine (CP.out _ hbl2).mono ?_); rintro e w3 ⟨rfl, hb3⟩))
    go_ret
    exact ⟨ret_int HF.out.symm, hbl2.trans (hb3.mono hbl2.size)⟩
  have b4 : (kd == 4) = false := by rw [beq_eq_false_iff_ne]; exact h9
  have hk5 : 5 ≤ kd ∧ kd ≤ 12 := by have := HK2.out; omega
  by_cases h10 : T.srcAt n < 0
  · have HF : Hid (wv = 8) := by show _ = _; rw [HW3.out, if_neg h9, if_pos h10]
    clear h6 h9 HS HW3
    generalize T.srcAt n = sat at *
    go_enter Tryd.func36, Tryd.ntmps36
    go_wp2_with (first | (go_at_call 21; (with_reducible refine (CA.out _ (below_alloc _ _)).mono ?_); rintro e w1 ⟨rfl, hb1⟩; obtain ⟨hcl, hfz⟩ := bcell hb1; have hz1 : w.heap.size < w1.heap.size := Nat.lt_of_lt_of_le (by simp) hb1.size; have hbl1 := (below_alloc w _).trans (hb1.mono (by simp))) | (go_at_call 18; (with_reducible refine (CB.out _ hbl1).mono ?_); rintro e w2 ⟨rfl, hb2⟩; obtain ⟨hcl2, hfz2⟩ := bcell hb2; have hz2 := Nat.lt_of_lt_of_le hz1 hb2.size; have hbl2 := hbl1.trans (hb2.mono hbl1.size)))
    go_ret
    exact ⟨ret_int HF.out.symm, hbl2⟩
  · obtain ⟨k, hkl, hke, hsd⟩ := HS.out (by omega)
    have HF : Hid (wv = T.wrongSub ⟨kd, p, n, q, nm, ss⟩ (T.srcs.getD k noTSrc)) := by show _ = _; rw [HW3.out, if_neg h9, if_neg h10, hsd]
    rw [hke] at CB
    clear h6 h9 h10 HW3 HS CP hke hsd
    go_enter Tryd.func36, Tryd.ntmps36
    go_wp2_with fail
    (with_reducible refine (CA.out _ (below_alloc _ _)).mono ?_)
    rintro e w1 ⟨rfl, hb1⟩
    obtain ⟨hcl, hfz⟩ := bcell hb1
    have hz1 : w.heap.size < w1.heap.size := Nat.lt_of_lt_of_le (by simp) hb1.size
    have hbl1 := (below_alloc w _).trans (hb1.mono (by simp))
    go_wp2_with fail
    (with_reducible refine (CB.out _ hbl1).mono ?_)
    rintro e w2 ⟨rfl, hb2⟩
    obtain ⟨hcl2, hfz2⟩ := bcell hb2
    have hz2 := Nat.lt_of_lt_of_le hz1 hb2.size
    have hbl2 := hbl1.trans (hb2.mono hbl1.size)
    obtain ⟨pv, sv, uv, hcell, htab⟩ := (HR.out.below hbl2).vals
    obtain ⟨P, hms, hrow, hrs⟩ := htab.srcs
    have hkl : k < P.length := by rw [← hms, List.length_map] at hkl; exact hkl
    have hlen := hrow.len
    have c1 := cell_of hcell 1
    have HX : Hid (T.srcs.getD k noTSrc = P[k].1) := by show _ = _; rw [← hms, getD_map_fst hkl]
    have hr := hrs P[k] (List.getElem_mem hkl)
    obtain ⟨pa, pc, rfl, -, -⟩ := id hrow
    obtain ⟨g, off, e1, hc⟩ := tsrc_at hrow (by omega)
    subst e1
    obtain ⟨d0, d1, d2, d3⟩ := hc k P[k] (List.getElem?_eq_getElem hkl)
    obtain ⟨ca, cc, hv, -, -⟩ := id hr
    rw [hv] at d2
    have CS2 := Lib.hid (fun (w1 : World) (h : Below w.heap.size w w1) => CS.out P[k].1 ca cc w1 h hk5)
    have hb2' := Lib.hid hb2
    have hb1' := Lib.hid hb1
    have hbl2' := Lib.hid hbl2
    clear hc hv hr hrs hcell htab hms hrow hb1 hb2 hbl1 hbl2
    generalize P[k] = x at *
    obtain ⟨⟨x0, x1, x2, x3⟩, x4⟩ := x
    dsimp only at d0 d1 d2 d3 HX CS2
    go_wp2_with fail
    go_still_tail 9, (by kernel_rfl)
    go_wp2_with (go_at_call 61; (with_reducible refine (CS2.out _ (Below.drew hbl2'.out)).mono ?_); rintro e w3 ⟨rfl, hb3⟩)
    go_ret
    exact ⟨ret_int (by rw [HF.out, HX.out]), hbl2'.out.drew.trans (hb3.mono hbl2'.out.size)⟩
theorem rwrong_any (b : Nat) (T : Tab) (o : Op) (sa ba : Option Addr) (sc bl bc : Nat) (w : World) (hR : RefAt w b T) (hT : Tabs w) (hnm : o.name.length < 9223372036854775807) (hpn : ∀ x ∈ T.peers, x.name.length < 9223372036854775807)
    (hrow : RRow w (.slice sa o.ssrcs.length sc) o.ssrcs.length (u32s o.ssrcs)) :
    Calls Tryd.prog 36 #[.pointer (some ⟨b, 0, none⟩), .agg #[.int .i64 o.kind, .int .i64 o.peer, .int .i64 o.source, .int .i64 o.layer, .string (str o.name), .slice sa o.ssrcs.length sc, .slice ba bl bc]] w fun e w' => e = .returned (.int .i64 (T.wrong o)) ∧ Below w.heap.size w w' := by
  by_cases h : o.kind = 2 ∧ 1 ≤ o.peer ∧ o.peer ≤ 8
  · exact rwrong_join b T o sa ba _ sc bl bc w hR hT hnm hpn h.1 h.2
  · exact rwrong_rest b T o sa ba sc bl bc w hR h hrow
end Go.Proofs.Rm
namespace Go.Proofs.Heap
open Go.RowKit
theorem Below.alloc' {B : Nat} {a w : World} (h : Below B a w) (hB : B ≤ a.heap.size) (o : Obj) : Below B a (w.alloc o) := h.alloc (Nat.le_trans hB h.size) o
theorem Below.call {B : Nat} {a w w2 : World} (h : Below B a w) (hB : B ≤ a.heap.size) (hb : Below w.heap.size w w2) : Below B a w2 := h.trans (hb.mono (Nat.le_trans hB h.size))
theorem le2 (w : World) (A B : Obj) : w.heap.size + 2 ≤ ((w.alloc A).alloc B).heap.size := by simp
theorem le1 (w : World) (A : Obj) : w.heap.size + 1 ≤ (w.alloc A).heap.size := by simp
end Go.Proofs.Heap
namespace Go.Proofs.Rm
open Go.RowKit Go.Proofs.Heap Go.Proofs.Mem
set_option maxRecDepth 100000 in
set_option maxHeartbeats 4000000 in
theorem ask_any (b : Nat) (T : Tab) (x : TSub) (w : World) (hR : RefAt w b T) (hs : 0 ≤ T.srcAt x.source) (hw : 0 ≤ x.want ∧ x.want < (T.srcD x.source).ss.length) :
    Calls Tryd.prog 39 #[.pointer (some ⟨b, 0, none⟩), .agg #[.int .i64 x.peer, .int .i64 x.source, .int .i64 x.want, .bool x.paused]] w fun e w' => e = .returned (turnAgg (T.ask x)) ∧ Below w.heap.size w w' := by
  obtain ⟨k, hkl, hke, -, -⟩ := findAt_at hs
  have hke : T.srcAt x.source = k := hke
  have CB := Lib.hid (fun (w1 : World) (h : Below w.heap.size w w1) => SourceAt_any b T x.source w1 (hR.below h))
  rw [hke] at CB
  have hb := hR.lt
  have HSD : Hid (T.srcD x.source = T.srcs.getD k noTSrc) := by show _ = _; unfold Tab.srcD; rw [hke, Int.toNat_natCast]
  have HA : Hid (T.ask x = ⟨9, (T.srcD x.source).own, (T.srcD x.source).num, 0, (T.srcD x.source).ss.getD x.want.toNat 0⟩) := rfl
  obtain ⟨j, hj⟩ := Int.eq_ofNat_of_zero_le hw.1
  obtain ⟨pv, sv, uv, hcell, htab⟩ := hR.vals
  obtain ⟨P, hms, hrow, hrs⟩ := htab.srcs
  have hkl : k < P.length := by rw [← hms, List.length_map] at hkl; exact hkl
  have hlen := hrow.len
  have c1 := cell_of hcell 1
  have HX : Hid (T.srcs.getD k noTSrc = P[k].1) := by show _ = _; rw [← hms, getD_map_fst hkl]
  have hr := hrs P[k] (List.getElem_mem hkl)
  obtain ⟨pa, pc, rfl, -, -⟩ := id hrow
  obtain ⟨g, off, e1, hc⟩ := tsrc_at hrow (by omega)
  subst e1
  obtain ⟨d0, d1, d2, d3⟩ := hc k P[k] (List.getElem?_eq_getElem hkl)
  rw [hj, HSD.out, HX.out] at hw
  have hjl : j < P[k].1.ss.length := by omega
  obtain ⟨g2, off2, cap2, hsv, hlc, hcm, hg2, hcells⟩ := u32_open hr (by omega)
  have hx := hcells j hjl
  have hl2 := hr.len
  rw [hsv] at d2
  have HT : Hid (T.ask x = ⟨9, P[k].1.own, P[k].1.num, 0, P[k].1.ss.getD j 0⟩) := by show _ = _; rw [HA.out, HSD.out, HX.out, hj]; rfl
  have hg : g < w.heap.size := by
    rcases Nat.lt_or_ge g w.heap.size with h | h
    · exact h
    · simp [World.cell?, Array.getElem?_eq_none h] at d0
  clear hR hs hcells hc hr hrs hcell htab hms hrow HSD HX hke HA hw
  generalize T.ask x = TA at *
  obtain ⟨x0, x1, x2, x3⟩ := x
  dsimp only at *
  subst hj
  generalize P[k].1.ss.getD j 0 = xx at *
  generalize P[k].1.ss.length = xl at *
  generalize P[k].1.own = xo at *
  generalize P[k].1.num = xn at *
  generalize P[k].1.muted = xm at *
  generalize P[k].2 = xv at *
  generalize P.length = N at *
  have KEEP : Hid (∀ w', Below (w.heap.size + 2) ((w.alloc (.cells #[.int .i64 x0, .int .i64 x1, .int .i64 j, .bool x3] 48)).alloc (.cells #[.int .i64 0, .int .i64 0, .int .i64 0, .int .i64 0, .int .u32 0] 59)) w' →
      w'.cell? ⟨b, 1, none⟩ = some (.slice (some ⟨g, off, none⟩) N pc) ∧ w'.cell? ⟨w.heap.size, 1, none⟩ = some (.int .i64 x1) ∧ w'.cell? ⟨g, off + k * 4, none⟩ = some (.int .i64 xn) ∧ w'.cell? ⟨g, off + k * 4 + 1, none⟩ = some (.int .i64 xo) ∧ w'.cell? ⟨g, off + k * 4 + 2, none⟩ = some (.slice (some ⟨g2, off2, none⟩) xl cap2) ∧ w'.cell? ⟨g, off + k * 4 + 3, none⟩ = some (.bool xm) ∧ Below (w.heap.size + 2) ((w.alloc (.cells #[.int .i64 x0, .int .i64 x1, .int .i64 j, .bool x3] 48)).alloc (.cells #[.int .i64 0, .int .i64 0, .int .i64 0, .int .i64 0, .int .u32 0] 59)) w') := fun w' h => by
    have h1 : Below w.heap.size w w' := (((Below.refl _ _).alloc (Nat.le_refl _) _).alloc (by simp) _).trans (h.mono (by omega))
    exact ⟨(h1.cell (p := ⟨b, 1, none⟩) hb).trans c1, (h.cell (p := ⟨w.heap.size, 1, none⟩) (by dsimp only; omega)).trans (cell_of (two_new w _ _).1 1), (h1.cell (p := ⟨g, off + k * 4, none⟩) hg).trans d0, (h1.cell (p := ⟨g, off + k * 4 + 1, none⟩) hg).trans d1, (h1.cell (p := ⟨g, off + k * 4 + 2, none⟩) hg).trans d2, (h1.cell (p := ⟨g, off + k * 4 + 3, none⟩) hg).trans d3, h⟩
  have KW : Hid (∀ w', Below (w.heap.size + 2) ((w.alloc (.cells #[.int .i64 x0, .int .i64 x1, .int .i64 j, .bool x3] 48)).alloc (.cells #[.int .i64 0, .int .i64 0, .int .i64 0, .int .i64 0, .int .u32 0] 59)) w' → Below w.heap.size w w') := fun w' h => (((Below.refl _ _).alloc (Nat.le_refl _) _).alloc (by simp) _).trans (h.mono (by omega))
  have KEEP2 : Hid (∀ w', Below (w.heap.size + 2) ((w.alloc (.cells #[.int .i64 x0, .int .i64 x1, .int .i64 j, .bool x3] 48)).alloc (.cells #[.int .i64 0, .int .i64 0, .int .i64 0, .int .i64 0, .int .u32 0] 59)) w' → w'.cell? ⟨g2, off2 + j, none⟩ = some (.int .u32 xx) ∧ w'.cell? ⟨w.heap.size, 2, none⟩ = some (.int .i64 j) ∧ (w'.cell? ⟨w.heap.size + 1, 0, none⟩ = some (.int .i64 0) ∧ w'.cell? ⟨w.heap.size + 1, 1, none⟩ = some (.int .i64 0) ∧ w'.cell? ⟨w.heap.size + 1, 2, none⟩ = some (.int .i64 0) ∧ w'.cell? ⟨w.heap.size + 1, 3, none⟩ = some (.int .i64 0) ∧ w'.cell? ⟨w.heap.size + 1, 4, none⟩ = some (.int .u32 0)) ∧
      (∀ o, w'.frozen? ⟨w.heap.size + 1, o, none⟩ = false)) := fun w' h => by
    have h1 : Below w.heap.size w w' := KW.out _ h
    have hB := fun o => (h.cell (p := ⟨w.heap.size + 1, o, none⟩) (by dsimp only; omega)).trans (cell_of (two_new w _ _).2 o)
    refine ⟨(h1.cell (p := ⟨g2, off2 + j, none⟩) hg2).trans hx, (h.cell (p := ⟨w.heap.size, 2, none⟩) (by dsimp only; omega)).trans (cell_of (two_new w _ _).1 2), ⟨hB 0, hB 1, hB 2, hB 3, hB 4⟩, fun o => (h.frozen (p := ⟨w.heap.size + 1, o, none⟩) (by dsimp only; omega)).trans ?_⟩
    simp only [World.frozen?, (two_new w _ _).2]
    simp
  have K0 : Below (w.heap.size + 2) ((w.alloc (.cells #[.int .i64 x0, .int .i64 x1, .int .i64 j, .bool x3] 48)).alloc (.cells #[.int .i64 0, .int .i64 0, .int .i64 0, .int .i64 0, .int .u32 0] 59)) ((w.alloc (.cells #[.int .i64 x0, .int .i64 x1, .int .i64 j, .bool x3] 48)).alloc (.cells #[.int .i64 0, .int .i64 0, .int .i64 0, .int .i64 0, .int .u32 0] 59)) := Below.refl _ _
  go_enter Tryd.func39, Tryd.ntmps39
  go_wp2_with fail
  go_region_held3 (fun w' => w'.cell? ⟨b, 1, none⟩ = some (.slice (some ⟨g, off, none⟩) N pc) ∧ w'.cell? ⟨w.heap.size, 1, none⟩ = some (.int .i64 x1) ∧ w'.cell? ⟨g, off + k * 4, none⟩ = some (.int .i64 xn) ∧ w'.cell? ⟨g, off + k * 4 + 1, none⟩ = some (.int .i64 xo) ∧ w'.cell? ⟨g, off + k * 4 + 2, none⟩ = some (.slice (some ⟨g2, off2, none⟩) xl cap2) ∧ w'.cell? ⟨g, off + k * 4 + 3, none⟩ = some (.bool xm) ∧ Below (w.heap.size + 2) ((w.alloc (.cells #[.int .i64 x0, .int .i64 x1, .int .i64 j, .bool x3] 48)).alloc (.cells #[.int .i64 0, .int .i64 0, .int .i64 0, .int .i64 0, .int .u32 0] 59)) w')
    (first | (exact KEEP.out _ (by with_reducible assumption)) | (exact KEEP.out _ (Below.drew (by with_reducible assumption))) | (exact KEEP.out _ (Heap.Below.alloc' (by with_reducible assumption) (le2 _ _ _) _)) | (exact KEEP.out _ (Heap.Below.alloc' (Below.drew (by with_reducible assumption)) (le2 _ _ _) _)) | (exact KEEP.out _ (Below.setCell (Below.setCell (Below.setCell (Below.setCell (by with_reducible assumption) (by simp) _) (by simp) _) (by simp) _) (by simp) _)) | (exact KEEP.out _ (Below.setCell (Below.setCell (Below.setCell (Below.setCell (Below.drew (by with_reducible assumption)) (by simp) _) (by simp) _) (by simp) _) (by simp) _)) | go_keep)
    (first | (go_at_call 18; go_split_ands; (with_reducible refine Calls.mono (CB.out _ (KW.out _ (by with_reducible assumption))) ?_); rintro e w2 ⟨rfl, hb2⟩; have hbl2 := Heap.Below.call (by with_reducible assumption) (le2 _ _ _) hb2; obtain ⟨hcl, hfz⟩ := bcell hb2; have hz2 := hb2.size) | fail)
  all_goals
    clear K0
    obtain ⟨-, -, -, -, -, -, hbz⟩ := ‹_ ∧ _ ∧ _ ∧ _ ∧ _ ∧ _ ∧ Below (w.heap.size + 2) _ _›
    obtain ⟨y1, y2, ⟨y3, y4, y5, y6, y7⟩, hfr⟩ := KEEP2.out _ hbz
    have z0 := hfr 0
    have z1 := hfr 1
    have z2 := hfr 2
    have z3 := hfr 3
    have z4 := hfr 4
    have HBZ := Lib.hid hbz
    have hj0 : (0 : Int) ≤ (j : Int) := Int.natCast_nonneg j
    have hj1 : (j : Int) < (xl : Int) := Int.ofNat_lt.2 hjl
    clear hbz hfr
    go_wp2_with fail
    go_region
    go_wp2
    refine bodyPost_ret (v := turnAgg ⟨9, xo, xn, 0, xx⟩) (by simp [results, Tryd.results39, go_sem, turnAgg, y3, y4, y5, y6, y7]) rfl ⟨by rw [HT.out], ?_⟩
    exact ((((((KW.out _ HBZ.out).setCell (by simp) _).setCell (by simp) _).setCell (by simp) _).setCell (by simp) _).setCell (by simp) _).drew
end Go.Proofs.Rm
namespace Go.Proofs.Rm
open Go.RowKit Go.Proofs.Heap Go.Proofs.Mem
theorem findAt_iff {α : Type} {p : α → Bool} {l : List α} : 0 ≤ findAt p l ↔ ∃ x ∈ l, p x = true := by
  constructor
  · intro h
    obtain ⟨k, hk, -, hp, -⟩ := findAt_at h
    exact ⟨l[k], List.getElem_mem hk, hp⟩
  · rintro ⟨x, hx, hp⟩
    unfold findAt
    cases hf : l.findIdx? p with
    | none =>
      rw [List.findIdx?_eq_none_iff] at hf
      have := hf x hx
      rw [hp] at this; cases this
    | some i => exact Int.natCast_nonneg i
theorem mem_erase_other {α : Type} {l : List α} {k : Nat} {x : α} (hx : x ∈ l) (h : ∀ hk : k < l.length, l[k] ≠ x) : x ∈ l.eraseIdx k := by
  obtain ⟨i, hi, rfl⟩ := List.getElem_of_mem hx
  rw [List.mem_eraseIdx_iff_getElem]
  refine ⟨i, hi, ?_, rfl⟩
  intro e
  subst e
  exact h hi rfl
theorem subAt_iff {T : Tab} {p n : Int} : 0 ≤ T.subAt p n ↔ ∃ x ∈ T.subs, x.peer = p ∧ x.source = n := by
  unfold Tab.subAt
  rw [findAt_iff]
  simp
theorem endSub_other {T : Tab} {p n q m : Int} (hne : ¬ (q = p ∧ m = n)) (h0 : 0 ≤ T.subAt p n) (h : 0 ≤ T.subAt q m) : 0 ≤ (T.endSub p n).subAt q m := by
  obtain ⟨x, hx, hxq, hxm⟩ := subAt_iff.1 h
  obtain ⟨k, hk, hke, hp, -⟩ := findAt_at h0
  rw [subAt_iff]
  refine ⟨x, ?_, hxq, hxm⟩
  unfold Tab.endSub
  refine mem_erase_other hx fun hk2 e => ?_
  have hke : T.subAt p n = k := hke
  have : T.subs[k] = x := by rw [← e]; congr 1; rw [hke, Int.toNat_natCast]
  rw [this] at hp
  simp at hp
  exact hne ⟨by omega, by omega⟩
theorem endGo_snoc (n : Int) : ∀ (l : List Nat) (p : Nat) (T : Tab), Tab.endGo n (l ++ [p]) T = ((Tab.endGo n l T).1 ++ [⟨3, p, n, 0, 0⟩, ⟨2, p, n, 0, 0⟩], (Tab.endGo n l T).2.endSub p n)
  | [], p, T => rfl
  | q :: l, p, T => by
    show Tab.endGo n (q :: (l ++ [p])) T = _
    unfold Tab.endGo
    rw [endGo_snoc n l p]
    rfl
theorem endGo_fields (n : Int) : ∀ (l : List Nat) (T : Tab), (Tab.endGo n l T).2.srcs = T.srcs ∧ (Tab.endGo n l T).2.peers = T.peers ∧ (Tab.endGo n l T).2.subs.length ≤ T.subs.length ∧ (Tab.endGo n l T).1.length = 2 * l.length
  | [], T => ⟨rfl, rfl, Nat.le_refl _, rfl⟩
  | q :: l, T => by
    obtain ⟨h1, h2, h3, h4⟩ := endGo_fields n l (T.endSub q n)
    unfold Tab.endGo
    refine ⟨h1, h2, Nat.le_trans h3 (by unfold Tab.endSub; dsimp only; exact (List.eraseIdx_sublist _ _).length_le), ?_⟩
    dsimp only
    rw [List.length_cons, List.length_cons, h4, List.length_cons]; omega
theorem endGo_has (n : Int) : ∀ (l : List Nat) (T : Tab) (q : Nat), l.Nodup → (∀ p ∈ l, 0 ≤ T.subAt (p : Int) n) → q ∉ l → 0 ≤ T.subAt (q : Int) n → 0 ≤ (Tab.endGo n l T).2.subAt (q : Int) n
  | [], T, q, _, _, _, h => h
  | p :: l, T, q, hd, hl, hq, h => by
    unfold Tab.endGo
    dsimp only
    rw [List.nodup_cons] at hd
    have hp := hl p (List.mem_cons_self ..)
    refine endGo_has n l (T.endSub p n) q hd.2 (fun r hr => endSub_other (fun e => hd.1 ?_) hp (hl r (List.mem_cons_of_mem _ hr))) (fun e => hq (List.mem_cons_of_mem _ e)) (endSub_other (fun e => hq ?_) hp h)
    · have : r = p := by omega
      rw [← this]; exact hr
    · have : q = p := by omega
      rw [this]; exact List.mem_cons_self ..
theorem hears_mem {T : Tab} {n : Int} {p : Nat} : p ∈ T.hears n ↔ 1 ≤ p ∧ p ≤ 8 ∧ 0 ≤ T.subAt (p : Int) n := by
  unfold Tab.hears Tab.hearsTo
  rw [List.mem_filter, List.mem_map]
  constructor
  · rintro ⟨⟨q, hq, rfl⟩, h2⟩
    rw [List.mem_range] at hq
    exact ⟨by omega, by omega, of_decide_eq_true h2⟩
  · rintro ⟨h1, h2, h3⟩
    exact ⟨⟨p - 1, by rw [List.mem_range]; omega, by omega⟩, decide_eq_true h3⟩
theorem hears_nodup (T : Tab) (n : Int) : (T.hears n).Nodup := by
  unfold Tab.hears Tab.hearsTo
  refine List.Pairwise.filter _ ?_
  rw [List.pairwise_map]
  exact List.Pairwise.imp (fun h e => h (by omega)) List.nodup_range
theorem Small.endSub {T : Tab} (h : T.Small) (p n : Int) : (T.endSub p n).Small :=
  ⟨h.peers, h.srcs, Nat.le_trans (List.eraseIdx_sublist _ _).length_le h.subs⟩
theorem Small.endGo {T : Tab} (h : T.Small) (n : Int) (l : List Nat) : (Tab.endGo n l T).2.Small := by
  obtain ⟨h1, h2, h3, -⟩ := endGo_fields n l T
  exact ⟨by rw [h2]; exact h.peers, by rw [h1]; exact h.srcs, Nat.le_trans h3 h.subs⟩
theorem Small.noSrc {T : Tab} (h : T.Small) (n : Int) : (T.noSrc n).Small := ⟨h.peers, Nat.le_trans (List.eraseIdx_sublist _ _).length_le h.srcs, h.subs⟩
theorem Small.endSource {T : Tab} (h : T.Small) (n : Int) : (T.endSource n).2.Small := Small.noSrc (Small.endGo h n _) n
theorem endSource_len (T : Tab) (n : Int) : (T.endSource n).1.length ≤ 16 := by
  have h1 := (endGo_fields n (T.hears n) T).2.2.2
  have h2 := hearsTo_len T n 8
  have h2 : (T.hears n).length ≤ 8 := h2
  show (Tab.endGo n (T.hears n) T).1.length ≤ 16
  omega
theorem leave1_fields (p : Int) (T : Tab) : ∀ k, (Tab.leave1 p T k).2.srcs = T.srcs ∧ (Tab.leave1 p T k).2.peers = T.peers ∧ (T.Small → (Tab.leave1 p T k).2.Small) ∧ (Tab.leave1 p T k).1.length ≤ k
  | 0 => ⟨rfl, rfl, id, Nat.le_refl _⟩
  | k + 1 => by
    obtain ⟨h1, h2, h3, h4⟩ := leave1_fields p T k
    unfold Tab.leave1
    dsimp only
    split
    · exact ⟨h1, h2, fun h => Small.endSub (h3 h) _ _, by dsimp only; rw [List.length_append]; simp; omega⟩
    · exact ⟨h1, h2, h3, by omega⟩
theorem leave2_fields (p : Int) (T : Tab) : ∀ k, (Tab.leave2 p T k).2.peers = T.peers ∧ (T.Small → (Tab.leave2 p T k).2.Small) ∧ (Tab.leave2 p T k).1.length ≤ k * 16
  | 0 => ⟨rfl, id, Nat.le_refl _⟩
  | k + 1 => by
    obtain ⟨h2, h3, h4⟩ := leave2_fields p T k
    unfold Tab.leave2
    dsimp only
    split
    · refine ⟨?_, fun h => Small.endSource (h3 h) _, ?_⟩
      · dsimp only
        show (Tab.endGo _ _ _).2.peers = _
        rw [(endGo_fields _ _ _).2.1]; exact h2
      · dsimp only
        rw [List.length_append]
        have := endSource_len (Tab.leave2 p T k).2 ((k : Int) + 1)
        omega
    · exact ⟨h2, h3, by omega⟩
theorem rleave1_succ (p : Int) (T : Tab) (k : Nat) : Tab.leave1 p T (k + 1) = if 0 ≤ (Tab.leave1 p T k).2.subAt p ((k : Int) + 1) then ((Tab.leave1 p T k).1 ++ [⟨2, p, (k : Int) + 1, 0, 0⟩], (Tab.leave1 p T k).2.endSub p ((k : Int) + 1)) else Tab.leave1 p T k := rfl
theorem rleave2_succ (p : Int) (T : Tab) (k : Nat) : Tab.leave2 p T (k + 1) = if (Tab.leave2 p T k).2.owner ((k : Int) + 1) = p then ((Tab.leave2 p T k).1 ++ ((Tab.leave2 p T k).2.endSource ((k : Int) + 1)).1, ((Tab.leave2 p T k).2.endSource ((k : Int) + 1)).2) else Tab.leave2 p T k := rfl
theorem srcAt_iff {T : Tab} {n : Int} : 0 ≤ T.srcAt n ↔ ∃ x ∈ T.srcs, x.num = n := by
  unfold Tab.srcAt
  rw [findAt_iff]
  simp
theorem peerAt_iff {T : Tab} {n : Int} : 0 ≤ T.peerAt n ↔ ∃ x ∈ T.peers, x.num = n := by
  unfold Tab.peerAt
  rw [findAt_iff]
  simp
theorem owner_has {T : Tab} {n p : Int} (hp : p ≠ 0) (h : T.owner n = p) : 0 ≤ T.srcAt n := by
  unfold Tab.owner at h
  split at h
  · exact absurd h.symm hp
  · omega
end Go.Proofs.Rm
namespace Go.Proofs.Rm
open Go.RowKit Go.Proofs.Heap Go.Proofs.Mem
theorem RefAt.grown {w w' : World} {b : Nat} {T : Tab} (h : RefAt w b T) {base : Nat} {size : Nat} {vo : Value} {m : Nat} {ys : List Value} (ho : w.ownsRow base 59 size vo m ys) (hg : w.grownBy w' vo.ownBlock) (hb : b < base) : RefAt w' b T := by
  have hlt := h.lt
  obtain ⟨pv, sv, uv, hc, h1, ⟨ms, h2, h3, h4⟩, h5⟩ := h.vals
  exact ⟨pv, sv, uv, by rw [hg.block b hlt (fun e => by have := own_le ho b e.symm; omega)]; exact hc, Row.grown h1 ho hg (by decide), ⟨ms, h2, Row.grown h3 ho hg (by decide), fun m hm => Row.grown (h4 m hm) ho hg (by decide)⟩, Row.grown h5 ho hg (by decide)⟩
theorem tsrcs_len (l : List (TSrc × Value)) : (l.flatMap tsrcCells).length = l.length * 4 := flat_length tsrcCells 4 (fun _ => rfl) l
/-- A slice value or nothing else stands in a source's third cell. -/
theorem tsrcs_one {l : List (TSrc × Value)} (h : ∀ m ∈ l, ∃ a n c, m.2 = .slice a n c) : ∀ u ∈ l.flatMap tsrcCells, u.oneCell' = true := by
  intro u hu
  obtain ⟨x, hx, hu⟩ := List.mem_flatMap.1 hu
  obtain ⟨a, n, c, e⟩ := h x hx
  obtain ⟨x, v⟩ := x
  dsimp only at e
  subst e
  exact tsrc_one x a n c u hu
theorem getD_mem {l : List Nat} {k : Nat} (h : k < l.length) : l.getD k 0 ∈ l := by
  rw [List.getD_eq_getElem?_getD, List.getElem?_eq_getElem h]; exact List.getElem_mem h
theorem take_snocN {l : List Nat} {k : Nat} (h : k < l.length) : l.take (k + 1) = l.take k ++ [l.getD k 0] := by
  rw [List.take_succ_eq_append_getElem h, List.getD_eq_getElem?_getD, List.getElem?_eq_getElem h]; rfl
theorem nodup_take {l : List Nat} (h : l.Nodup) {k : Nat} (hk : k < l.length) : l.getD k 0 ∉ l.take k := by
  rw [List.getD_eq_getElem?_getD, List.getElem?_eq_getElem hk]
  intro hm
  obtain ⟨i, hi, e⟩ := List.getElem_of_mem hm
  rw [List.length_take] at hi
  rw [List.getElem_take] at e
  exact (List.pairwise_iff_getElem.1 h) i k (by omega) hk (by omega) e
set_option maxRecDepth 100000 in
set_option maxHeartbeats 8000000 in
theorem endSource_any (b : Nat) (T : Tab) (n : Int) (w : World) (hR : RefAt w b T) (hsm : T.Small) (hs : 0 ≤ T.srcAt n) :
    Calls Tryd.prog 38 #[.pointer (some ⟨b, 0, none⟩), .int .i64 n] w fun e w' => (∃ v, e = .returned v ∧ TurnRow w' v (T.endSource n).1) ∧ RefAt w' b (T.endSource n).2 ∧ Fr w.heap.size (· = b) w w' := by
  have hb := hR.lt
  have CH := Lib.hid (Hears_any b T n w hR)
  have HLL : (T.hears n).length ≤ 8 := hearsTo_len T n 8
  have HND := Lib.hid (hears_nodup T n)
  have HMEM : Hid (∀ p ∈ T.hears n, 0 ≤ T.subAt (p : Int) n) := fun p hp => (hears_mem.1 hp).2.2
  have HES : Hid (T.endSource n = ((Tab.endGo n (T.hears n) T).1, (Tab.endGo n (T.hears n) T).2.noSrc n)) := rfl
  have HR := Lib.hid hR
  have HSM := Lib.hid hsm
  have HSA := Lib.hid hs
  clear hR hsm hs
  generalize T.hears n = L at *
  go_enter Tryd.func38, Tryd.ntmps38
  go_wp2_with fail
  (with_reducible refine CH.out.mono ?_)
  rintro e w1 ⟨⟨lv, rfl, hrow⟩, hb1⟩
  have HROW := Lib.hid hrow
  have HFR0 : Hid (Fr w.heap.size (· = b) w w1) := Fr.of_below _ hb1
  have HR1 := Lib.hid (HR.out.below hb1)
  obtain ⟨la, lcap, rfl, -, -⟩ := id hrow
  clear hb1 hrow
  go_wp2_with fail
  go_loopw [5, 13] (fun v i w' => ∃ k : Nat, k ≤ L.length ∧ i = .int .i64 k ∧ Fr w.heap.size (· = b) w w' ∧ Row w' 3 (.slice la L.length lcap) L.length (ints L) ∧ RefAt w' b (Tab.endGo n (L.take k) T).2 ∧ w'.ownsRow w.heap.size 59 5 v (Tab.endGo n (L.take k) T).1.length ((Tab.endGo n (L.take k) T).1.flatMap turnCells)) (fun _ i _ => L.length - (intOf i).toNat)
  case atStart => exact ⟨0, by omega, rfl, HFR0.out, HROW.out, HR1.out, World.ownsRow_nil _ _ _ _⟩
  case round =>
    obtain ⟨k, hk, rfl, hfr, hrow, href, hown⟩ := hrel
    clear HFR0 HR1 HROW
    have HFR := Lib.hid hfr
    have HROW := Lib.hid hrow
    have HREF := Lib.hid href
    have HOWN := Lib.hid hown
    have hsz := hfr.size
    clear hfr hown href
    by_cases hkl : k < L.length
    · obtain ⟨g, off, cap, e1, hg, hcells⟩ := int_open hrow (by omega)
      cases e1
      have hc := hcells k hkl
      have HGL := (endGo_fields n (L.take k) T).2.2.2
      rw [List.length_take] at HGL
      have HS : Hid (Tab.endGo n (L.take (k + 1)) T = ((Tab.endGo n (L.take k) T).1 ++ [⟨3, (L.getD k 0 : Nat), n, 0, 0⟩, ⟨2, (L.getD k 0 : Nat), n, 0, 0⟩], (Tab.endGo n (L.take k) T).2.endSub (L.getD k 0 : Nat) n)) := by
        show _ = _; rw [take_snocN hkl, endGo_snoc]
      have ce := endSub_any b (Tab.endGo n (L.take k) T).2 (L.getD k 0 : Nat) n wr HREF.out (Small.endGo HSM.out n _) (endGo_has n _ T _ (List.Nodup.sublist (List.take_sublist _ _) HND.out) (fun p hp => HMEM.out p (List.mem_of_mem_take hp)) (nodup_take HND.out hkl) (HMEM.out _ (getD_mem hkl)))
      unfold turnAgg at ce
      dsimp only at ce
      have CE := Lib.hid ce
      clear ce hcells hrow
      generalize L.getD k 0 = p at *
      generalize Tab.endGo n (L.take k) T = G at *
      go_wp2_with (first | (go_at_call 40; (with_reducible refine CE.out.mono ?_); rintro e w2 ⟨rfl, href2, hfr2⟩; have HREF2 := Lib.hid href2; have HFR2 := Lib.hid hfr2; have hsz2 := hfr2.size; clear href2 hfr2) | (at_builtin; refine wpList_app rfl (.tmp 17) (.tmp 25) 33 rfl w.heap.size elemTurn _ G.1.length (G.1.flatMap turnCells) rfl ?a1 _ 2 ([⟨3, p, n, 0, 0⟩, ⟨2, p, n, 0, 0⟩].flatMap turnCells) rfl ?a2 rfl ?a4 ?a5 ?a6 ?a7 (fun v' w3 HO HG => ?_)))
      case a1 => exact (owns_fr HOWN.out HFR2.out (fun k hk => by omega)).alloc _
      case a2 => exact row_new' _ _ 2 _ ([⟨3, p, n, 0, 0⟩, ⟨2, p, n, 0, 0⟩].flatMap turnCells) (by decide) rfl
      case a4 => exact turns_one _
      case a5 => omega
      case a6 => omega
      case a7 => simp; omega
      go_roundw
      case rel =>
        have hown2 := (owns_fr HOWN.out HFR2.out (fun k hk => by omega)).alloc (.cells ([⟨3, p, n, 0, 0⟩, ⟨2, p, n, 0, 0⟩].flatMap turnCells).toArray 59)
        have hbl := below_alloc w2 (.cells ([⟨3, p, n, 0, 0⟩, ⟨2, p, n, 0, 0⟩].flatMap turnCells).toArray 59)
        refine ⟨k + 1, by omega, by go_num, ?_, ?_, ?_, ?_⟩
        · have h3 := HFR.out.trans (HFR2.out.mono (by omega) (fun _ _ h => h))
          exact (h3.alloc (by omega) _).grown HG.out (by simp; omega) (own_le HOWN.out)
        · exact Row.grown ((HROW.out.fr HFR2.out (Nat.le_refl _) (HREF.out.typ (by decide))).below hbl) hown2 HG.out (by decide)
        · rw [HS.out]
          exact RefAt.grown (HREF2.out.below hbl) hown2 HG.out hb
        · rw [HS.out]
          dsimp only
          rw [List.length_append, List.flatMap_append]
          exact HO.out
      case measure => simp [intOf]; omega
    · have hT : L.take k = L := List.take_of_length_le (by omega)
      rw [hT] at HOWN HREF
      have hfl := endGo_fields n L T
      have HSM2 := Small.endGo HSM.out n L
      have hsa : 0 ≤ (Tab.endGo n L T).2.srcAt n := by rw [srcAt_iff, hfl.1, ← srcAt_iff]; exact HSA.out
      clear hT hrow hfl
      generalize Tab.endGo n L T = G at *
      obtain ⟨m, hm, hme, -, -⟩ := findAt_at hsa
      have hme : G.2.srcAt n = m := hme
      have cb := SourceAt_any b G.2 n wr HREF.out
      rw [hme] at cb
      have CB := Lib.hid cb
      have HE : Hid (G.2.noSrc n = { G.2 with srcs := G.2.srcs.take m ++ G.2.srcs.drop (m + 1) }) := by show _ = _; unfold Tab.noSrc; rw [hme, Int.toNat_natCast, List.eraseIdx_eq_take_drop_succ]
      have hsl := HSM2.srcs
      unfold small at hsl
      clear cb hme hsa HSM2
      go_wp2_with fail
      (with_reducible refine CB.out.mono ?_)
      rintro e V ⟨rfl, hbV⟩
      have HRV := Lib.hid (HREF.out.below hbV)
      have HFV : Hid (Fr w.heap.size (· = b) w V) := HFR.out.trans ((Fr.of_below _ hbV).mono hsz (fun _ _ h => h))
      have HOV := Lib.hid (owns_below HOWN.out hbV)
      have hszV : w.heap.size ≤ V.heap.size := Nat.le_trans hsz hbV.size
      clear hbV CB
      obtain ⟨pv, sv, uv, hcell, htab⟩ := HRV.out.vals
      obtain ⟨P, hms, hrowS, hrs⟩ := htab.srcs
      have hml : m < P.length := by rw [← hms, List.length_map] at hm; exact hm
      have hPl : P.length ≤ 100000 := by rw [← hms, List.length_map] at hsl; exact hsl
      have HSV : Hid (∀ x ∈ P, ∃ a n c, x.2 = .slice a n c) := fun x hx => by obtain ⟨a, c, h, -, -⟩ := hrs x hx; exact ⟨a, _, c, h⟩
      obtain ⟨a, cap, rfl, hncap, hcm, -, -⟩ := id hrowS
      obtain ⟨a1, run1, row1, -⟩ := slice_to elemSrc a P.length cap m (by omega)
      obtain ⟨a2, run2, row2, -⟩ := slice_from elemSrc a P.length cap (m + 1) (by omega) hncap
      rw [show (((m + 1 : Nat) : Int)) = (m : Int) + 1 by omega] at run2
      have HW1 : Hid (∀ w', Below V.heap.size V w' → Row w' 44 (.slice a1 m cap) m ((P.take m).flatMap tsrcCells)) := fun w' h => by
        have := row1 w' _ (by omega) (tsrcs_len _) (hrowS.below h)
        rwa [flat_take tsrcCells 4 (fun _ => rfl)] at this
      have HW2 : Hid (∀ w', Below V.heap.size V w' → Row w' 44 (.slice a2 (P.length - (m + 1)) (cap - (m + 1))) (P.length - (m + 1)) ((P.drop (m + 1)).flatMap tsrcCells)) := fun w' h => by
        have := row2 w' _ (tsrcs_len _) (hrowS.below h)
        rwa [flat_drop tsrcCells 4 (fun _ => rfl)] at this
      have HL1 : Hid (((P.take m).flatMap tsrcCells).length = m * 4) := by show _ = _; rw [tsrcs_len, List.length_take, Nat.min_eq_left (by omega)]
      have HL2 : Hid (((P.drop (m + 1)).flatMap tsrcCells).length = (P.length - (m + 1)) * 4) := by show _ = _; rw [tsrcs_len, List.length_drop]
      have HL3 : Hid ((P.take m ++ P.drop (m + 1)).length = m + (P.length - (m + 1))) := by show _ = _; rw [List.length_append, List.length_take, List.length_drop, Nat.min_eq_left (by omega)]
      have HO1 : Hid (∀ u ∈ (P.take m).flatMap tsrcCells, u.oneCell' = true) := tsrcs_one fun x hx => HSV.out x (List.mem_of_mem_take hx)
      have HO2 : Hid (∀ u ∈ (P.drop (m + 1)).flatMap tsrcCells, u.oneCell' = true) := tsrcs_one fun x hx => HSV.out x (List.mem_of_mem_drop hx)
      have HC : Hid (∀ w', Below V.heap.size V w' → w'.cell? ⟨b, 1, none⟩ = some (.slice a P.length cap)) := fun w' h => (h.cell (p := ⟨b, 1, none⟩) (by dsimp only; omega)).trans (cell_of hcell 1)
      have hfz := HRV.out.unfrozen 1
      have HFZ : Hid (∀ w', Below V.heap.size V w' → w'.frozen? ⟨b, 1, none⟩ = false) := fun w' h => (h.frozen (p := ⟨b, 1, none⟩) (by dsimp only; omega)).trans hfz
      have HMS : Hid ((P.take m ++ P.drop (m + 1)).map Prod.fst = G.2.srcs.take m ++ G.2.srcs.drop (m + 1)) := by show _ = _; rw [List.map_append, List.map_take, List.map_drop, hms]
      have HRS : Hid (∀ w', Below V.heap.size V w' → ∀ x ∈ P.take m ++ P.drop (m + 1), Row w' 23 x.2 x.1.ss.length (u32s x.1.ss)) := fun w' h x hx => by
        refine (hrs x ?_).below h
        rcases List.mem_append.1 hx with hx | hx
        · exact List.mem_of_mem_take hx
        · exact List.mem_of_mem_drop hx
      have hk1 : m + 1 ≤ P.length := hml
      have hw1 : IntKind.i64.wrap ((m : Int) + 1) = (m : Int) + 1 := IntWalk.i64_in _ (by omega)
      have hc1 := HC.out V (Below.refl _ _)
      have hb0 : Below V.heap.size V V := Below.refl _ _
      clear hfz htab hcell hrowS row1 row2 hrs hms hml hm hsl
      generalize P.length = N at *
      go_wp2_with fail
      go_region_law (first | (refine step_app (by rfl) (.const (.slice none 0 0)) (.tmp 37) 29 (by rfl) V.heap.size elemSrc (.slice none 0 0) 0 [] (by rfl) (World.ownsRow_nil _ _ _ _) (.slice a1 m cap) m ((P.take m).flatMap tsrcCells) (by rfl) ?_ HL1.out HO1.out (by omega) (by omega) ?_ ?_; (exact HW1.out _ (by first | with_reducible assumption | exact Below.drew (by with_reducible assumption))); (exact Below.size (by first | with_reducible assumption | exact Below.drew (by with_reducible assumption))); intro v1 w2 HQ1 HG1; have hbl2 : Below V.heap.size V w2 := Below.grown (by first | with_reducible assumption | exact Below.drew (by with_reducible assumption)) HG1.out (Below.size (by first | with_reducible assumption | exact Below.drew (by with_reducible assumption))) (own_le (World.ownsRow_nil V _ 44 4)); have c2 := HC.out _ hbl2) | (refine step_app (by rfl) (.tmp 38) (.tmp 45) 29 (by rfl) V.heap.size elemSrc v1 (0 + m) ([] ++ (P.take m).flatMap tsrcCells) (by rfl) ?_ (.slice a2 (N - (m + 1)) (cap - (m + 1))) (N - (m + 1)) ((P.drop (m + 1)).flatMap tsrcCells) (by rfl) ?_ HL2.out HO2.out (by omega) (by omega) ?_ ?_; (first | exact HQ1.out | exact owns_drew HQ1.out); (exact HW2.out _ (by first | with_reducible assumption | exact Below.drew (by with_reducible assumption))); (exact Below.size (by first | with_reducible assumption | exact Below.drew (by with_reducible assumption))); intro v2 w3 HQ2 HG2; have hbl3 : Below V.heap.size V w3 := Below.grown (by first | with_reducible assumption | exact Below.drew (by with_reducible assumption)) HG2.out (Below.size (by first | with_reducible assumption | exact Below.drew (by with_reducible assumption))) (own_le HQ1.out); have c3 := HC.out _ hbl3; have f3 := HFZ.out _ hbl3; obtain ⟨va, vc, hv⟩ := own_form HQ2.out; subst hv))
      all_goals
        go_wp2
        go_ret
        have hrow := Row.of_owns HQ2.out
        rw [List.nil_append, ← List.flatMap_append, Nat.zero_add] at hrow
        have hr3 : RefAt w3 b G.2 := HRV.out.below hbl3
        have hlen2 : m + (N - (m + 1)) = (P.take m ++ P.drop (m + 1)).length := by rw [HL3.out]
        rw [hlen2] at hrow
        have hr4 := hr3.setSrcs _ HMS.out hrow (HRS.out _ hbl3)
        rw [← hlen2] at hr4
        refine ⟨⟨_, rfl, ?_⟩, ?_, ?_⟩
        · rw [HES.out]
          exact (((Row.of_owns HOV.out).below hbl3).fr ((Fr.refl w3.heap.size (· = b) w3).setAt _ _) (Nat.le_refl _) (hr3.typ (by decide)))
        · rw [HES.out]
          dsimp only
          rw [HE.out]
          exact hr4
        · exact (HFV.out.trans ((Fr.of_below _ hbl3).mono hszV (fun _ _ h => h))).setAt _ _
end Go.Proofs.Rm
