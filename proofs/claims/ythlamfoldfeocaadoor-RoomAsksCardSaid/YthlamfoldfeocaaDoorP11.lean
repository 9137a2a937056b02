/- Several texts in one: The walks of the reference's room: mute. -/
import Derived.Deep.DeepCutAuto
import Derived.Test.YthlamfoldfeocaaDoorP09
namespace Go.Proofs.Rm
open Go.RowKit Go.Proofs.Heap Go.Proofs.Mem
theorem owns_some {w : World} {base : Nat} {e : TypeId} {size : Nat} {v : Value} {n : Nat} {xs : List Value} (h : w.ownsRow base e size v n xs) (hn : 0 < n) : ∃ g cap cur, v = .slice (some ⟨g, 0, none⟩) n cap ∧ base ≤ g ∧ w.heap[g]? = some (.cells cur e) := by
  obtain ⟨_, h⟩ := h
  rcases h with ⟨_, h⟩ | ⟨g, cap, cur, hv, hg, hh, h1, h2, h3, h4⟩
  · omega
  · exact ⟨g, cap, cur, hv, hg, hh⟩
theorem rmuteAll_len (T : Tab) (n : Int) (on : Bool) : ∀ l : List Nat, (l.flatMap (T.muteTurns n on)).length ≤ 2 * l.length
  | [] => Nat.le_refl _
  | p :: l => by
    rw [List.flatMap_cons, List.length_append, List.length_cons]
    have h1 := rmuteAll_len T n on l
    have h2 : (T.muteTurns n on p).length ≤ 2 := by unfold Tab.muteTurns; split; simp; split <;> simp
    omega
theorem set4 {w : World} {b : Nat} {u0 u1 u2 u3 v0 v1 v2 v3 : Value} (h0 : w.cell? ⟨b, 0, none⟩ = some u0) (h1 : w.cell? ⟨b, 1, none⟩ = some u1) (h2 : w.cell? ⟨b, 2, none⟩ = some u2) (h3 : w.cell? ⟨b, 3, none⟩ = some u3) :
    ((((w.setCell ⟨b, 0, none⟩ v0).setCell ⟨b, 1, none⟩ v1).setCell ⟨b, 2, none⟩ v2).setCell ⟨b, 3, none⟩ v3).cell? ⟨b, 0, none⟩ = some v0 ∧ ((((w.setCell ⟨b, 0, none⟩ v0).setCell ⟨b, 1, none⟩ v1).setCell ⟨b, 2, none⟩ v2).setCell ⟨b, 3, none⟩ v3).cell? ⟨b, 1, none⟩ = some v1 ∧
    ((((w.setCell ⟨b, 0, none⟩ v0).setCell ⟨b, 1, none⟩ v1).setCell ⟨b, 2, none⟩ v2).setCell ⟨b, 3, none⟩ v3).cell? ⟨b, 2, none⟩ = some v2 ∧ ((((w.setCell ⟨b, 0, none⟩ v0).setCell ⟨b, 1, none⟩ v1).setCell ⟨b, 2, none⟩ v2).setCell ⟨b, 3, none⟩ v3).cell? ⟨b, 3, none⟩ = some v3 := by
  obtain ⟨k0, k1, k2⟩ := set3 (v0 := v0) (v1 := v1) (v2 := v2) h0 h1 h2
  refine ⟨(World.cell?_setCell_other _ _ _ _ (by simp)).trans k0, (World.cell?_setCell_other _ _ _ _ (by simp)).trans k1, (World.cell?_setCell_other _ _ _ _ (by simp)).trans k2, World.cell?_setCell_same (u := u3) _ _ _ ?_⟩
  rw [World.cell?_setCell_other _ _ _ _ (by simp), World.cell?_setCell_other _ _ _ _ (by simp), World.cell?_setCell_other _ _ _ _ (by simp)]; exact h3
theorem own_lt {base : Nat} {e : TypeId} {size : Nat} {v : Value} {n : Nat} {xs : List Value} {w : World} (h : w.ownsRow base e size v n xs) : ∀ k, v.ownBlock = some k → k < w.heap.size := by
  intro k hk
  obtain ⟨_, h⟩ := h
  rcases h with ⟨rfl, _⟩ | ⟨g, cap, cur, rfl, hg, hh, _⟩
  · cases hk
  · have hk : some g = some k := hk
    cases hk
    rcases Nat.lt_or_ge k w.heap.size with h | h
    · exact h
    · rw [Array.getElem?_eq_none h] at hh; cases hh
theorem grown_far {w w' : World} {row : Option Nat} (hg : w.grownBy w' row) {B g : Nat} (hr : ∀ k, row = some k → k < B) (hB : B ≤ g) (hlt : g < w.heap.size) (j : Nat) : w'.cell? ⟨g, j, none⟩ = w.cell? ⟨g, j, none⟩ :=
  World.cell?_of_block (w := w) (hg.block g hlt (fun e => by have := hr g e.symm; omega))
theorem owns_set {w : World} {base : Nat} {e : TypeId} {size : Nat} {n : Nat} {xs : List Value} {g cap : Nat} (h : w.ownsRow base e size (.slice (some ⟨g, 0, none⟩) n cap) n xs) (hn : 0 < n) {i : Nat} (u : Value) : (w.setCell ⟨g, i, none⟩ u).ownsRow base e size (.slice (some ⟨g, 0, none⟩) n cap) n (xs.set i u) := by
  obtain ⟨hl, h⟩ := h
  refine ⟨by rw [List.length_set]; exact hl, ?_⟩
  rcases h with ⟨_, h⟩ | ⟨g', cap', cur, hv, hg, hh, h1, h2, h3, h4⟩
  · omega
  · cases hv
    refine Or.inr ⟨g, cap, cur.setIfInBounds i u, rfl, hg, by simp [World.setCell, Array.getElem?_modify, hh], h1, h2, by rw [Array.size_setIfInBounds]; exact h3, ?_⟩
    rw [Array.toList_setIfInBounds, List.take_set, h4]
theorem tsrc_set (on : Bool) : ∀ (P : List (TSrc × Value)) (k : Nat) (hk : k < P.length), (P.flatMap tsrcCells).set (k * 4 + 3) (.bool on) = (P.set k ({ P[k].1 with muted := on }, P[k].2)).flatMap tsrcCells
  | [], k, hk => by simp at hk
  | x :: P, 0, _ => by simp [tsrcCells]
  | x :: P, k + 1, hk => by
    have ih := tsrc_set on P k (by simpa using hk)
    rw [List.flatMap_cons, List.set_append_right _ _ (by show 4 ≤ _; omega), List.set_cons_succ, List.flatMap_cons]
    have : (k + 1) * 4 + 3 - (tsrcCells x).length = k * 4 + 3 := by show _ - 4 = _; omega
    rw [this, ih]
    rfl
set_option maxRecDepth 100000 in
set_option maxHeartbeats 8000000 in
theorem rmute_on (b : Nat) (T : Tab) (n : Int) (w : World) (hR : RefAt w b T) (hsm : T.Small) (hs : 0 ≤ T.srcAt n) :
    Calls Tryd.prog 41 #[.pointer (some ⟨b, 0, none⟩), .int .i64 n, .bool true] w fun e w' => (∃ v, e = .returned v ∧ TurnRow w' v (T.mute n true).1) ∧ RefAt w' b (T.mute n true).2 ∧ Fr w.heap.size (· = b) w w' := by
  have hb := hR.lt
  obtain ⟨m, hm, hme, -, -⟩ := findAt_at hs
  have hme : T.srcAt n = m := hme
  have CB := Lib.hid (fun (w1 : World) (h : RefAt w1 b T) => SourceAt_any b T n w1 h)
  rw [hme] at CB
  have HMU : Hid (T.mute n true = (((T.setMuted n true).hears n).flatMap ((T.setMuted n true).muteTurns n true), T.setMuted n true)) := rfl
  obtain ⟨pv, sv, uv, hcell, htab⟩ := hR.vals
  obtain ⟨P, hms, hrowS, hrs⟩ := htab.srcs
  have hml : m < P.length := by rw [← hms, List.length_map] at hm; exact hm
  have hsl := hsm.srcs
  unfold small at hsl
  have hPl : P.length ≤ 100000 := by rw [← hms, List.length_map] at hsl; exact hsl
  have hsvs : ∀ x ∈ P, ∃ a n c, x.2 = .slice a n c := fun x hx => by obtain ⟨a, c, h, -, -⟩ := hrs x hx; exact ⟨a, _, c, h⟩
  have HO1 : Hid (∀ u ∈ P.flatMap tsrcCells, u.oneCell' = true) := tsrcs_one hsvs
  have HLP := Lib.hid (tsrcs_len P)
  have HMT : Hid (T.setMuted n true = { T with srcs := (P.set m ({ P[m].1 with muted := true }, P[m].2)).map Prod.fst }) := by
    show _ = _
    unfold Tab.setMuted Tab.srcD
    rw [hme, Int.toNat_natCast, List.map_set, hms]
    congr 2
    rw [show T.srcs.getD m noTSrc = P[m].1 by rw [← hms, getD_map_fst hml]]
  have HROWS := Lib.hid hrowS
  have HRS := Lib.hid hrs
  have HR := Lib.hid hR
  have HMS := Lib.hid hms
  have HSM := Lib.hid hsm
  have HML := Lib.hid hml
  have c1 := cell_of hcell 1
  have f1 := hR.unfrozen 1
  obtain ⟨a, cap, rfl, hncap, hcm, -, -⟩ := id hrowS
  clear hR hsm hs hme hcell htab hrowS hrs hms hsl hsvs hm
  go_enter Tryd.func41, Tryd.ntmps41
  go_wp2_with (at_builtin; refine wpList_app rfl (.const (.slice none 0 0)) (.tmp 15) 29 rfl w.heap.size elemSrc (.slice none 0 0) 0 [] rfl (World.ownsRow_nil _ _ _ _) (.slice a P.length cap) P.length (P.flatMap tsrcCells) rfl HROWS.out HLP.out HO1.out (by omega) (by omega) (Nat.le_refl _) (fun v1 w2 HQ0 HG => ?_); have HQ : Hid (w2.ownsRow w.heap.size 44 4 v1 P.length (P.flatMap tsrcCells)) := (by have h := HQ0; rw [Nat.zero_add, List.nil_append] at h; exact h); clear HQ0; have hbl2 : Below w.heap.size w w2 := (Below.refl _ _).grown HG.out (Nat.le_refl _) (fun k hk => by cases hk); have c2 := (hbl2.cell (p := ⟨b, 1, none⟩) hb).trans c1; have f2 := (hbl2.frozen (p := ⟨b, 1, none⟩) hb).trans f1; obtain ⟨g, cp, cur, hv, hgb, hgh⟩ := owns_some HQ.out (by omega); subst hv)
  have HREF1 := Lib.hid ((HR.out.below hbl2).setSrcs P HMS.out (Row.of_owns HQ.out) (fun x hx => (HRS.out x hx).below hbl2))
  have hgne : g ≠ b := by omega
  have HQ1 := Lib.hid (owns_fr HQ.out ((Fr.refl w2.heap.size (· = b) w2).setAt 1 (.slice (some ⟨g, 0, none⟩) P.length cp)) (fun k hk => by omega))
  have HFR1 : Hid (Fr w.heap.size (· = b) w (w2.setCell ⟨b, 1, none⟩ (.slice (some ⟨g, 0, none⟩) P.length cp))) := (Fr.of_below _ hbl2).setAt _ _
  have hmI : (m : Int) < (P.length : Int) := Int.ofNat_lt.2 hml
  have hm0 : (0 : Int) ≤ (m : Int) := Int.natCast_nonneg m
  have k1 : (w2.setCell ⟨b, 1, none⟩ (.slice (some ⟨g, 0, none⟩) P.length cp)).cell? ⟨b, 1, none⟩ = some (.slice (some ⟨g, 0, none⟩) P.length cp) := World.cell?_setCell_same _ _ _ c2
  have hgsz : g < w2.heap.size := by
    rcases Nat.lt_or_ge g w2.heap.size with h | h
    · exact h
    · rw [Array.getElem?_eq_none h] at hgh; cases hgh
  generalize hW1 : w2.setCell ⟨b, 1, none⟩ (.slice (some ⟨g, 0, none⟩) P.length cp) = W1 at *
  have hz1 : W1.heap.size = w2.heap.size := by rw [← hW1, size_setCell]
  have HW1 := Lib.hid hW1
  have hgf : W1.frozen? ⟨g, m * 4 + 3, none⟩ = false := by
    have h : W1.heap[g]? = some (.cells cur 44) := by rw [← hW1]; simp [World.setCell, Array.getElem?_modify, hgne.symm, hgh]
    simp [World.frozen?, h]
  have hgW : W1.heap[g]? = some (.cells cur 44) := by rw [← hW1]; simp [World.setCell, Array.getElem?_modify, hgne.symm, hgh]
  have hcm : W1.cell? ⟨g, m * 4 + 3, none⟩ = some (.bool P[m].1.muted) := by
    obtain ⟨g', off', e, hc⟩ := tsrc_at (Row.of_owns HQ1.out) (by omega)
    cases e
    have := (hc m P[m] (List.getElem?_eq_getElem hml)).2.2.2
    rwa [Nat.zero_add] at this
  have HB0 : Hid (∀ w', Below W1.heap.size W1 w' → w'.cell? ⟨b, 1, none⟩ = some (.slice (some ⟨g, 0, none⟩) P.length cp) ∧ w'.cell? ⟨g, m * 4 + 3, none⟩ = some (.bool P[m].1.muted) ∧ w'.frozen? ⟨g, m * 4 + 3, none⟩ = false) := fun w' h =>
    ⟨(h.cell (p := ⟨b, 1, none⟩) (by dsimp only; rw [hz1]; exact Nat.lt_of_lt_of_le hb hbl2.size)).trans k1, (h.cell (p := ⟨g, m * 4 + 3, none⟩) (by dsimp only; omega)).trans hcm, (h.frozen (p := ⟨g, m * 4 + 3, none⟩) (by dsimp only; omega)).trans hgf⟩
  have hszW : w.heap.size ≤ W1.heap.size := by have := hbl2.size; omega
  have HAFT : Hid (∀ w', Below W1.heap.size W1 w' → RefAt (w'.setCell ⟨g, m * 4 + 3, none⟩ (.bool true)) b (T.setMuted n true) ∧ Fr w.heap.size (· = b) w (w'.setCell ⟨g, m * 4 + 3, none⟩ (.bool true))) := fun w' h => by
    have hr := HREF1.out.below h
    have hq := owns_below HQ1.out h
    have hf : Fr w'.heap.size (· = g) w' (w'.setCell ⟨g, m * 4 + 3, none⟩ (.bool true)) := (Fr.refl _ _ _).setAt _ _
    have hgw : w'.heap[g]? = some (.cells cur 44) := by
      rw [h.block g (by omega)]; exact hgW
    have hty : ∀ e, 44 ≠ e → ∀ k c fr, k = g → w'.heap[k]? ≠ some (.cells c e fr) := by
      intro e he k c fr hk
      subst hk
      rw [hgw]
      exact cells_ne he
    have hblt := hr.lt
    have hq2 := owns_set hq (by omega) (i := m * 4 + 3) (.bool true)
    rw [tsrc_set true P m hml] at hq2
    have hq3 := Row.of_owns hq2
    obtain ⟨pv', sv', uv', hc', hp', ⟨ms', hs1, hs2, hs3⟩, hu'⟩ := hr.vals
    have hsv' : sv' = .slice (some ⟨g, 0, none⟩) P.length cp := by
      have h1 := cell_of hc' 1
      rw [(HB0.out w' h).1] at h1
      simpa using h1.symm
    subst hsv'
    refine ⟨⟨pv', .slice (some ⟨g, 0, none⟩) P.length cp, uv', by rw [hf.block b hblt (fun e => hgne e.symm)]; exact hc', ?_⟩, (HFR1.out.trans ((Fr.of_below (· = b) h).mono hszW (fun _ _ h => h))).setCell (Or.inl hgb) _⟩
    rw [HMT.out]
    refine ⟨hp'.fr hf (Nat.le_refl _) (hty _ (by decide)), ⟨P.set m ({ P[m].1 with muted := true }, P[m].2), rfl, by rw [List.length_set]; exact hq3, ?_⟩, hu'.fr hf (Nat.le_refl _) (hty _ (by decide))⟩
    intro x hx
    have hrs' : ∀ x ∈ P, Row (w'.setCell ⟨g, m * 4 + 3, none⟩ (.bool true)) 23 x.2 x.1.ss.length (u32s x.1.ss) := fun x hx => ((((HRS.out x hx).below hbl2).fr ((Fr.refl w2.heap.size (· = b) w2).setAt 1 (.slice (some ⟨g, 0, none⟩) P.length cp)) (Nat.le_refl _) ((HR.out.below hbl2).typ (by decide))).fr (Fr.of_below NoB (by rw [HW1.out]; exact h)) (by rw [HW1.out]; exact Nat.le_refl _) (fun _ _ _ h => h.elim)).fr hf (Nat.le_refl _) (hty _ (by decide))
    rcases List.mem_or_eq_of_mem_set hx with hx | rfl
    · exact hrs' x hx
    · exact hrs' P[m] (List.getElem_mem hml)
  have HSMM : Hid (T.setMuted n true).Small := ⟨HSM.out.peers, by unfold Tab.setMuted; dsimp only; rw [List.length_set]; exact HSM.out.srcs, HSM.out.subs⟩
  have CB1 : Hid (∀ w1, Below W1.heap.size W1 w1 → Calls Tryd.prog 18 #[.pointer (some ⟨b, 0, none⟩), .int .i64 n] w1 fun e w' => e = .returned (.int .i64 m) ∧ Below w1.heap.size w1 w') := fun w1 h => CB.out w1 (by have := HREF1.out.below h; exact this)
  have hb0 : Below W1.heap.size W1 W1 := Below.refl _ _
  clear hW1 hgh hgf HMT c1 f1 c2 f2
  have HLLEN : ((T.setMuted n true).hears n).length ≤ 8 := hearsTo_len _ n 8
  have HTAKE : Hid (∀ k, k < ((T.setMuted n true).hears n).length → (((T.setMuted n true).hears n).take (k + 1)).flatMap ((T.setMuted n true).muteTurns n true) = (((T.setMuted n true).hears n).take k).flatMap ((T.setMuted n true).muteTurns n true) ++ (T.setMuted n true).muteTurns n true (((T.setMuted n true).hears n).getD k 0)) := fun k h => flat_snoc _ h
  have HMEMB : Hid (∀ k, k < ((T.setMuted n true).hears n).length → 0 ≤ (T.setMuted n true).subAt (((T.setMuted n true).hears n).getD k 0 : Nat) n) := fun k h => (hears_mem.1 (getD_mem h)).2.2
  have HFLEN : Hid (∀ k, ((((T.setMuted n true).hears n).take k).flatMap ((T.setMuted n true).muteTurns n true)).length ≤ 16) := fun k => by
    have h1 := rmuteAll_len (T.setMuted n true) n true (((T.setMuted n true).hears n).take k)
    rw [List.length_take] at h1; omega
  have HFP : Hid (∀ (p : Nat) (q : Nat) (hq : q < (T.setMuted n true).subs.length), (T.setMuted n true).subAt (p : Int) n = q → (T.setMuted n true).muteTurns n true p = [⟨6, p, n, 0, 0⟩]) := fun p q hq e => rfl
  have HWANT := trivial
  generalize T.setMuted n true = T1 at *
  go_upto_region 2 with fail
  go_cut [] (fun wx => RefAt wx b T1 ∧ Fr w.heap.size (· = b) w wx)
  case first =>
    go_region_with ((go_at_call 18; (with_reducible refine (CB1.out _ (by first | with_reducible assumption | exact Below.drew (by with_reducible assumption))).mono ?_); rintro e V2 ⟨rfl, hbV⟩; have hbv2 : Below W1.heap.size W1 V2 := Heap.Below.call (by first | with_reducible assumption | exact Below.drew (by with_reducible assumption)) (Nat.le_refl _) hbV; obtain ⟨v1, v2, v3⟩ := HB0.out _ hbv2))
    all_goals
      obtain ⟨href3, hfr3⟩ := HAFT.out _ hbv2
      generalize V2.setCell ⟨g, m * 4 + 3, none⟩ (.bool true) = W3 at *
      go_wp2_with fail
      go_meet
      exact ⟨href3, hfr3⟩
  case rest =>
    obtain ⟨href3, hfr3⟩ := hcut
    obtain ⟨W3, rfl⟩ : ∃ W3 : World, W3 = wc := ⟨_, rfl⟩
    have HREF3 := Lib.hid href3
    have HFR3 := Lib.hid hfr3
    have hsz3 := hfr3.size
    have CH := Lib.hid (Hears_any b T1 n W3 href3)
    clear href3 hfr3

    generalize T1.hears n = L at *
    generalize T1.muteTurns n true = f at *
    go_wp2_with fail
    (with_reducible refine CH.out.mono ?_)
    rintro e w1 ⟨⟨lv, rfl, hrow⟩, hb1⟩
    have HROW := Lib.hid hrow
    have HFR0 : Hid (Fr w.heap.size (· = b) w w1) := HFR3.out.trans ((Fr.of_below _ hb1).mono hsz3 (fun _ _ h => h))
    have HREF0 := Lib.hid (HREF3.out.below hb1)
    obtain ⟨la, lcap, rfl, -, -⟩ := id hrow
    clear hb1 hrow CH HFR3 HREF3
    go_wp2_with fail
    go_loopw [7, 33] (fun v i w' => ∃ k : Nat, k ≤ L.length ∧ i = .int .i64 k ∧ Fr w.heap.size (· = b) w w' ∧ Row w' 3 (.slice la L.length lcap) L.length (ints L) ∧ RefAt w' b T1 ∧ w'.ownsRow w.heap.size 59 5 v ((L.take k).flatMap f).length (((L.take k).flatMap f).flatMap turnCells)) (fun _ i _ => L.length - (intOf i).toNat)
    case atStart => exact ⟨0, by omega, rfl, HFR0.out, HROW.out, HREF0.out, World.ownsRow_nil _ _ _ _⟩
    case round =>
      obtain ⟨k, hk, rfl, hfr, hrow, href, hown⟩ := hrel
      clear HFR0 HREF0 HROW
      have HFR := Lib.hid hfr
      have HROW := Lib.hid hrow
      have HREF := Lib.hid href
      have HOWN := Lib.hid hown
      have hsz := hfr.size
      clear hfr hown href
      by_cases hkl : k < L.length
      · obtain ⟨gl, offl, capl, e1, hgl, hcells⟩ := int_open hrow (by omega)
        cases e1
        have hc := hcells k hkl
        have HS := Lib.hid (HTAKE.out k hkl)
        have hmem := HMEMB.out k hkl
        have HGL := HFLEN.out k
        obtain ⟨q, hq, hqe, hqp, -⟩ := findAt_at hmem
        have hqe : T1.subAt (L.getD k 0 : Nat) n = q := hqe
        have HP := Lib.hid (HFP.out (L.getD k 0) q hq hqe)
        have CA := Lib.hid (fun w1 (h : Below wr.heap.size wr w1) => SubAt_any b T1 (L.getD k 0 : Nat) n w1 (HREF.out.below h))
        rw [hqe] at CA
        obtain ⟨pv, sv, uv, hcell, htab⟩ := HREF.out.vals
        have hrowU := htab.subs
        have hlenU := hrowU.len
        have hc2 := cell_of hcell 2
        obtain ⟨ua, ucap, rfl, -, -⟩ := id hrowU
        obtain ⟨gu, offu, e2, hcu⟩ := tsub_at hrowU (by omega)
        subst e2
        obtain ⟨d0, d1, d2, d3⟩ := hcu q T1.subs[q] (List.getElem?_eq_getElem hq)
        have hgu : gu < wr.heap.size := by
          rcases Nat.lt_or_ge gu wr.heap.size with h | h
          · exact h
          · simp [World.cell?, Array.getElem?_eq_none h] at d0
        have hxs : T1.subs[q].source = n := by simp at hqp; exact hqp.2
        have htriv := trivial
        have hblt := HREF.out.lt
        clear hcells hrow hrowU htab hcell hcu hqe hqp hmem HFP HWANT
        generalize T1.subs[q] = x at *
        clear HSMM
        generalize T1.subs.length = NU at *
        generalize L.getD k 0 = p at *
        generalize (L.take k).flatMap f = G at *
        obtain ⟨x0, x1, x2, x3⟩ := x
        dsimp only at d0 d1 d2 d3 hxs HP
        subst hxs
        have KEEP : Hid (∀ w', Below wr.heap.size wr w' → w'.cell? ⟨b, 2, none⟩ = some (.slice (some ⟨gu, offu, none⟩) NU ucap) ∧ w'.cell? ⟨gu, offu + q * 4, none⟩ = some (.int .i64 x0) ∧ w'.cell? ⟨gu, offu + q * 4 + 1, none⟩ = some (.int .i64 x1) ∧ w'.cell? ⟨gu, offu + q * 4 + 2, none⟩ = some (.int .i64 x2) ∧ w'.cell? ⟨gu, offu + q * 4 + 3, none⟩ = some (.bool x3) ∧ Below wr.heap.size wr w') := fun w' h =>
          ⟨(h.cell (p := ⟨b, 2, none⟩) hblt).trans hc2, (h.cell (p := ⟨gu, offu + q * 4, none⟩) hgu).trans d0, (h.cell (p := ⟨gu, offu + q * 4 + 1, none⟩) hgu).trans d1, (h.cell (p := ⟨gu, offu + q * 4 + 2, none⟩) hgu).trans d2, (h.cell (p := ⟨gu, offu + q * 4 + 3, none⟩) hgu).trans d3, h⟩
        have hb0 : Below wr.heap.size wr wr := Below.refl _ _
        go_upto_region 7 with fail
        go_cut [] (fun wx => Below wr.heap.size wr wx)
        case first =>
          go_region_held3 (fun w' => w'.cell? ⟨b, 2, none⟩ = some (.slice (some ⟨gu, offu, none⟩) NU ucap) ∧ w'.cell? ⟨gu, offu + q * 4, none⟩ = some (.int .i64 x0) ∧ w'.cell? ⟨gu, offu + q * 4 + 1, none⟩ = some (.int .i64 x1) ∧ w'.cell? ⟨gu, offu + q * 4 + 2, none⟩ = some (.int .i64 x2) ∧ w'.cell? ⟨gu, offu + q * 4 + 3, none⟩ = some (.bool x3) ∧ Below wr.heap.size wr w') (first | (exact KEEP.out _ (by with_reducible assumption)) | (exact KEEP.out _ (Below.drew (by with_reducible assumption))) | (exact KEEP.out _ (Heap.Below.alloc' (by with_reducible assumption) (Nat.le_refl _) _)) | (exact KEEP.out _ (Heap.Below.alloc' (Below.drew (by with_reducible assumption)) (Nat.le_refl _) _)) | (exact KEEP.out _ (Below.setCell (Below.setCell (Below.setCell (Below.setCell (by with_reducible assumption) (by simp) _) (by simp) _) (by simp) _) (by simp) _)) | (exact KEEP.out _ (Below.setCell (Below.setCell (Below.setCell (Below.setCell (Below.drew (by with_reducible assumption)) (by simp) _) (by simp) _) (by simp) _) (by simp) _)) | go_keep) (first | (go_at_call 19; go_split_ands; (with_reducible refine Calls.mono (CA.out _ (by with_reducible assumption)) ?_); rintro e w2 ⟨rfl, hb2⟩; have hbl2 := Heap.Below.call (by with_reducible assumption) (Nat.le_refl _) hb2; obtain ⟨hcl, hfz⟩ := bcell hb2; have hz2 := hb2.size) | fail)
          all_goals
            clear hb0
            obtain ⟨-, -, -, -, -, hbz⟩ := ‹_ ∧ _ ∧ _ ∧ _ ∧ _ ∧ Below wr.heap.size wr _›
            (go_wp2_with fail; go_meet; exact hbz)
        case rest =>
          clear hb0
          have hbz := hcut
          obtain ⟨W4, rfl⟩ : ∃ W4 : World, W4 = wc := ⟨_, rfl⟩
          have HBZ := Lib.hid hbz
          have HO0 := Lib.hid (owns_below HOWN.out hbz)
          have hsv := hbz.size
          clear hbz
          go_wp2_with (at_builtin; refine wpList_app rfl (.tmp 48) (.tmp 52) 33 rfl w.heap.size elemTurn _ G.length (G.flatMap turnCells) rfl (HO0.out.alloc _) _ 1 ([⟨6, p, x1, 0, 0⟩].flatMap turnCells) rfl (row_new' _ _ 1 _ ([⟨6, p, x1, 0, 0⟩].flatMap turnCells) (by decide) (by simp)) rfl (turns_one _) (by omega) (by omega) (Nat.le_trans hsz (Nat.le_trans hsv (by simp))) (fun v' w3 HO HG => ?_))
          go_roundw
          case rel =>
            have hbl := HBZ.out.alloc HBZ.out.size (.cells ([⟨6, p, x1, 0, 0⟩].flatMap turnCells).toArray 59)
            have hown2 := owns_below HOWN.out hbl
            refine ⟨k + 1, by omega, by go_num, ?_, ?_, ?_, ?_⟩
            · exact (HFR.out.trans ((Fr.of_below _ hbl).mono hsz (fun _ _ h => h))).grown HG.out (Nat.le_trans hsz hbl.size) (own_le HOWN.out)
            · exact Row.grown (HROW.out.below hbl) hown2 HG.out (by decide)
            · exact RefAt.grown (HREF.out.below hbl) hown2 HG.out hb
            · rw [HS.out, HP.out, List.length_append, List.flatMap_append]
              exact HO.out
          case measure => simp [intOf]; omega
      · have hT : L.take k = L := List.take_of_length_le (by omega)
        rw [hT] at HOWN
        clear hT hrow
        go_wp2
        go_ret
        rw [HMU.out]
        exact ⟨⟨_, rfl, Row.of_owns HOWN.out⟩, HREF.out, HFR.out⟩
set_option maxRecDepth 100000 in
set_option maxHeartbeats 8000000 in
theorem rmute_off (b : Nat) (T : Tab) (n : Int) (w : World) (hR : RefAt w b T) (hsm : T.Small) (hs : 0 ≤ T.srcAt n) (hwant : ∀ x ∈ (T.setMuted n false).subs, x.source = n → 0 ≤ (T.setMuted n false).srcAt n ∧ 0 ≤ x.want ∧ x.want < ((T.setMuted n false).srcD n).ss.length) :
    Calls Tryd.prog 41 #[.pointer (some ⟨b, 0, none⟩), .int .i64 n, .bool false] w fun e w' => (∃ v, e = .returned v ∧ TurnRow w' v (T.mute n false).1) ∧ RefAt w' b (T.mute n false).2 ∧ Fr w.heap.size (· = b) w w' := by
  have hb := hR.lt
  obtain ⟨m, hm, hme, -, -⟩ := findAt_at hs
  have hme : T.srcAt n = m := hme
  have CB := Lib.hid (fun (w1 : World) (h : RefAt w1 b T) => SourceAt_any b T n w1 h)
  rw [hme] at CB
  have HMU : Hid (T.mute n false = (((T.setMuted n false).hears n).flatMap ((T.setMuted n false).muteTurns n false), T.setMuted n false)) := rfl
  obtain ⟨pv, sv, uv, hcell, htab⟩ := hR.vals
  obtain ⟨P, hms, hrowS, hrs⟩ := htab.srcs
  have hml : m < P.length := by rw [← hms, List.length_map] at hm; exact hm
  have hsl := hsm.srcs
  unfold small at hsl
  have hPl : P.length ≤ 100000 := by rw [← hms, List.length_map] at hsl; exact hsl
  have hsvs : ∀ x ∈ P, ∃ a n c, x.2 = .slice a n c := fun x hx => by obtain ⟨a, c, h, -, -⟩ := hrs x hx; exact ⟨a, _, c, h⟩
  have HO1 : Hid (∀ u ∈ P.flatMap tsrcCells, u.oneCell' = true) := tsrcs_one hsvs
  have HLP := Lib.hid (tsrcs_len P)
  have HMT : Hid (T.setMuted n false = { T with srcs := (P.set m ({ P[m].1 with muted := false }, P[m].2)).map Prod.fst }) := by
    show _ = _
    unfold Tab.setMuted Tab.srcD
    rw [hme, Int.toNat_natCast, List.map_set, hms]
    congr 2
    rw [show T.srcs.getD m noTSrc = P[m].1 by rw [← hms, getD_map_fst hml]]
  have HROWS := Lib.hid hrowS
  have HRS := Lib.hid hrs
  have HR := Lib.hid hR
  have HMS := Lib.hid hms
  have HSM := Lib.hid hsm
  have HML := Lib.hid hml
  have c1 := cell_of hcell 1
  have f1 := hR.unfrozen 1
  obtain ⟨a, cap, rfl, hncap, hcm, -, -⟩ := id hrowS
  clear hR hsm hs hme hcell htab hrowS hrs hms hsl hsvs hm
  go_enter Tryd.func41, Tryd.ntmps41
  go_wp2_with (at_builtin; refine wpList_app rfl (.const (.slice none 0 0)) (.tmp 15) 29 rfl w.heap.size elemSrc (.slice none 0 0) 0 [] rfl (World.ownsRow_nil _ _ _ _) (.slice a P.length cap) P.length (P.flatMap tsrcCells) rfl HROWS.out HLP.out HO1.out (by omega) (by omega) (Nat.le_refl _) (fun v1 w2 HQ0 HG => ?_); have HQ : Hid (w2.ownsRow w.heap.size 44 4 v1 P.length (P.flatMap tsrcCells)) := (by have h := HQ0; rw [Nat.zero_add, List.nil_append] at h; exact h); clear HQ0; have hbl2 : Below w.heap.size w w2 := (Below.refl _ _).grown HG.out (Nat.le_refl _) (fun k hk => by cases hk); have c2 := (hbl2.cell (p := ⟨b, 1, none⟩) hb).trans c1; have f2 := (hbl2.frozen (p := ⟨b, 1, none⟩) hb).trans f1; obtain ⟨g, cp, cur, hv, hgb, hgh⟩ := owns_some HQ.out (by omega); subst hv)
  have HREF1 := Lib.hid ((HR.out.below hbl2).setSrcs P HMS.out (Row.of_owns HQ.out) (fun x hx => (HRS.out x hx).below hbl2))
  have hgne : g ≠ b := by omega
  have HQ1 := Lib.hid (owns_fr HQ.out ((Fr.refl w2.heap.size (· = b) w2).setAt 1 (.slice (some ⟨g, 0, none⟩) P.length cp)) (fun k hk => by omega))
  have HFR1 : Hid (Fr w.heap.size (· = b) w (w2.setCell ⟨b, 1, none⟩ (.slice (some ⟨g, 0, none⟩) P.length cp))) := (Fr.of_below _ hbl2).setAt _ _
  have hmI : (m : Int) < (P.length : Int) := Int.ofNat_lt.2 hml
  have hm0 : (0 : Int) ≤ (m : Int) := Int.natCast_nonneg m
  have k1 : (w2.setCell ⟨b, 1, none⟩ (.slice (some ⟨g, 0, none⟩) P.length cp)).cell? ⟨b, 1, none⟩ = some (.slice (some ⟨g, 0, none⟩) P.length cp) := World.cell?_setCell_same _ _ _ c2
  have hgsz : g < w2.heap.size := by
    rcases Nat.lt_or_ge g w2.heap.size with h | h
    · exact h
    · rw [Array.getElem?_eq_none h] at hgh; cases hgh
  generalize hW1 : w2.setCell ⟨b, 1, none⟩ (.slice (some ⟨g, 0, none⟩) P.length cp) = W1 at *
  have hz1 : W1.heap.size = w2.heap.size := by rw [← hW1, size_setCell]
  have HW1 := Lib.hid hW1
  have hgf : W1.frozen? ⟨g, m * 4 + 3, none⟩ = false := by
    have h : W1.heap[g]? = some (.cells cur 44) := by rw [← hW1]; simp [World.setCell, Array.getElem?_modify, hgne.symm, hgh]
    simp [World.frozen?, h]
  have hgW : W1.heap[g]? = some (.cells cur 44) := by rw [← hW1]; simp [World.setCell, Array.getElem?_modify, hgne.symm, hgh]
  have hcm : W1.cell? ⟨g, m * 4 + 3, none⟩ = some (.bool P[m].1.muted) := by
    obtain ⟨g', off', e, hc⟩ := tsrc_at (Row.of_owns HQ1.out) (by omega)
    cases e
    have := (hc m P[m] (List.getElem?_eq_getElem hml)).2.2.2
    rwa [Nat.zero_add] at this
  have HB0 : Hid (∀ w', Below W1.heap.size W1 w' → w'.cell? ⟨b, 1, none⟩ = some (.slice (some ⟨g, 0, none⟩) P.length cp) ∧ w'.cell? ⟨g, m * 4 + 3, none⟩ = some (.bool P[m].1.muted) ∧ w'.frozen? ⟨g, m * 4 + 3, none⟩ = false) := fun w' h =>
    ⟨(h.cell (p := ⟨b, 1, none⟩) (by dsimp only; rw [hz1]; exact Nat.lt_of_lt_of_le hb hbl2.size)).trans k1, (h.cell (p := ⟨g, m * 4 + 3, none⟩) (by dsimp only; omega)).trans hcm, (h.frozen (p := ⟨g, m * 4 + 3, none⟩) (by dsimp only; omega)).trans hgf⟩
  have hszW : w.heap.size ≤ W1.heap.size := by have := hbl2.size; omega
  have HAFT : Hid (∀ w', Below W1.heap.size W1 w' → RefAt (w'.setCell ⟨g, m * 4 + 3, none⟩ (.bool false)) b (T.setMuted n false) ∧ Fr w.heap.size (· = b) w (w'.setCell ⟨g, m * 4 + 3, none⟩ (.bool false))) := fun w' h => by
    have hr := HREF1.out.below h
    have hq := owns_below HQ1.out h
    have hf : Fr w'.heap.size (· = g) w' (w'.setCell ⟨g, m * 4 + 3, none⟩ (.bool false)) := (Fr.refl _ _ _).setAt _ _
    have hgw : w'.heap[g]? = some (.cells cur 44) := by
      rw [h.block g (by omega)]; exact hgW
    have hty : ∀ e, 44 ≠ e → ∀ k c fr, k = g → w'.heap[k]? ≠ some (.cells c e fr) := by
      intro e he k c fr hk
      subst hk
      rw [hgw]
      exact cells_ne he
    have hblt := hr.lt
    have hq2 := owns_set hq (by omega) (i := m * 4 + 3) (.bool false)
    rw [tsrc_set false P m hml] at hq2
    have hq3 := Row.of_owns hq2
    obtain ⟨pv', sv', uv', hc', hp', ⟨ms', hs1, hs2, hs3⟩, hu'⟩ := hr.vals
    have hsv' : sv' = .slice (some ⟨g, 0, none⟩) P.length cp := by
      have h1 := cell_of hc' 1
      rw [(HB0.out w' h).1] at h1
      simpa using h1.symm
    subst hsv'
    refine ⟨⟨pv', .slice (some ⟨g, 0, none⟩) P.length cp, uv', by rw [hf.block b hblt (fun e => hgne e.symm)]; exact hc', ?_⟩, (HFR1.out.trans ((Fr.of_below (· = b) h).mono hszW (fun _ _ h => h))).setCell (Or.inl hgb) _⟩
    rw [HMT.out]
    refine ⟨hp'.fr hf (Nat.le_refl _) (hty _ (by decide)), ⟨P.set m ({ P[m].1 with muted := false }, P[m].2), rfl, by rw [List.length_set]; exact hq3, ?_⟩, hu'.fr hf (Nat.le_refl _) (hty _ (by decide))⟩
    intro x hx
    have hrs' : ∀ x ∈ P, Row (w'.setCell ⟨g, m * 4 + 3, none⟩ (.bool false)) 23 x.2 x.1.ss.length (u32s x.1.ss) := fun x hx => ((((HRS.out x hx).below hbl2).fr ((Fr.refl w2.heap.size (· = b) w2).setAt 1 (.slice (some ⟨g, 0, none⟩) P.length cp)) (Nat.le_refl _) ((HR.out.below hbl2).typ (by decide))).fr (Fr.of_below NoB (by rw [HW1.out]; exact h)) (by rw [HW1.out]; exact Nat.le_refl _) (fun _ _ _ h => h.elim)).fr hf (Nat.le_refl _) (hty _ (by decide))
    rcases List.mem_or_eq_of_mem_set hx with hx | rfl
    · exact hrs' x hx
    · exact hrs' P[m] (List.getElem_mem hml)
  have HSMM : Hid (T.setMuted n false).Small := ⟨HSM.out.peers, by unfold Tab.setMuted; dsimp only; rw [List.length_set]; exact HSM.out.srcs, HSM.out.subs⟩
  have CB1 : Hid (∀ w1, Below W1.heap.size W1 w1 → Calls Tryd.prog 18 #[.pointer (some ⟨b, 0, none⟩), .int .i64 n] w1 fun e w' => e = .returned (.int .i64 m) ∧ Below w1.heap.size w1 w') := fun w1 h => CB.out w1 (by have := HREF1.out.below h; exact this)
  have hb0 : Below W1.heap.size W1 W1 := Below.refl _ _
  clear hW1 hgh hgf HMT c1 f1 c2 f2
  have HLLEN : ((T.setMuted n false).hears n).length ≤ 8 := hearsTo_len _ n 8
  have HTAKE : Hid (∀ k, k < ((T.setMuted n false).hears n).length → (((T.setMuted n false).hears n).take (k + 1)).flatMap ((T.setMuted n false).muteTurns n false) = (((T.setMuted n false).hears n).take k).flatMap ((T.setMuted n false).muteTurns n false) ++ (T.setMuted n false).muteTurns n false (((T.setMuted n false).hears n).getD k 0)) := fun k h => flat_snoc _ h
  have HMEMB : Hid (∀ k, k < ((T.setMuted n false).hears n).length → 0 ≤ (T.setMuted n false).subAt (((T.setMuted n false).hears n).getD k 0 : Nat) n) := fun k h => (hears_mem.1 (getD_mem h)).2.2
  have HFLEN : Hid (∀ k, ((((T.setMuted n false).hears n).take k).flatMap ((T.setMuted n false).muteTurns n false)).length ≤ 16) := fun k => by
    have h1 := rmuteAll_len (T.setMuted n false) n false (((T.setMuted n false).hears n).take k)
    rw [List.length_take] at h1; omega
  have HFP : Hid (∀ (p : Nat) (q : Nat) (hq : q < (T.setMuted n false).subs.length), (T.setMuted n false).subAt (p : Int) n = q → (T.setMuted n false).muteTurns n false p = ⟨7, p, n, 0, 0⟩ :: (if (T.setMuted n false).subs[q].paused then [] else [(T.setMuted n false).ask (T.setMuted n false).subs[q]])) := fun p q hq e => by
    unfold Tab.muteTurns Tab.subD
    rw [e, Int.toNat_natCast, getD_sub hq]
    rfl
  have HWANT : Hid (∀ x ∈ (T.setMuted n false).subs, x.source = n → 0 ≤ (T.setMuted n false).srcAt n ∧ 0 ≤ x.want ∧ x.want < ((T.setMuted n false).srcD n).ss.length) := hwant
  generalize T.setMuted n false = T1 at *
  go_upto_region 2 with fail
  go_cut [] (fun wx => RefAt wx b T1 ∧ Fr w.heap.size (· = b) w wx)
  case first =>
    go_region_with ((go_at_call 18; (with_reducible refine (CB1.out _ (by first | with_reducible assumption | exact Below.drew (by with_reducible assumption))).mono ?_); rintro e V2 ⟨rfl, hbV⟩; have hbv2 : Below W1.heap.size W1 V2 := Heap.Below.call (by first | with_reducible assumption | exact Below.drew (by with_reducible assumption)) (Nat.le_refl _) hbV; obtain ⟨v1, v2, v3⟩ := HB0.out _ hbv2))
    all_goals
      obtain ⟨href3, hfr3⟩ := HAFT.out _ hbv2
      generalize V2.setCell ⟨g, m * 4 + 3, none⟩ (.bool false) = W3 at *
      go_wp2_with fail
      go_meet
      exact ⟨href3, hfr3⟩
  case rest =>
    obtain ⟨href3, hfr3⟩ := hcut
    obtain ⟨W3, rfl⟩ : ∃ W3 : World, W3 = wc := ⟨_, rfl⟩
    have HREF3 := Lib.hid href3
    have HFR3 := Lib.hid hfr3
    have hsz3 := hfr3.size
    have CH := Lib.hid (Hears_any b T1 n W3 href3)
    clear href3 hfr3

    generalize T1.hears n = L at *
    generalize T1.muteTurns n false = f at *
    go_wp2_with fail
    (with_reducible refine CH.out.mono ?_)
    rintro e w1 ⟨⟨lv, rfl, hrow⟩, hb1⟩
    have HROW := Lib.hid hrow
    have HFR0 : Hid (Fr w.heap.size (· = b) w w1) := HFR3.out.trans ((Fr.of_below _ hb1).mono hsz3 (fun _ _ h => h))
    have HREF0 := Lib.hid (HREF3.out.below hb1)
    obtain ⟨la, lcap, rfl, -, -⟩ := id hrow
    clear hb1 hrow CH HFR3 HREF3
    go_wp2_with fail
    go_loopw [7, 33] (fun v i w' => ∃ k : Nat, k ≤ L.length ∧ i = .int .i64 k ∧ Fr w.heap.size (· = b) w w' ∧ Row w' 3 (.slice la L.length lcap) L.length (ints L) ∧ RefAt w' b T1 ∧ w'.ownsRow w.heap.size 59 5 v ((L.take k).flatMap f).length (((L.take k).flatMap f).flatMap turnCells)) (fun _ i _ => L.length - (intOf i).toNat)
    case atStart => exact ⟨0, by omega, rfl, HFR0.out, HROW.out, HREF0.out, World.ownsRow_nil _ _ _ _⟩
    case round =>
      obtain ⟨k, hk, rfl, hfr, hrow, href, hown⟩ := hrel
      clear HFR0 HREF0 HROW
      have HFR := Lib.hid hfr
      have HROW := Lib.hid hrow
      have HREF := Lib.hid href
      have HOWN := Lib.hid hown
      have hsz := hfr.size
      clear hfr hown href
      by_cases hkl : k < L.length
      · obtain ⟨gl, offl, capl, e1, hgl, hcells⟩ := int_open hrow (by omega)
        cases e1
        have hc := hcells k hkl
        have HS := Lib.hid (HTAKE.out k hkl)
        have hmem := HMEMB.out k hkl
        have HGL := HFLEN.out k
        obtain ⟨q, hq, hqe, hqp, -⟩ := findAt_at hmem
        have hqe : T1.subAt (L.getD k 0 : Nat) n = q := hqe
        have HP := Lib.hid (HFP.out (L.getD k 0) q hq hqe)
        have CA := Lib.hid (fun w1 (h : Below wr.heap.size wr w1) => SubAt_any b T1 (L.getD k 0 : Nat) n w1 (HREF.out.below h))
        rw [hqe] at CA
        obtain ⟨pv, sv, uv, hcell, htab⟩ := HREF.out.vals
        have hrowU := htab.subs
        have hlenU := hrowU.len
        have hc2 := cell_of hcell 2
        obtain ⟨ua, ucap, rfl, -, -⟩ := id hrowU
        obtain ⟨gu, offu, e2, hcu⟩ := tsub_at hrowU (by omega)
        subst e2
        obtain ⟨d0, d1, d2, d3⟩ := hcu q T1.subs[q] (List.getElem?_eq_getElem hq)
        have hgu : gu < wr.heap.size := by
          rcases Nat.lt_or_ge gu wr.heap.size with h | h
          · exact h
          · simp [World.cell?, Array.getElem?_eq_none h] at d0
        have hxs : T1.subs[q].source = n := by simp at hqp; exact hqp.2
        have HASK := Lib.hid (fun w1 (h : RefAt w1 b T1) => by
          have hh := HWANT.out T1.subs[q] (List.getElem_mem hq) hxs
          have h1 := ask_any b T1 T1.subs[q] w1 h (by rw [hxs]; exact hh.1) (by rw [hxs]; exact hh.2)
          unfold turnAgg at h1
          exact h1)
        generalize T1.ask T1.subs[q] = TA at *
        have hblt := HREF.out.lt
        clear hcells hrow hrowU htab hcell hcu hqe hqp hmem HFP HWANT
        generalize T1.subs[q] = x at *
        clear HSMM
        generalize T1.subs.length = NU at *
        generalize L.getD k 0 = p at *
        generalize (L.take k).flatMap f = G at *
        obtain ⟨x0, x1, x2, x3⟩ := x
        dsimp only at d0 d1 d2 d3 hxs HP HASK
        subst hxs
        have KEEP : Hid (∀ w', Below wr.heap.size wr w' → w'.cell? ⟨b, 2, none⟩ = some (.slice (some ⟨gu, offu, none⟩) NU ucap) ∧ w'.cell? ⟨gu, offu + q * 4, none⟩ = some (.int .i64 x0) ∧ w'.cell? ⟨gu, offu + q * 4 + 1, none⟩ = some (.int .i64 x1) ∧ w'.cell? ⟨gu, offu + q * 4 + 2, none⟩ = some (.int .i64 x2) ∧ w'.cell? ⟨gu, offu + q * 4 + 3, none⟩ = some (.bool x3) ∧ Below wr.heap.size wr w') := fun w' h =>
          ⟨(h.cell (p := ⟨b, 2, none⟩) hblt).trans hc2, (h.cell (p := ⟨gu, offu + q * 4, none⟩) hgu).trans d0, (h.cell (p := ⟨gu, offu + q * 4 + 1, none⟩) hgu).trans d1, (h.cell (p := ⟨gu, offu + q * 4 + 2, none⟩) hgu).trans d2, (h.cell (p := ⟨gu, offu + q * 4 + 3, none⟩) hgu).trans d3, h⟩
        have hb0 : Below wr.heap.size wr wr := Below.refl _ _
        go_upto_region 7 with fail
        go_cut [10] (fun s10 wx => ∃ g5 : Nat, s10 = .pointer (some ⟨g5, 0, none⟩) ∧ (wx.cell? ⟨g5, 0, none⟩ = some (.int .i64 x0) ∧ wx.cell? ⟨g5, 1, none⟩ = some (.int .i64 x1) ∧ wx.cell? ⟨g5, 2, none⟩ = some (.int .i64 x2) ∧ wx.cell? ⟨g5, 3, none⟩ = some (.bool x3)) ∧ wr.heap.size ≤ g5 ∧ g5 < wx.heap.size ∧ Below wr.heap.size wr wx)
        case first =>
          go_region_held3 (fun w' => w'.cell? ⟨b, 2, none⟩ = some (.slice (some ⟨gu, offu, none⟩) NU ucap) ∧ w'.cell? ⟨gu, offu + q * 4, none⟩ = some (.int .i64 x0) ∧ w'.cell? ⟨gu, offu + q * 4 + 1, none⟩ = some (.int .i64 x1) ∧ w'.cell? ⟨gu, offu + q * 4 + 2, none⟩ = some (.int .i64 x2) ∧ w'.cell? ⟨gu, offu + q * 4 + 3, none⟩ = some (.bool x3) ∧ Below wr.heap.size wr w') (first | (exact KEEP.out _ (by with_reducible assumption)) | (exact KEEP.out _ (Below.drew (by with_reducible assumption))) | (exact KEEP.out _ (Heap.Below.alloc' (by with_reducible assumption) (Nat.le_refl _) _)) | (exact KEEP.out _ (Heap.Below.alloc' (Below.drew (by with_reducible assumption)) (Nat.le_refl _) _)) | (exact KEEP.out _ (Below.setCell (Below.setCell (Below.setCell (Below.setCell (by with_reducible assumption) (by simp) _) (by simp) _) (by simp) _) (by simp) _)) | (exact KEEP.out _ (Below.setCell (Below.setCell (Below.setCell (Below.setCell (Below.drew (by with_reducible assumption)) (by simp) _) (by simp) _) (by simp) _) (by simp) _)) | go_keep) (first | (go_at_call 19; go_split_ands; (with_reducible refine Calls.mono (CA.out _ (by with_reducible assumption)) ?_); rintro e w2 ⟨rfl, hb2⟩; have hbl2 := Heap.Below.call (by with_reducible assumption) (Nat.le_refl _) hb2; obtain ⟨hcl, hfz⟩ := bcell hb2; have hz2 := hb2.size) | fail)
          all_goals
            clear hb0
            obtain ⟨-, -, -, -, -, hbz⟩ := ‹_ ∧ _ ∧ _ ∧ _ ∧ _ ∧ Below wr.heap.size wr _›
            (go_wp2_with fail; go_meet; first | exact ⟨_, rfl, ⟨cell_of (heap_new w2 _) 0, cell_of (heap_new w2 _) 1, cell_of (heap_new w2 _) 2, cell_of (heap_new w2 _) 3⟩, hbl2.size, by simp, hbz⟩ | exact ⟨_, rfl, set4 ((hcl _ _ (by simp)).trans (cell_of (heap_new _ _) 0)) ((hcl _ _ (by simp)).trans (cell_of (heap_new _ _) 1)) ((hcl _ _ (by simp)).trans (cell_of (heap_new _ _) 2)) ((hcl _ _ (by simp)).trans (cell_of (heap_new _ _) 3)), Nat.le_refl _, by simp at hz2; simp; omega, hbz⟩)
        case rest =>
          clear hb0
          obtain ⟨g5, rfl, ⟨e0, e1, e2, e3⟩, hg5, hg5b, hbz⟩ := hcut
          obtain ⟨W4, rfl⟩ : ∃ W4 : World, W4 = wc := ⟨_, rfl⟩
          have HBZ := Lib.hid hbz
          have HO0 := Lib.hid (owns_below HOWN.out hbz)
          have hsv := hbz.size
          clear hbz
          have HBA := Lib.hid (HBZ.out.alloc HBZ.out.size (.cells ([⟨7, p, x1, 0, 0⟩].flatMap turnCells).toArray 59))
          have HCG := Lib.hid (fun (w3 : World) (hg : (W4.alloc (.cells ([⟨7, p, x1, 0, 0⟩].flatMap turnCells).toArray 59)).grownBy w3 _) (j : Nat) => (grown_far hg (own_lt HOWN.out) hg5 (by simp; omega) j).trans ((below_alloc W4 _).cell (p := ⟨g5, j, none⟩) hg5b))
          have HRG := Lib.hid (fun (w3 : World) (hg : (W4.alloc (.cells ([⟨7, p, x1, 0, 0⟩].flatMap turnCells).toArray 59)).grownBy w3 _) => RefAt.grown (HREF.out.below HBA.out) (owns_below HOWN.out HBA.out) hg hb)
          cases x3
          · go_wp2_with (first | (at_builtin; refine wpList_app rfl (.tmp 54) (.tmp 58) 33 rfl w.heap.size elemTurn _ G.length (G.flatMap turnCells) rfl (HO0.out.alloc _) _ 1 ([⟨7, p, x1, 0, 0⟩].flatMap turnCells) rfl (row_new' _ _ 1 _ ([⟨7, p, x1, 0, 0⟩].flatMap turnCells) (by decide) (by simp)) rfl (turns_one _) (by omega) (by omega) (Nat.le_trans hsz (Nat.le_trans hsv (by simp))) (fun v' w3 HO HG => ?_); have hr3 := HRG.out w3 HG.out; have e0' := (HCG.out w3 HG.out 0).trans e0; have e1' := (HCG.out w3 HG.out 1).trans e1; have e2' := (HCG.out w3 HG.out 2).trans e2; have e3' := (HCG.out w3 HG.out 3).trans e3; have hz3 := HG.out.size) | (go_at_call 39; (with_reducible refine (HASK.out _ hr3).mono ?_); rintro e w5 ⟨rfl, hb5⟩; have HB5 := Lib.hid hb5; have hz5 := hb5.size; clear hb5) | (at_builtin; refine wpList_app rfl (.tmp 63) (.tmp 67) 33 rfl w.heap.size elemTurn _ (G ++ [Turn.mk 7 p x1 0 0]).length ((G ++ [Turn.mk 7 p x1 0 0]).flatMap turnCells) rfl ?b1 _ 1 ([TA].flatMap turnCells) rfl ?b2 rfl (turns_one _) ?b5 ?b6 ?b7 (fun v' w6 HO6 HG6 => ?_)))
            case b1 => rw [List.length_append, List.flatMap_append]; exact (owns_below HO.out HB5.out).alloc _
            case b2 => exact row_new' _ _ 1 _ ([TA].flatMap turnCells) (by decide) rfl
            case b5 => rw [List.length_append]; simp; omega
            case b6 => rw [List.length_append]; simp; omega
            case b7 => simp at hz3; simp; omega
            go_roundw
            case rel =>
              simp at hz3
              have hbl5 := HB5.out.alloc HB5.out.size (.cells ([TA].flatMap turnCells).toArray 59)
              have hown3 := (owns_below HO.out hbl5)
              have g0 := HFR.out.trans ((Fr.of_below (· = b) HBA.out).mono hsz (fun _ _ h => h))
              have g1 := g0.grown HG.out (by simp; omega) (own_le HOWN.out)
              have g2 := g1.trans ((Fr.of_below (· = b) hbl5).mono (by omega) (fun _ _ h => h))
              refine ⟨k + 1, by omega, by go_num, ?_, ?_, ?_, ?_⟩
              · exact g2.grown HG6.out (by simp; omega) (own_le HO.out)
              · exact Row.grown ((Row.grown (HROW.out.below HBA.out) (owns_below HOWN.out HBA.out) HG.out (by decide)).below hbl5) hown3 HG6.out (by decide)
              · exact RefAt.grown ((HRG.out w3 HG.out).below hbl5) hown3 HG6.out hb
              · rw [HS.out, HP.out, List.length_append, List.flatMap_append]
                have h6 := HO6.out
                rw [List.flatMap_append, List.length_append] at h6
                simpa using h6
            case measure => simp [intOf]; omega
          · go_wp2_with (at_builtin; refine wpList_app rfl (.tmp 54) (.tmp 58) 33 rfl w.heap.size elemTurn _ G.length (G.flatMap turnCells) rfl (HO0.out.alloc _) _ 1 ([⟨7, p, x1, 0, 0⟩].flatMap turnCells) rfl (row_new' _ _ 1 _ ([⟨7, p, x1, 0, 0⟩].flatMap turnCells) (by decide) (by simp)) rfl (turns_one _) (by omega) (by omega) (Nat.le_trans hsz (Nat.le_trans hsv (by simp))) (fun v' w3 HO HG => ?_); have e3' := (HCG.out w3 HG.out 3).trans e3)
            go_roundw
            case rel =>
              have hown2 := owns_below HOWN.out HBA.out
              refine ⟨k + 1, by omega, by go_num, ?_, ?_, ?_, ?_⟩
              · exact (HFR.out.trans ((Fr.of_below _ HBA.out).mono hsz (fun _ _ h => h))).grown HG.out (Nat.le_trans hsz HBA.out.size) (own_le HOWN.out)
              · exact Row.grown (HROW.out.below HBA.out) hown2 HG.out (by decide)
              · exact HRG.out w3 HG.out
              · rw [HS.out, HP.out, List.length_append, List.flatMap_append]
                exact HO.out
            case measure => simp [intOf]; omega
      · have hT : L.take k = L := List.take_of_length_le (by omega)
        rw [hT] at HOWN
        clear hT hrow
        go_wp2
        go_ret
        rw [HMU.out]
        exact ⟨⟨_, rfl, Row.of_owns HOWN.out⟩, HREF.out, HFR.out⟩
end Go.Proofs.Rm
