/- Several texts in one: The walks of the reference's room: change. -/
import Derived.Deep.QuietTactic
import Derived.BigQuiet
import Derived.Test.YthlamfoldfeocaaDoorP11
namespace Go.Proofs.Rm
open Go.RowKit Go.Proofs.Heap Go.Proofs.Mem
theorem flat_set {α : Type} (f : α → List Value) (c : Nat) (hc : ∀ x, (f x).length = c) {i : Nat} (hi : i < c) (u : Value) (y : α) : ∀ (l : List α) (k : Nat) (hk : k < l.length), f y = (f l[k]).set i u → (l.flatMap f).set (k * c + i) u = (l.set k y).flatMap f
  | [], k, hk, _ => by simp at hk
  | x :: l, 0, _, h => by
    rw [List.flatMap_cons, List.set_append_left _ _ (by rw [hc]; omega), List.set_cons_zero, List.flatMap_cons]
    simp only [List.getElem_cons_zero] at h
    rw [h, Nat.zero_mul, Nat.zero_add]
  | x :: l, k + 1, hk, h => by
    have ih := flat_set f c hc hi u y l k (by simpa using hk) (by simpa using h)
    rw [List.flatMap_cons, List.set_append_right _ _ (by rw [hc, Nat.succ_mul]; omega), List.set_cons_succ, List.flatMap_cons, hc, show (k + 1) * c + i - c = k * c + i by rw [Nat.succ_mul]; omega, ih]
set_option maxRecDepth 100000 in
set_option maxHeartbeats 8000000 in
theorem change_pause (b : Nat) (T : Tab) (o : Op) (sa ba : Option Addr) (sl sc bl bc : Nat) (w : World) (hR : RefAt w b T) (hsm : T.Small) (hs : 0 ≤ T.subAt o.peer o.source) (hsrc : 0 ≤ T.srcAt o.source) (hwant : 0 ≤ (T.changed o 4).want ∧ (T.changed o 4).want < (T.srcD o.source).ss.length) :
    Calls Tryd.prog 42 #[.pointer (some ⟨b, 0, none⟩), .agg #[.int .i64 o.kind, .int .i64 o.peer, .int .i64 o.source, .int .i64 o.layer, .string (str o.name), .slice sa sl sc, .slice ba bl bc], .int .i64 4] w fun e w' => (∃ v, e = .returned v ∧ TurnRow w' v (T.change o 4).1) ∧ RefAt w' b (T.change o 4).2 ∧ Fr w.heap.size (· = b) w w' := by
  obtain ⟨kd, p, n, la, nm, ss⟩ := o
  dsimp only at hs hsrc hwant ⊢
  have hb := hR.lt
  obtain ⟨q, hq, hqe, hqp, -⟩ := findAt_at hs
  have hqe : T.subAt p n = q := hqe
  have CB := Lib.hid (fun (w1 : World) (h : RefAt w1 b T) => SubAt_any b T p n w1 h)
  rw [hqe] at CB
  have HX : Hid (T.changed ⟨kd, p, n, la, nm, ss⟩ 4 = { T.subs[q] with paused := true }) := by
    show _ = _
    unfold Tab.changed Tab.subD
    dsimp only
    rw [hqe, Int.toNat_natCast, getD_sub hq]
    rfl
  have HT1 : Hid (T.setSub p n (T.changed ⟨kd, p, n, la, nm, ss⟩ 4) = { T with subs := T.subs.set q ({ T.subs[q] with paused := true }) }) := by
    show _ = _
    rw [HX.out]; unfold Tab.setSub; rw [hqe, Int.toNat_natCast]
  have HCH : Hid (T.change ⟨kd, p, n, la, nm, ss⟩ 4 = (⟨4, p, n, 0, 0⟩ :: (if (T.changed ⟨kd, p, n, la, nm, ss⟩ 4).paused || ((T.setSub p n (T.changed ⟨kd, p, n, la, nm, ss⟩ 4)).srcD n).muted then [] else [(T.setSub p n (T.changed ⟨kd, p, n, la, nm, ss⟩ 4)).ask (T.changed ⟨kd, p, n, la, nm, ss⟩ 4)]), T.setSub p n (T.changed ⟨kd, p, n, la, nm, ss⟩ 4))) := rfl
  obtain ⟨pv, sv, uv, hcell, htab⟩ := hR.vals
  have hrowU := htab.subs
  have hsl := hsm.subs
  unfold small at hsl
  have HR := Lib.hid hR
  have HROWU := Lib.hid hrowU
  have c2 := cell_of hcell 2
  have f2 := hR.unfrozen 2
  obtain ⟨ua, ucap, rfl, hncap, -, -⟩ := id hrowU
  have HSRC := Lib.hid hsrc
  have HWANT := Lib.hid hwant
  have HSET := Lib.hid (flat_set tsubCells 4 (fun _ => rfl) (i := 3) (by decide) (.bool true) ({ T.subs[q] with paused := true }) T.subs q hq rfl)
  have HLEN := Lib.hid (tsubs_len T.subs)
  have HROW2 : Hid (Row (w.alloc (.cells #[.int .i64 kd, .int .i64 p, .int .i64 n, .int .i64 la, .string (str nm), .slice sa sl sc, .slice ba bl bc] 40)) 48 (.slice ua T.subs.length ucap) T.subs.length (T.subs.flatMap tsubCells)) := hrowU.below (below_alloc _ _)
  have c2a := ((below_alloc w (.cells #[.int .i64 kd, .int .i64 p, .int .i64 n, .int .i64 la, .string (str nm), .slice sa sl sc, .slice ba bl bc] 40)).cell (p := ⟨b, 2, none⟩) hb).trans c2
  have f2a := ((below_alloc w (.cells #[.int .i64 kd, .int .i64 p, .int .i64 n, .int .i64 la, .string (str nm), .slice sa sl sc, .slice ba bl bc] 40)).frozen (p := ⟨b, 2, none⟩) hb).trans f2
  have hRa := hR.below (below_alloc w (.cells #[.int .i64 kd, .int .i64 p, .int .i64 n, .int .i64 la, .string (str nm), .slice sa sl sc, .slice ba bl bc] 40))
  have hWs := World.size_alloc w (.cells #[.int .i64 kd, .int .i64 p, .int .i64 n, .int .i64 la, .string (str nm), .slice sa sl sc, .slice ba bl bc] 40)
  have hBX := heap_new w (.cells #[.int .i64 kd, .int .i64 p, .int .i64 n, .int .i64 la, .string (str nm), .slice sa sl sc, .slice ba bl bc] 40)
  have HBL0 : Hid (Below w.heap.size w (w.alloc (.cells #[.int .i64 kd, .int .i64 p, .int .i64 n, .int .i64 la, .string (str nm), .slice sa sl sc, .slice ba bl bc] 40))) := below_alloc _ _
  clear hcell htab hrowU hR hsm hs hqe c2 f2 hsrc hwant
  go_enter Tryd.func42, Tryd.ntmps42
  go_upto_region 1 with fail
  generalize w.alloc (.cells #[.int .i64 kd, .int .i64 p, .int .i64 n, .int .i64 la, .string (str nm), .slice sa sl sc, .slice ba bl bc] 40) = W0 at *
  go_wp2_with (at_builtin; refine wpList_app rfl (.const (.slice none 0 0)) (.tmp 13) 30 rfl (w.heap.size + 1) elemSub (.slice none 0 0) 0 [] rfl (World.ownsRow_nil _ _ _ _) (.slice ua T.subs.length ucap) T.subs.length (T.subs.flatMap tsubCells) rfl HROW2.out HLEN.out (tsubs_one _) (by omega) (by omega) (by omega) (fun v1 w2 HQ0 HG => ?_); have HQ : Hid (w2.ownsRow (w.heap.size + 1) 48 4 v1 T.subs.length (T.subs.flatMap tsubCells)) := (by have h := HQ0; rw [Nat.zero_add, List.nil_append] at h; exact h); clear HQ0; have hbl2 : Below (w.heap.size + 1) W0 w2 := (Below.refl _ _).grown HG.out (by omega) (fun k hk => by cases hk); have c2 := (hbl2.cell (p := ⟨b, 2, none⟩) (by dsimp only; omega)).trans c2a; have f2 := (hbl2.frozen (p := ⟨b, 2, none⟩) (by dsimp only; omega)).trans f2a; obtain ⟨g, cp, cur, hv, hgb, hgh⟩ := owns_some HQ.out (by omega); subst hv)
  have HBL2 := Lib.hid hbl2
  have HREF1 := Lib.hid ((hRa.below (hbl2.mono (by omega))).setSubs (Row.of_owns HQ.out))
  have hgne : g ≠ b := by omega
  have HQ1 := Lib.hid (owns_fr HQ.out ((Fr.refl w2.heap.size (· = b) w2).setAt 2 (.slice (some ⟨g, 0, none⟩) T.subs.length cp)) (fun k hk => by omega))
  have HFR1 : Hid (Fr (w.heap.size + 1) (· = b) W0 (w2.setCell ⟨b, 2, none⟩ (.slice (some ⟨g, 0, none⟩) T.subs.length cp))) := (Fr.of_below _ hbl2).setAt _ _
  have k2 : (w2.setCell ⟨b, 2, none⟩ (.slice (some ⟨g, 0, none⟩) T.subs.length cp)).cell? ⟨b, 2, none⟩ = some (.slice (some ⟨g, 0, none⟩) T.subs.length cp) := World.cell?_setCell_same _ _ _ c2
  have hgsz : g < w2.heap.size := by
    rcases Nat.lt_or_ge g w2.heap.size with h | h
    · exact h
    · rw [Array.getElem?_eq_none h] at hgh; cases hgh
  have hgW : (w2.setCell ⟨b, 2, none⟩ (.slice (some ⟨g, 0, none⟩) T.subs.length cp)).heap[g]? = some (.cells cur 48) := by simp [World.setCell, Array.getElem?_modify, hgne.symm, hgh]
  have hz1 := size_setCell w2 ⟨b, 2, none⟩ (.slice (some ⟨g, 0, none⟩) T.subs.length cp)
  have hbsz2 := hbl2.size
  clear c2 f2 hgh hbl2 hRa
  generalize w2.setCell ⟨b, 2, none⟩ (.slice (some ⟨g, 0, none⟩) T.subs.length cp) = W1 at *
  have hgf : ∀ j, W1.frozen? ⟨g, j, none⟩ = false := fun j => by simp [World.frozen?, hgW]
  obtain ⟨g', off', e1, hcu⟩ := tsub_at (Row.of_owns HQ1.out) (by omega)
  cases e1
  obtain ⟨d0, d1, d2, d3⟩ := hcu q T.subs[q] (List.getElem?_eq_getElem hq)
  rw [Nat.zero_add] at d0 d1 d2 d3
  have hbx := fun (j : Nat) => (HFR1.out.cell (p := ⟨w.heap.size, j, none⟩) (by dsimp only; omega) (by dsimp only; omega)).trans (cell_of hBX j)
  have x1 : W1.cell? ⟨w.heap.size, 1, none⟩ = some (.int .i64 p) := hbx 1
  have x2 : W1.cell? ⟨w.heap.size, 2, none⟩ = some (.int .i64 n) := hbx 2
  have x3 : W1.cell? ⟨w.heap.size, 3, none⟩ = some (.int .i64 la) := hbx 3
  have hszw : w.heap.size < W1.heap.size := by omega
  have hszb : b < W1.heap.size := by omega
  have hszg : g < W1.heap.size := by omega
  have KEEP : Hid (∀ w', Below W1.heap.size W1 w' → w'.cell? ⟨b, 2, none⟩ = some (.slice (some ⟨g, 0, none⟩) T.subs.length cp) ∧ w'.cell? ⟨w.heap.size, 1, none⟩ = some (.int .i64 p) ∧ w'.cell? ⟨w.heap.size, 2, none⟩ = some (.int .i64 n) ∧ Below W1.heap.size W1 w') := fun w' h =>
    ⟨(h.cell (p := ⟨b, 2, none⟩) hszb).trans k2, (h.cell (p := ⟨w.heap.size, 1, none⟩) hszw).trans x1, (h.cell (p := ⟨w.heap.size, 2, none⟩) hszw).trans x2, h⟩
  have KEEP2 : Hid (∀ w', Below W1.heap.size W1 w' → (w'.cell? ⟨w.heap.size, 1, none⟩ = some (.int .i64 p) ∧ w'.cell? ⟨w.heap.size, 2, none⟩ = some (.int .i64 n) ∧ w'.cell? ⟨w.heap.size, 3, none⟩ = some (.int .i64 la)) ∧ (w'.cell? ⟨g, q * 4, none⟩ = some (.int .i64 T.subs[q].peer) ∧ w'.cell? ⟨g, q * 4 + 1, none⟩ = some (.int .i64 T.subs[q].source) ∧ w'.cell? ⟨g, q * 4 + 2, none⟩ = some (.int .i64 T.subs[q].want) ∧ w'.cell? ⟨g, q * 4 + 3, none⟩ = some (.bool T.subs[q].paused)) ∧ w'.frozen? ⟨g, q * 4 + 3, none⟩ = false) := fun w' h =>
    ⟨⟨(h.cell (p := ⟨w.heap.size, 1, none⟩) hszw).trans x1, (h.cell (p := ⟨w.heap.size, 2, none⟩) hszw).trans x2, (h.cell (p := ⟨w.heap.size, 3, none⟩) hszw).trans x3⟩, ⟨(h.cell (p := ⟨g, q * 4, none⟩) hszg).trans d0, (h.cell (p := ⟨g, q * 4 + 1, none⟩) hszg).trans d1, (h.cell (p := ⟨g, q * 4 + 2, none⟩) hszg).trans d2, (h.cell (p := ⟨g, q * 4 + 3, none⟩) hszg).trans d3⟩, (h.frozen (p := ⟨g, q * 4 + 3, none⟩) hszg).trans (hgf _)⟩
  have HAFT : Hid (∀ w', Below W1.heap.size W1 w' → RefAt (w'.setCell ⟨g, q * 4 + 3, none⟩ (.bool true)) b (T.setSub p n (T.changed ⟨kd, p, n, la, nm, ss⟩ 4)) ∧ Fr w.heap.size (· = b) w (w'.setCell ⟨g, q * 4 + 3, none⟩ (.bool true))) := fun w' h => by
    have hr := HREF1.out.below h
    have hq' := owns_below HQ1.out h
    have hf : Fr w'.heap.size (· = g) w' (w'.setCell ⟨g, q * 4 + 3, none⟩ (.bool true)) := (Fr.refl _ _ _).setAt _ _
    have hgw : w'.heap[g]? = some (.cells cur 48) := by
      rw [h.block g hszg]; exact hgW
    have hty : ∀ e, 48 ≠ e → ∀ k c fr, k = g → w'.heap[k]? ≠ some (.cells c e fr) := by
      intro e he k c fr hk
      subst hk
      rw [hgw]
      exact cells_ne he
    have hblt := hr.lt
    have hq2 := owns_set hq' (by omega) (i := q * 4 + 3) (.bool true)
    rw [HSET.out] at hq2
    have hq3 := Row.of_owns hq2
    obtain ⟨pv', sv', uv', hc', hp', ⟨ms', hs1, hs2, hs3⟩, hu'⟩ := hr.vals
    have hsv' : uv' = .slice (some ⟨g, 0, none⟩) T.subs.length cp := by
      have h1 := cell_of hc' 2
      rw [(KEEP.out w' h).1] at h1
      simpa using h1.symm
    subst hsv'
    refine ⟨⟨pv', sv', .slice (some ⟨g, 0, none⟩) T.subs.length cp, by rw [hf.block b hblt (fun e => hgne e.symm)]; exact hc', ?_⟩, ?_⟩
    · rw [HT1.out]
      exact ⟨hp'.fr hf (Nat.le_refl _) (hty _ (by decide)), ⟨ms', hs1, hs2.fr hf (Nat.le_refl _) (hty _ (by decide)), fun x hx => (hs3 x hx).fr hf (Nat.le_refl _) (hty _ (by decide))⟩, by rw [List.length_set]; exact hq3⟩
    · have h1 : Fr w.heap.size (· = b) w W1 := (Fr.of_below _ HBL0.out).trans (HFR1.out.mono (by omega) (fun _ _ h => h))
      exact (h1.trans ((Fr.of_below (· = b) h).mono (by omega) (fun _ _ h => h))).setCell (Or.inl (by dsimp only; omega)) _
  have CB1 : Hid (∀ w1, Below W1.heap.size W1 w1 → Calls Tryd.prog 19 #[.pointer (some ⟨b, 0, none⟩), .int .i64 p, .int .i64 n] w1 fun e w' => e = .returned (.int .i64 q) ∧ Below w1.heap.size w1 w') := fun w1 h => CB.out w1 (by have := HREF1.out.below h; exact this)
  have hb0 : Below W1.heap.size W1 W1 := Below.refl _ _
  have hqI : (q : Int) < (T.subs.length : Int) := Int.ofNat_lt.2 hq
  have hq0 : (0 : Int) ≤ (q : Int) := Int.natCast_nonneg q
  have HX2 : Hid ((T.changed ⟨kd, p, n, la, nm, ss⟩ 4).peer = T.subs[q].peer ∧ (T.changed ⟨kd, p, n, la, nm, ss⟩ 4).source = n) := by
    show _ ∧ _
    rw [HX.out]
    simp at hqp
    exact ⟨rfl, hqp.2⟩
  have HPS : Hid (T.subs[q].peer = p ∧ T.subs[q].source = n) := by simp at hqp; exact hqp
  clear d0 d1 d2 d3 hcu hbx x1 x2 x3 hgf hgW k2 HQ HQ1 HSET hqp
  go_wp2_with fail
  go_region_held3 (fun w' => w'.cell? ⟨b, 2, none⟩ = some (.slice (some ⟨g, 0, none⟩) T.subs.length cp) ∧ w'.cell? ⟨w.heap.size, 1, none⟩ = some (.int .i64 p) ∧ w'.cell? ⟨w.heap.size, 2, none⟩ = some (.int .i64 n) ∧ Below W1.heap.size W1 w') (first | (exact KEEP.out _ (by with_reducible assumption)) | (exact KEEP.out _ (Below.drew (by with_reducible assumption))) | go_keep) (first | (go_at_call 19; go_split_ands; (with_reducible refine Calls.mono (CB1.out _ (by with_reducible assumption)) ?_); rintro e V ⟨rfl, hbV⟩; have hbV2 := Heap.Below.call (by with_reducible assumption) (Nat.le_refl _) hbV) | fail)
  obtain ⟨⟨x1, x2, x3⟩, ⟨d0, d1, d2, d3⟩, z0⟩ := KEEP2.out _ hbV2
  have hszV := hbV2.size
  have HBV := Lib.hid hbV2
  have hgV : ¬ g = V.heap.size := by omega
  have hgV2 : ¬ V.heap.size = g := by omega
  have hzV : w.heap.size < V.heap.size := by omega
  have hzg : g < V.heap.size := by omega
  have hgw : ¬ g = w.heap.size := by omega
  have hgw2 : ¬ w.heap.size = g := by omega
  have hVw : ¬ V.heap.size = w.heap.size := by omega
  clear hb0 hbV hbV2
  go_wp2_with fail
  obtain ⟨hA1, hA2⟩ := HAFT.out V HBV.out
  go_ret
  have HNP : Hid (T.change ⟨kd, p, n, la, nm, ss⟩ 4 = ([⟨4, p, n, 0, 0⟩], T.setSub p n (T.changed ⟨kd, p, n, la, nm, ss⟩ 4))) := by show _ = _; rw [HCH.out, HX.out]; simp
  rw [HNP.out]
  exact ⟨⟨_, rfl, row_new' _ _ 1 _ ([⟨4, p, n, 0, 0⟩].flatMap turnCells) (by decide) (by simp)⟩, (hA1.alloc _).alloc _, (hA2.alloc (by simp; omega) _).alloc (by simp; omega) _⟩
set_option maxRecDepth 100000 in
set_option maxHeartbeats 8000000 in
theorem change_resume (b : Nat) (T : Tab) (o : Op) (sa ba : Option Addr) (sl sc bl bc : Nat) (w : World) (hR : RefAt w b T) (hsm : T.Small) (hs : 0 ≤ T.subAt o.peer o.source) (hsrc : 0 ≤ T.srcAt o.source) (hwant : 0 ≤ (T.changed o 5).want ∧ (T.changed o 5).want < (T.srcD o.source).ss.length) :
    Calls Tryd.prog 42 #[.pointer (some ⟨b, 0, none⟩), .agg #[.int .i64 o.kind, .int .i64 o.peer, .int .i64 o.source, .int .i64 o.layer, .string (str o.name), .slice sa sl sc, .slice ba bl bc], .int .i64 5] w fun e w' => (∃ v, e = .returned v ∧ TurnRow w' v (T.change o 5).1) ∧ RefAt w' b (T.change o 5).2 ∧ Fr w.heap.size (· = b) w w' := by
  obtain ⟨kd, p, n, la, nm, ss⟩ := o
  dsimp only at hs hsrc hwant ⊢
  have hb := hR.lt
  obtain ⟨q, hq, hqe, hqp, -⟩ := findAt_at hs
  have hqe : T.subAt p n = q := hqe
  have CB := Lib.hid (fun (w1 : World) (h : RefAt w1 b T) => SubAt_any b T p n w1 h)
  rw [hqe] at CB
  have HX : Hid (T.changed ⟨kd, p, n, la, nm, ss⟩ 5 = { T.subs[q] with paused := false }) := by
    show _ = _
    unfold Tab.changed Tab.subD
    dsimp only
    rw [hqe, Int.toNat_natCast, getD_sub hq]
    rfl
  have HT1 : Hid (T.setSub p n (T.changed ⟨kd, p, n, la, nm, ss⟩ 5) = { T with subs := T.subs.set q ({ T.subs[q] with paused := false }) }) := by
    show _ = _
    rw [HX.out]; unfold Tab.setSub; rw [hqe, Int.toNat_natCast]
  have HCH : Hid (T.change ⟨kd, p, n, la, nm, ss⟩ 5 = (⟨5, p, n, 0, 0⟩ :: (if (T.changed ⟨kd, p, n, la, nm, ss⟩ 5).paused || ((T.setSub p n (T.changed ⟨kd, p, n, la, nm, ss⟩ 5)).srcD n).muted then [] else [(T.setSub p n (T.changed ⟨kd, p, n, la, nm, ss⟩ 5)).ask (T.changed ⟨kd, p, n, la, nm, ss⟩ 5)]), T.setSub p n (T.changed ⟨kd, p, n, la, nm, ss⟩ 5))) := rfl
  obtain ⟨pv, sv, uv, hcell, htab⟩ := hR.vals
  have hrowU := htab.subs
  have hsl := hsm.subs
  unfold small at hsl
  have HR := Lib.hid hR
  have HROWU := Lib.hid hrowU
  have c2 := cell_of hcell 2
  have f2 := hR.unfrozen 2
  obtain ⟨ua, ucap, rfl, hncap, -, -⟩ := id hrowU
  have HSRC := Lib.hid hsrc
  have HWANT := Lib.hid hwant
  have HSET := Lib.hid (flat_set tsubCells 4 (fun _ => rfl) (i := 3) (by decide) (.bool false) ({ T.subs[q] with paused := false }) T.subs q hq rfl)
  have HLEN := Lib.hid (tsubs_len T.subs)
  have HROW2 : Hid (Row (w.alloc (.cells #[.int .i64 kd, .int .i64 p, .int .i64 n, .int .i64 la, .string (str nm), .slice sa sl sc, .slice ba bl bc] 40)) 48 (.slice ua T.subs.length ucap) T.subs.length (T.subs.flatMap tsubCells)) := hrowU.below (below_alloc _ _)
  have c2a := ((below_alloc w (.cells #[.int .i64 kd, .int .i64 p, .int .i64 n, .int .i64 la, .string (str nm), .slice sa sl sc, .slice ba bl bc] 40)).cell (p := ⟨b, 2, none⟩) hb).trans c2
  have f2a := ((below_alloc w (.cells #[.int .i64 kd, .int .i64 p, .int .i64 n, .int .i64 la, .string (str nm), .slice sa sl sc, .slice ba bl bc] 40)).frozen (p := ⟨b, 2, none⟩) hb).trans f2
  have hRa := hR.below (below_alloc w (.cells #[.int .i64 kd, .int .i64 p, .int .i64 n, .int .i64 la, .string (str nm), .slice sa sl sc, .slice ba bl bc] 40))
  have hWs := World.size_alloc w (.cells #[.int .i64 kd, .int .i64 p, .int .i64 n, .int .i64 la, .string (str nm), .slice sa sl sc, .slice ba bl bc] 40)
  have hBX := heap_new w (.cells #[.int .i64 kd, .int .i64 p, .int .i64 n, .int .i64 la, .string (str nm), .slice sa sl sc, .slice ba bl bc] 40)
  have HBL0 : Hid (Below w.heap.size w (w.alloc (.cells #[.int .i64 kd, .int .i64 p, .int .i64 n, .int .i64 la, .string (str nm), .slice sa sl sc, .slice ba bl bc] 40))) := below_alloc _ _
  clear hcell htab hrowU hR hsm hs hqe c2 f2 hsrc hwant
  go_enter Tryd.func42, Tryd.ntmps42
  go_upto_region 1 with fail
  generalize w.alloc (.cells #[.int .i64 kd, .int .i64 p, .int .i64 n, .int .i64 la, .string (str nm), .slice sa sl sc, .slice ba bl bc] 40) = W0 at *
  go_wp2_with (at_builtin; refine wpList_app rfl (.const (.slice none 0 0)) (.tmp 13) 30 rfl (w.heap.size + 1) elemSub (.slice none 0 0) 0 [] rfl (World.ownsRow_nil _ _ _ _) (.slice ua T.subs.length ucap) T.subs.length (T.subs.flatMap tsubCells) rfl HROW2.out HLEN.out (tsubs_one _) (by omega) (by omega) (by omega) (fun v1 w2 HQ0 HG => ?_); have HQ : Hid (w2.ownsRow (w.heap.size + 1) 48 4 v1 T.subs.length (T.subs.flatMap tsubCells)) := (by have h := HQ0; rw [Nat.zero_add, List.nil_append] at h; exact h); clear HQ0; have hbl2 : Below (w.heap.size + 1) W0 w2 := (Below.refl _ _).grown HG.out (by omega) (fun k hk => by cases hk); have c2 := (hbl2.cell (p := ⟨b, 2, none⟩) (by dsimp only; omega)).trans c2a; have f2 := (hbl2.frozen (p := ⟨b, 2, none⟩) (by dsimp only; omega)).trans f2a; obtain ⟨g, cp, cur, hv, hgb, hgh⟩ := owns_some HQ.out (by omega); subst hv)
  have HBL2 := Lib.hid hbl2
  have HREF1 := Lib.hid ((hRa.below (hbl2.mono (by omega))).setSubs (Row.of_owns HQ.out))
  have hgne : g ≠ b := by omega
  have HQ1 := Lib.hid (owns_fr HQ.out ((Fr.refl w2.heap.size (· = b) w2).setAt 2 (.slice (some ⟨g, 0, none⟩) T.subs.length cp)) (fun k hk => by omega))
  have HFR1 : Hid (Fr (w.heap.size + 1) (· = b) W0 (w2.setCell ⟨b, 2, none⟩ (.slice (some ⟨g, 0, none⟩) T.subs.length cp))) := (Fr.of_below _ hbl2).setAt _ _
  have k2 : (w2.setCell ⟨b, 2, none⟩ (.slice (some ⟨g, 0, none⟩) T.subs.length cp)).cell? ⟨b, 2, none⟩ = some (.slice (some ⟨g, 0, none⟩) T.subs.length cp) := World.cell?_setCell_same _ _ _ c2
  have hgsz : g < w2.heap.size := by
    rcases Nat.lt_or_ge g w2.heap.size with h | h
    · exact h
    · rw [Array.getElem?_eq_none h] at hgh; cases hgh
  have hgW : (w2.setCell ⟨b, 2, none⟩ (.slice (some ⟨g, 0, none⟩) T.subs.length cp)).heap[g]? = some (.cells cur 48) := by simp [World.setCell, Array.getElem?_modify, hgne.symm, hgh]
  have hz1 := size_setCell w2 ⟨b, 2, none⟩ (.slice (some ⟨g, 0, none⟩) T.subs.length cp)
  have hbsz2 := hbl2.size
  clear c2 f2 hgh hbl2 hRa
  generalize w2.setCell ⟨b, 2, none⟩ (.slice (some ⟨g, 0, none⟩) T.subs.length cp) = W1 at *
  have hgf : ∀ j, W1.frozen? ⟨g, j, none⟩ = false := fun j => by simp [World.frozen?, hgW]
  obtain ⟨g', off', e1, hcu⟩ := tsub_at (Row.of_owns HQ1.out) (by omega)
  cases e1
  obtain ⟨d0, d1, d2, d3⟩ := hcu q T.subs[q] (List.getElem?_eq_getElem hq)
  rw [Nat.zero_add] at d0 d1 d2 d3
  have hbx := fun (j : Nat) => (HFR1.out.cell (p := ⟨w.heap.size, j, none⟩) (by dsimp only; omega) (by dsimp only; omega)).trans (cell_of hBX j)
  have x1 : W1.cell? ⟨w.heap.size, 1, none⟩ = some (.int .i64 p) := hbx 1
  have x2 : W1.cell? ⟨w.heap.size, 2, none⟩ = some (.int .i64 n) := hbx 2
  have x3 : W1.cell? ⟨w.heap.size, 3, none⟩ = some (.int .i64 la) := hbx 3
  have hszw : w.heap.size < W1.heap.size := by omega
  have hszb : b < W1.heap.size := by omega
  have hszg : g < W1.heap.size := by omega
  have KEEP : Hid (∀ w', Below W1.heap.size W1 w' → w'.cell? ⟨b, 2, none⟩ = some (.slice (some ⟨g, 0, none⟩) T.subs.length cp) ∧ w'.cell? ⟨w.heap.size, 1, none⟩ = some (.int .i64 p) ∧ w'.cell? ⟨w.heap.size, 2, none⟩ = some (.int .i64 n) ∧ Below W1.heap.size W1 w') := fun w' h =>
    ⟨(h.cell (p := ⟨b, 2, none⟩) hszb).trans k2, (h.cell (p := ⟨w.heap.size, 1, none⟩) hszw).trans x1, (h.cell (p := ⟨w.heap.size, 2, none⟩) hszw).trans x2, h⟩
  have KEEP2 : Hid (∀ w', Below W1.heap.size W1 w' → (w'.cell? ⟨w.heap.size, 1, none⟩ = some (.int .i64 p) ∧ w'.cell? ⟨w.heap.size, 2, none⟩ = some (.int .i64 n) ∧ w'.cell? ⟨w.heap.size, 3, none⟩ = some (.int .i64 la)) ∧ (w'.cell? ⟨g, q * 4, none⟩ = some (.int .i64 T.subs[q].peer) ∧ w'.cell? ⟨g, q * 4 + 1, none⟩ = some (.int .i64 T.subs[q].source) ∧ w'.cell? ⟨g, q * 4 + 2, none⟩ = some (.int .i64 T.subs[q].want) ∧ w'.cell? ⟨g, q * 4 + 3, none⟩ = some (.bool T.subs[q].paused)) ∧ w'.frozen? ⟨g, q * 4 + 3, none⟩ = false) := fun w' h =>
    ⟨⟨(h.cell (p := ⟨w.heap.size, 1, none⟩) hszw).trans x1, (h.cell (p := ⟨w.heap.size, 2, none⟩) hszw).trans x2, (h.cell (p := ⟨w.heap.size, 3, none⟩) hszw).trans x3⟩, ⟨(h.cell (p := ⟨g, q * 4, none⟩) hszg).trans d0, (h.cell (p := ⟨g, q * 4 + 1, none⟩) hszg).trans d1, (h.cell (p := ⟨g, q * 4 + 2, none⟩) hszg).trans d2, (h.cell (p := ⟨g, q * 4 + 3, none⟩) hszg).trans d3⟩, (h.frozen (p := ⟨g, q * 4 + 3, none⟩) hszg).trans (hgf _)⟩
  have HAFT : Hid (∀ w', Below W1.heap.size W1 w' → RefAt (w'.setCell ⟨g, q * 4 + 3, none⟩ (.bool false)) b (T.setSub p n (T.changed ⟨kd, p, n, la, nm, ss⟩ 5)) ∧ Fr w.heap.size (· = b) w (w'.setCell ⟨g, q * 4 + 3, none⟩ (.bool false))) := fun w' h => by
    have hr := HREF1.out.below h
    have hq' := owns_below HQ1.out h
    have hf : Fr w'.heap.size (· = g) w' (w'.setCell ⟨g, q * 4 + 3, none⟩ (.bool false)) := (Fr.refl _ _ _).setAt _ _
    have hgw : w'.heap[g]? = some (.cells cur 48) := by
      rw [h.block g hszg]; exact hgW
    have hty : ∀ e, 48 ≠ e → ∀ k c fr, k = g → w'.heap[k]? ≠ some (.cells c e fr) := by
      intro e he k c fr hk
      subst hk
      rw [hgw]
      exact cells_ne he
    have hblt := hr.lt
    have hq2 := owns_set hq' (by omega) (i := q * 4 + 3) (.bool false)
    rw [HSET.out] at hq2
    have hq3 := Row.of_owns hq2
    obtain ⟨pv', sv', uv', hc', hp', ⟨ms', hs1, hs2, hs3⟩, hu'⟩ := hr.vals
    have hsv' : uv' = .slice (some ⟨g, 0, none⟩) T.subs.length cp := by
      have h1 := cell_of hc' 2
      rw [(KEEP.out w' h).1] at h1
      simpa using h1.symm
    subst hsv'
    refine ⟨⟨pv', sv', .slice (some ⟨g, 0, none⟩) T.subs.length cp, by rw [hf.block b hblt (fun e => hgne e.symm)]; exact hc', ?_⟩, ?_⟩
    · rw [HT1.out]
      exact ⟨hp'.fr hf (Nat.le_refl _) (hty _ (by decide)), ⟨ms', hs1, hs2.fr hf (Nat.le_refl _) (hty _ (by decide)), fun x hx => (hs3 x hx).fr hf (Nat.le_refl _) (hty _ (by decide))⟩, by rw [List.length_set]; exact hq3⟩
    · have h1 : Fr w.heap.size (· = b) w W1 := (Fr.of_below _ HBL0.out).trans (HFR1.out.mono (by omega) (fun _ _ h => h))
      exact (h1.trans ((Fr.of_below (· = b) h).mono (by omega) (fun _ _ h => h))).setCell (Or.inl (by dsimp only; omega)) _
  have CB1 : Hid (∀ w1, Below W1.heap.size W1 w1 → Calls Tryd.prog 19 #[.pointer (some ⟨b, 0, none⟩), .int .i64 p, .int .i64 n] w1 fun e w' => e = .returned (.int .i64 q) ∧ Below w1.heap.size w1 w') := fun w1 h => CB.out w1 (by have := HREF1.out.below h; exact this)
  have hb0 : Below W1.heap.size W1 W1 := Below.refl _ _
  have hqI : (q : Int) < (T.subs.length : Int) := Int.ofNat_lt.2 hq
  have hq0 : (0 : Int) ≤ (q : Int) := Int.natCast_nonneg q
  have HX2 : Hid ((T.changed ⟨kd, p, n, la, nm, ss⟩ 5).peer = T.subs[q].peer ∧ (T.changed ⟨kd, p, n, la, nm, ss⟩ 5).source = n) := by
    show _ ∧ _
    rw [HX.out]
    simp at hqp
    exact ⟨rfl, hqp.2⟩
  have HPS : Hid (T.subs[q].peer = p ∧ T.subs[q].source = n) := by simp at hqp; exact hqp
  clear d0 d1 d2 d3 hcu hbx x1 x2 x3 hgf hgW k2 HQ HQ1 HSET hqp
  go_wp2_with fail
  go_region_held3 (fun w' => w'.cell? ⟨b, 2, none⟩ = some (.slice (some ⟨g, 0, none⟩) T.subs.length cp) ∧ w'.cell? ⟨w.heap.size, 1, none⟩ = some (.int .i64 p) ∧ w'.cell? ⟨w.heap.size, 2, none⟩ = some (.int .i64 n) ∧ Below W1.heap.size W1 w') (first | (exact KEEP.out _ (by with_reducible assumption)) | (exact KEEP.out _ (Below.drew (by with_reducible assumption))) | go_keep) (first | (go_at_call 19; go_split_ands; (with_reducible refine Calls.mono (CB1.out _ (by with_reducible assumption)) ?_); rintro e V ⟨rfl, hbV⟩; have hbV2 := Heap.Below.call (by with_reducible assumption) (Nat.le_refl _) hbV) | fail)
  obtain ⟨⟨x1, x2, x3⟩, ⟨d0, d1, d2, d3⟩, z0⟩ := KEEP2.out _ hbV2
  have hszV := hbV2.size
  have HBV := Lib.hid hbV2
  have hgV : ¬ g = V.heap.size := by omega
  have hgV2 : ¬ V.heap.size = g := by omega
  have hzV : w.heap.size < V.heap.size := by omega
  have hzg : g < V.heap.size := by omega
  have hgw : ¬ g = w.heap.size := by omega
  have hgw2 : ¬ w.heap.size = g := by omega
  have hVw : ¬ V.heap.size = w.heap.size := by omega
  clear hb0 hbV hbV2
  go_wp2_with fail
  obtain ⟨hA1, hA2⟩ := HAFT.out V HBV.out
  obtain ⟨m, hm, hme, -, -⟩ := findAt_at HSRC.out
  have hme : T.srcAt n = m := hme
  have HMU : Hid (((T.setSub p n (T.changed ⟨kd, p, n, la, nm, ss⟩ 5)).srcD n).muted = T.srcs[m].muted) := by
    show (T.srcs.getD (T.srcAt n).toNat noTSrc).muted = _
    rw [hme, Int.toNat_natCast, List.getD_eq_getElem?_getD, List.getElem?_eq_getElem hm]; rfl
  have HASK : Hid (∀ w1, RefAt w1 b (T.setSub p n (T.changed ⟨kd, p, n, la, nm, ss⟩ 5)) → Calls Tryd.prog 39 #[.pointer (some ⟨b, 0, none⟩), .agg #[.int .i64 T.subs[q].peer, .int .i64 T.subs[q].source, .int .i64 ({ T.subs[q] with paused := false }).want, .bool ({ T.subs[q] with paused := false }).paused]] w1 fun e w' => e = .returned (turnAgg ((T.setSub p n (T.changed ⟨kd, p, n, la, nm, ss⟩ 5)).ask (T.changed ⟨kd, p, n, la, nm, ss⟩ 5))) ∧ Below w1.heap.size w1 w') := fun w1 h => by
    have h1 := ask_any b (T.setSub p n (T.changed ⟨kd, p, n, la, nm, ss⟩ 5)) (T.changed ⟨kd, p, n, la, nm, ss⟩ 5) w1 h (by rw [HX2.out.2]; exact HSRC.out) (by rw [HX2.out.2]; exact HWANT.out)
    rw [HX.out] at h1 ⊢
    exact h1
  have CS : Hid (∀ w1, RefAt w1 b (T.setSub p n (T.changed ⟨kd, p, n, la, nm, ss⟩ 5)) → Calls Tryd.prog 18 #[.pointer (some ⟨b, 0, none⟩), .int .i64 n] w1 fun e w' => e = .returned (.int .i64 m) ∧ Below w1.heap.size w1 w') := fun w1 h => by
    have h1 := SourceAt_any b _ n w1 h
    rw [show (T.setSub p n (T.changed ⟨kd, p, n, la, nm, ss⟩ 5)).srcAt n = m from hme] at h1
    exact h1
  have hsz5 := size_setCell V ⟨g, q * 4 + 3, none⟩ (.bool false)
  have y0 : (V.setCell ⟨g, q * 4 + 3, none⟩ (.bool false)).cell? ⟨g, q * 4, none⟩ = some (.int .i64 T.subs[q].peer) := (World.cell?_setCell_other _ _ _ _ (by simp)).trans d0
  have y1 : (V.setCell ⟨g, q * 4 + 3, none⟩ (.bool false)).cell? ⟨g, q * 4 + 1, none⟩ = some (.int .i64 T.subs[q].source) := (World.cell?_setCell_other _ _ _ _ (by simp)).trans d1
  have y2 : (V.setCell ⟨g, q * 4 + 3, none⟩ (.bool false)).cell? ⟨g, q * 4 + 2, none⟩ = some (.int .i64 ({ T.subs[q] with paused := false }).want) := (World.cell?_setCell_other _ _ _ _ (by simp)).trans d2
  have y3 : (V.setCell ⟨g, q * 4 + 3, none⟩ (.bool false)).cell? ⟨g, q * 4 + 3, none⟩ = some (.bool ({ T.subs[q] with paused := false }).paused) := World.cell?_setCell_same _ _ _ d3
  have yb : (V.setCell ⟨g, q * 4 + 3, none⟩ (.bool false)).cell? ⟨w.heap.size, 2, none⟩ = some (.int .i64 n) := (World.cell?_setCell_other _ _ _ _ (by simp <;> omega)).trans x2
  generalize V.setCell ⟨g, q * 4 + 3, none⟩ (.bool false) = W5 at *
  have ht := heap_new W5 (.cells #[.int .i64 5, .int .i64 p, .int .i64 n, .int .i64 0, .int .u32 0] 59)
  rw [hsz5] at ht
  have hba := below_alloc W5 (.cells #[.int .i64 5, .int .i64 p, .int .i64 n, .int .i64 0, .int .u32 0] 59)
  have hR6 := hA1.alloc (.cells #[.int .i64 5, .int .i64 p, .int .i64 n, .int .i64 0, .int .u32 0] 59)
  have hF6 := hA2.alloc (by omega) (.cells #[.int .i64 5, .int .i64 p, .int .i64 n, .int .i64 0, .int .u32 0] 59)
  have y0' := (hba.cell (p := ⟨g, q * 4, none⟩) (by dsimp only; omega)).trans y0
  have y1' := (hba.cell (p := ⟨g, q * 4 + 1, none⟩) (by dsimp only; omega)).trans y1
  have y2' := (hba.cell (p := ⟨g, q * 4 + 2, none⟩) (by dsimp only; omega)).trans y2
  have y3' := (hba.cell (p := ⟨g, q * 4 + 3, none⟩) (by dsimp only; omega)).trans y3
  have yb' := (hba.cell (p := ⟨w.heap.size, 2, none⟩) (by dsimp only; omega)).trans yb
  have hsz6 := World.size_alloc W5 (.cells #[.int .i64 5, .int .i64 p, .int .i64 n, .int .i64 0, .int .u32 0] 59)
  generalize W5.alloc (.cells #[.int .i64 5, .int .i64 p, .int .i64 n, .int .i64 0, .int .u32 0] 59) = W6 at *
  clear y0 y1 y2 y3 yb hba hA1 hA2 d0 d1 d2 d3 z0 x1 x2 x3
  have HR6 := Lib.hid hR6
  have HF6 := Lib.hid hF6
  obtain ⟨pv6, sv6, uv6, hcell6, htab6⟩ := hR6.vals
  obtain ⟨P, hms, hrowP, hrsP⟩ := htab6.srcs
  have hms : P.map Prod.fst = T.srcs := hms
  have hmP : m < P.length := by rw [← hms, List.length_map] at hm; exact hm
  have hPlen := hrowP.len
  have s1 := cell_of hcell6 1
  obtain ⟨pa, pc, rfl, -, -⟩ := id hrowP
  obtain ⟨gs, offs, e4, hcs⟩ := tsrc_at hrowP (by omega)
  subst e4
  obtain ⟨-, -, -, s4⟩ := hcs m P[m] (List.getElem?_eq_getElem hmP)
  have hPm : P[m].1.muted = T.srcs[m].muted := by
    have : (P.map Prod.fst)[m]? = T.srcs[m]? := by rw [hms]
    rw [List.getElem?_map, List.getElem?_eq_getElem hmP, List.getElem?_eq_getElem hm] at this
    simp at this; rw [this]
  rw [hPm] at s4
  have hgs : gs < W6.heap.size := by
    rcases Nat.lt_or_ge gs W6.heap.size with h | h
    · exact h
    · simp [World.cell?, Array.getElem?_eq_none h] at s4
  have hmI : (m : Int) < (P.length : Int) := Int.ofNat_lt.2 hmP
  have hm0 : (0 : Int) ≤ (m : Int) := Int.natCast_nonneg m
  have hb6 : b < W6.heap.size := by omega
  have hg6 : g < W6.heap.size := by omega
  have hV6 : V.heap.size < W6.heap.size := by omega
  have hw6 : w.heap.size < W6.heap.size := by omega
  have hw6' : w.heap.size ≤ W6.heap.size := by omega
  have hxs : n = T.subs[q].source := HPS.out.2.symm
  clear hcell6 htab6 hms hrowP hrsP hcs hPm hR6 hF6 hme
  generalize P.length = NP at *
  generalize T.srcs[m].muted = mu at *
  have KEEP3 : Hid (∀ w', Below W6.heap.size W6 w' → (w'.cell? ⟨g, q * 4, none⟩ = some (.int .i64 T.subs[q].peer) ∧ w'.cell? ⟨g, q * 4 + 1, none⟩ = some (.int .i64 T.subs[q].source) ∧ w'.cell? ⟨g, q * 4 + 2, none⟩ = some (.int .i64 ({ T.subs[q] with paused := false }).want) ∧ w'.cell? ⟨g, q * 4 + 3, none⟩ = some (.bool ({ T.subs[q] with paused := false }).paused)) ∧ (w'.cell? ⟨V.heap.size, 0, none⟩ = some (.int .i64 5) ∧ w'.cell? ⟨V.heap.size, 1, none⟩ = some (.int .i64 p) ∧ w'.cell? ⟨V.heap.size, 2, none⟩ = some (.int .i64 n) ∧ w'.cell? ⟨V.heap.size, 3, none⟩ = some (.int .i64 0) ∧ w'.cell? ⟨V.heap.size, 4, none⟩ = some (.int .u32 0)) ∧ w'.cell? ⟨w.heap.size, 2, none⟩ = some (.int .i64 n) ∧ w'.cell? ⟨b, 1, none⟩ = some (.slice (some ⟨gs, offs, none⟩) NP pc) ∧ w'.cell? ⟨gs, offs + m * 4 + 3, none⟩ = some (.bool mu) ∧ Below W6.heap.size W6 w') := fun w' h =>
    ⟨⟨(h.cell (p := ⟨g, q * 4, none⟩) hg6).trans y0', (h.cell (p := ⟨g, q * 4 + 1, none⟩) hg6).trans y1', (h.cell (p := ⟨g, q * 4 + 2, none⟩) hg6).trans y2', (h.cell (p := ⟨g, q * 4 + 3, none⟩) hg6).trans y3'⟩, ⟨(h.cell (p := ⟨V.heap.size, 0, none⟩) hV6).trans (cell_of ht 0), (h.cell (p := ⟨V.heap.size, 1, none⟩) hV6).trans (cell_of ht 1), (h.cell (p := ⟨V.heap.size, 2, none⟩) hV6).trans (cell_of ht 2), (h.cell (p := ⟨V.heap.size, 3, none⟩) hV6).trans (cell_of ht 3), (h.cell (p := ⟨V.heap.size, 4, none⟩) hV6).trans (cell_of ht 4)⟩, (h.cell (p := ⟨w.heap.size, 2, none⟩) hw6).trans yb', (h.cell (p := ⟨b, 1, none⟩) hb6).trans s1, (h.cell (p := ⟨gs, offs + m * 4 + 3, none⟩) hgs).trans s4, h⟩
  have HPAU : Hid ((T.changed ⟨kd, p, n, la, nm, ss⟩ 5).paused = ({ T.subs[q] with paused := false }).paused) := by show _ = _; rw [HX.out]
  generalize T.setSub p n (T.changed ⟨kd, p, n, la, nm, ss⟩ 5) = T1 at *
  generalize T1.ask (T.changed ⟨kd, p, n, la, nm, ss⟩ 5) = TA at *
  generalize (T.changed ⟨kd, p, n, la, nm, ss⟩ 5).paused = cpau at *
  clear ht y0' y1' y2' s1 s4 hm HSRC HWANT HX HX2 HT1 HAFT KEEP KEEP2 HREF1 HFR1 HBL0 HBL2 HBV HROWU HROW2 HR CB CB1 HPS HLEN
  dsimp only at KEEP3 HASK y3' HPAU
  generalize T.subs[q].source = xs at *
  generalize T.subs[q].peer = xp at *
  generalize T.subs[q].want = xw at *
  subst hxs
  have hb0 : Below W6.heap.size W6 W6 := Below.refl _ _
  have HNP : Hid (T.change ⟨kd, p, n, la, nm, ss⟩ 5 = (⟨5, p, n, 0, 0⟩ :: (if mu then [] else [TA]), T1)) := by show _ = _; rw [HCH.out, HPAU.out, HMU.out]; simp
  go_upto_region 13 with fail
  go_cut [73] (fun s73 wx => s73 = .bool mu ∧ Below W6.heap.size W6 wx)
  case first =>
    go_region_held3 (fun w' => (w'.cell? ⟨g, q * 4, none⟩ = some (.int .i64 xp) ∧ w'.cell? ⟨g, q * 4 + 1, none⟩ = some (.int .i64 n) ∧ w'.cell? ⟨g, q * 4 + 2, none⟩ = some (.int .i64 xw) ∧ w'.cell? ⟨g, q * 4 + 3, none⟩ = some (.bool false)) ∧ (w'.cell? ⟨V.heap.size, 0, none⟩ = some (.int .i64 5) ∧ w'.cell? ⟨V.heap.size, 1, none⟩ = some (.int .i64 p) ∧ w'.cell? ⟨V.heap.size, 2, none⟩ = some (.int .i64 n) ∧ w'.cell? ⟨V.heap.size, 3, none⟩ = some (.int .i64 0) ∧ w'.cell? ⟨V.heap.size, 4, none⟩ = some (.int .u32 0)) ∧ w'.cell? ⟨w.heap.size, 2, none⟩ = some (.int .i64 n) ∧ w'.cell? ⟨b, 1, none⟩ = some (.slice (some ⟨gs, offs, none⟩) NP pc) ∧ w'.cell? ⟨gs, offs + m * 4 + 3, none⟩ = some (.bool mu) ∧ Below W6.heap.size W6 w') (first | (exact KEEP3.out _ (by with_reducible assumption)) | (exact KEEP3.out _ (Below.drew (by with_reducible assumption))) | go_keep) (first | (go_at_call 18; go_split_ands; (with_reducible refine Calls.mono (CS.out _ (HR6.out.below (by with_reducible assumption))) ?_); rintro e V2 ⟨rfl, hbV⟩; have hbV2 := Heap.Below.call (by with_reducible assumption) (Nat.le_refl _) hbV) | fail)
    all_goals (go_wp2_with fail; go_meet; exact ⟨rfl, by first | with_reducible assumption | exact Below.drew (by with_reducible assumption)⟩)
  case rest =>
    clear hb0
    obtain ⟨rfl, hbz⟩ := hcut
    obtain ⟨W7, rfl⟩ : ∃ W7 : World, W7 = wc := ⟨_, rfl⟩
    cases mu
    · go_upto_region 15 with fail
      go_cut [6] (fun s6 wx => TurnRow wx s6 [⟨5, p, n, 0, 0⟩, TA] ∧ Below W6.heap.size W6 wx)
      case first =>
        go_region_held3 (fun w' => (w'.cell? ⟨g, q * 4, none⟩ = some (.int .i64 xp) ∧ w'.cell? ⟨g, q * 4 + 1, none⟩ = some (.int .i64 n) ∧ w'.cell? ⟨g, q * 4 + 2, none⟩ = some (.int .i64 xw) ∧ w'.cell? ⟨g, q * 4 + 3, none⟩ = some (.bool false)) ∧ (w'.cell? ⟨V.heap.size, 0, none⟩ = some (.int .i64 5) ∧ w'.cell? ⟨V.heap.size, 1, none⟩ = some (.int .i64 p) ∧ w'.cell? ⟨V.heap.size, 2, none⟩ = some (.int .i64 n) ∧ w'.cell? ⟨V.heap.size, 3, none⟩ = some (.int .i64 0) ∧ w'.cell? ⟨V.heap.size, 4, none⟩ = some (.int .u32 0)) ∧ w'.cell? ⟨w.heap.size, 2, none⟩ = some (.int .i64 n) ∧ w'.cell? ⟨b, 1, none⟩ = some (.slice (some ⟨gs, offs, none⟩) NP pc) ∧ w'.cell? ⟨gs, offs + m * 4 + 3, none⟩ = some (.bool false) ∧ Below W6.heap.size W6 w') (first | (exact KEEP3.out _ (by with_reducible assumption)) | (exact KEEP3.out _ (Below.drew (by with_reducible assumption))) | (exact KEEP3.out _ (Heap.Below.alloc' (by with_reducible assumption) (Nat.le_refl _) _)) | (exact KEEP3.out _ (Heap.Below.alloc' (Below.drew (by with_reducible assumption)) (Nat.le_refl _) _)) | go_keep) (first | (go_at_call 39; go_split_ands; (with_reducible refine Calls.mono (HASK.out _ (HR6.out.below (by with_reducible assumption))) ?_); rintro e V3 ⟨rfl, hbV⟩; have hbV3 := Heap.Below.call (by with_reducible assumption) (Nat.le_refl _) hbV; unfold turnAgg) | fail)
        go_wp2_with fail
        go_meet
        exact ⟨row_new' _ _ 2 _ ([⟨5, p, n, 0, 0⟩, TA].flatMap turnCells) (by decide) rfl, hbV3.alloc hbV3.size _⟩
      case rest =>
        obtain ⟨hrow8, hb8⟩ := hcut
        obtain ⟨va, vc, rfl, -, -⟩ := id hrow8
        go_wp2
        go_ret
        rw [HNP.out]
        exact ⟨⟨_, rfl, hrow8⟩, HR6.out.below hb8, HF6.out.trans ((Fr.of_below _ hb8).mono hw6' (fun _ _ h => h))⟩
    · obtain ⟨-, ⟨t0, t1, t2, t3, t4⟩, -⟩ := KEEP3.out _ hbz
      have hzt : V.heap.size < W7.heap.size := Nat.lt_of_lt_of_le hV6 hbz.size
      go_wp2
      go_ret
      rw [HNP.out]
      exact ⟨⟨_, rfl, row_new' _ _ 1 _ ([⟨5, p, n, 0, 0⟩].flatMap turnCells) (by decide) rfl⟩, (HR6.out.below hbz).alloc _, (HF6.out.trans ((Fr.of_below _ hbz).mono hw6' (fun _ _ h => h))).alloc (Nat.le_trans hw6' hbz.size) _⟩
set_option maxRecDepth 100000 in
set_option maxHeartbeats 8000000 in
theorem change_want (b : Nat) (T : Tab) (o : Op) (sa ba : Option Addr) (sl sc bl bc : Nat) (w : World) (hR : RefAt w b T) (hsm : T.Small) (hs : 0 ≤ T.subAt o.peer o.source) (hsrc : 0 ≤ T.srcAt o.source) (hwant : 0 ≤ (T.changed o 8).want ∧ (T.changed o 8).want < (T.srcD o.source).ss.length) :
    Calls Tryd.prog 42 #[.pointer (some ⟨b, 0, none⟩), .agg #[.int .i64 o.kind, .int .i64 o.peer, .int .i64 o.source, .int .i64 o.layer, .string (str o.name), .slice sa sl sc, .slice ba bl bc], .int .i64 8] w fun e w' => (∃ v, e = .returned v ∧ TurnRow w' v (T.change o 8).1) ∧ RefAt w' b (T.change o 8).2 ∧ Fr w.heap.size (· = b) w w' := by
  obtain ⟨kd, p, n, la, nm, ss⟩ := o
  dsimp only at hs hsrc hwant ⊢
  have hb := hR.lt
  obtain ⟨q, hq, hqe, hqp, -⟩ := findAt_at hs
  have hqe : T.subAt p n = q := hqe
  have CB := Lib.hid (fun (w1 : World) (h : RefAt w1 b T) => SubAt_any b T p n w1 h)
  rw [hqe] at CB
  have HX : Hid (T.changed ⟨kd, p, n, la, nm, ss⟩ 8 = { T.subs[q] with want := la }) := by
    show _ = _
    unfold Tab.changed Tab.subD
    dsimp only
    rw [hqe, Int.toNat_natCast, getD_sub hq]
    rfl
  have HT1 : Hid (T.setSub p n (T.changed ⟨kd, p, n, la, nm, ss⟩ 8) = { T with subs := T.subs.set q ({ T.subs[q] with want := la }) }) := by
    show _ = _
    rw [HX.out]; unfold Tab.setSub; rw [hqe, Int.toNat_natCast]
  have HCH : Hid (T.change ⟨kd, p, n, la, nm, ss⟩ 8 = (⟨8, p, n, la, 0⟩ :: (if (T.changed ⟨kd, p, n, la, nm, ss⟩ 8).paused || ((T.setSub p n (T.changed ⟨kd, p, n, la, nm, ss⟩ 8)).srcD n).muted then [] else [(T.setSub p n (T.changed ⟨kd, p, n, la, nm, ss⟩ 8)).ask (T.changed ⟨kd, p, n, la, nm, ss⟩ 8)]), T.setSub p n (T.changed ⟨kd, p, n, la, nm, ss⟩ 8))) := rfl
  obtain ⟨pv, sv, uv, hcell, htab⟩ := hR.vals
  have hrowU := htab.subs
  have hsl := hsm.subs
  unfold small at hsl
  have HR := Lib.hid hR
  have HROWU := Lib.hid hrowU
  have c2 := cell_of hcell 2
  have f2 := hR.unfrozen 2
  obtain ⟨ua, ucap, rfl, hncap, -, -⟩ := id hrowU
  have HSRC := Lib.hid hsrc
  have HWANT := Lib.hid hwant
  have HSET := Lib.hid (flat_set tsubCells 4 (fun _ => rfl) (i := 2) (by decide) (.int .i64 la) ({ T.subs[q] with want := la }) T.subs q hq rfl)
  have HLEN := Lib.hid (tsubs_len T.subs)
  have HROW2 : Hid (Row (w.alloc (.cells #[.int .i64 kd, .int .i64 p, .int .i64 n, .int .i64 la, .string (str nm), .slice sa sl sc, .slice ba bl bc] 40)) 48 (.slice ua T.subs.length ucap) T.subs.length (T.subs.flatMap tsubCells)) := hrowU.below (below_alloc _ _)
  have c2a := ((below_alloc w (.cells #[.int .i64 kd, .int .i64 p, .int .i64 n, .int .i64 la, .string (str nm), .slice sa sl sc, .slice ba bl bc] 40)).cell (p := ⟨b, 2, none⟩) hb).trans c2
  have f2a := ((below_alloc w (.cells #[.int .i64 kd, .int .i64 p, .int .i64 n, .int .i64 la, .string (str nm), .slice sa sl sc, .slice ba bl bc] 40)).frozen (p := ⟨b, 2, none⟩) hb).trans f2
  have hRa := hR.below (below_alloc w (.cells #[.int .i64 kd, .int .i64 p, .int .i64 n, .int .i64 la, .string (str nm), .slice sa sl sc, .slice ba bl bc] 40))
  have hWs := World.size_alloc w (.cells #[.int .i64 kd, .int .i64 p, .int .i64 n, .int .i64 la, .string (str nm), .slice sa sl sc, .slice ba bl bc] 40)
  have hBX := heap_new w (.cells #[.int .i64 kd, .int .i64 p, .int .i64 n, .int .i64 la, .string (str nm), .slice sa sl sc, .slice ba bl bc] 40)
  have HBL0 : Hid (Below w.heap.size w (w.alloc (.cells #[.int .i64 kd, .int .i64 p, .int .i64 n, .int .i64 la, .string (str nm), .slice sa sl sc, .slice ba bl bc] 40))) := below_alloc _ _
  clear hcell htab hrowU hR hsm hs hqe c2 f2 hsrc hwant
  go_enter Tryd.func42, Tryd.ntmps42
  go_upto_region 1 with fail
  generalize w.alloc (.cells #[.int .i64 kd, .int .i64 p, .int .i64 n, .int .i64 la, .string (str nm), .slice sa sl sc, .slice ba bl bc] 40) = W0 at *
  go_wp2_with (at_builtin; refine wpList_app rfl (.const (.slice none 0 0)) (.tmp 13) 30 rfl (w.heap.size + 1) elemSub (.slice none 0 0) 0 [] rfl (World.ownsRow_nil _ _ _ _) (.slice ua T.subs.length ucap) T.subs.length (T.subs.flatMap tsubCells) rfl HROW2.out HLEN.out (tsubs_one _) (by omega) (by omega) (by omega) (fun v1 w2 HQ0 HG => ?_); have HQ : Hid (w2.ownsRow (w.heap.size + 1) 48 4 v1 T.subs.length (T.subs.flatMap tsubCells)) := (by have h := HQ0; rw [Nat.zero_add, List.nil_append] at h; exact h); clear HQ0; have hbl2 : Below (w.heap.size + 1) W0 w2 := (Below.refl _ _).grown HG.out (by omega) (fun k hk => by cases hk); have c2 := (hbl2.cell (p := ⟨b, 2, none⟩) (by dsimp only; omega)).trans c2a; have f2 := (hbl2.frozen (p := ⟨b, 2, none⟩) (by dsimp only; omega)).trans f2a; obtain ⟨g, cp, cur, hv, hgb, hgh⟩ := owns_some HQ.out (by omega); subst hv)
  have HBL2 := Lib.hid hbl2
  have HREF1 := Lib.hid ((hRa.below (hbl2.mono (by omega))).setSubs (Row.of_owns HQ.out))
  have hgne : g ≠ b := by omega
  have HQ1 := Lib.hid (owns_fr HQ.out ((Fr.refl w2.heap.size (· = b) w2).setAt 2 (.slice (some ⟨g, 0, none⟩) T.subs.length cp)) (fun k hk => by omega))
  have HFR1 : Hid (Fr (w.heap.size + 1) (· = b) W0 (w2.setCell ⟨b, 2, none⟩ (.slice (some ⟨g, 0, none⟩) T.subs.length cp))) := (Fr.of_below _ hbl2).setAt _ _
  have k2 : (w2.setCell ⟨b, 2, none⟩ (.slice (some ⟨g, 0, none⟩) T.subs.length cp)).cell? ⟨b, 2, none⟩ = some (.slice (some ⟨g, 0, none⟩) T.subs.length cp) := World.cell?_setCell_same _ _ _ c2
  have hgsz : g < w2.heap.size := by
    rcases Nat.lt_or_ge g w2.heap.size with h | h
    · exact h
    · rw [Array.getElem?_eq_none h] at hgh; cases hgh
  have hgW : (w2.setCell ⟨b, 2, none⟩ (.slice (some ⟨g, 0, none⟩) T.subs.length cp)).heap[g]? = some (.cells cur 48) := by simp [World.setCell, Array.getElem?_modify, hgne.symm, hgh]
  have hz1 := size_setCell w2 ⟨b, 2, none⟩ (.slice (some ⟨g, 0, none⟩) T.subs.length cp)
  have hbsz2 := hbl2.size
  clear c2 f2 hgh hbl2 hRa
  generalize w2.setCell ⟨b, 2, none⟩ (.slice (some ⟨g, 0, none⟩) T.subs.length cp) = W1 at *
  have hgf : ∀ j, W1.frozen? ⟨g, j, none⟩ = false := fun j => by simp [World.frozen?, hgW]
  obtain ⟨g', off', e1, hcu⟩ := tsub_at (Row.of_owns HQ1.out) (by omega)
  cases e1
  obtain ⟨d0, d1, d2, d3⟩ := hcu q T.subs[q] (List.getElem?_eq_getElem hq)
  rw [Nat.zero_add] at d0 d1 d2 d3
  have hbx := fun (j : Nat) => (HFR1.out.cell (p := ⟨w.heap.size, j, none⟩) (by dsimp only; omega) (by dsimp only; omega)).trans (cell_of hBX j)
  have x1 : W1.cell? ⟨w.heap.size, 1, none⟩ = some (.int .i64 p) := hbx 1
  have x2 : W1.cell? ⟨w.heap.size, 2, none⟩ = some (.int .i64 n) := hbx 2
  have x3 : W1.cell? ⟨w.heap.size, 3, none⟩ = some (.int .i64 la) := hbx 3
  have hszw : w.heap.size < W1.heap.size := by omega
  have hszb : b < W1.heap.size := by omega
  have hszg : g < W1.heap.size := by omega
  have KEEP : Hid (∀ w', Below W1.heap.size W1 w' → w'.cell? ⟨b, 2, none⟩ = some (.slice (some ⟨g, 0, none⟩) T.subs.length cp) ∧ w'.cell? ⟨w.heap.size, 1, none⟩ = some (.int .i64 p) ∧ w'.cell? ⟨w.heap.size, 2, none⟩ = some (.int .i64 n) ∧ Below W1.heap.size W1 w') := fun w' h =>
    ⟨(h.cell (p := ⟨b, 2, none⟩) hszb).trans k2, (h.cell (p := ⟨w.heap.size, 1, none⟩) hszw).trans x1, (h.cell (p := ⟨w.heap.size, 2, none⟩) hszw).trans x2, h⟩
  have KEEP2 : Hid (∀ w', Below W1.heap.size W1 w' → (w'.cell? ⟨w.heap.size, 1, none⟩ = some (.int .i64 p) ∧ w'.cell? ⟨w.heap.size, 2, none⟩ = some (.int .i64 n) ∧ w'.cell? ⟨w.heap.size, 3, none⟩ = some (.int .i64 la)) ∧ (w'.cell? ⟨g, q * 4, none⟩ = some (.int .i64 T.subs[q].peer) ∧ w'.cell? ⟨g, q * 4 + 1, none⟩ = some (.int .i64 T.subs[q].source) ∧ w'.cell? ⟨g, q * 4 + 2, none⟩ = some (.int .i64 T.subs[q].want) ∧ w'.cell? ⟨g, q * 4 + 3, none⟩ = some (.bool T.subs[q].paused)) ∧ w'.frozen? ⟨g, q * 4 + 2, none⟩ = false) := fun w' h =>
    ⟨⟨(h.cell (p := ⟨w.heap.size, 1, none⟩) hszw).trans x1, (h.cell (p := ⟨w.heap.size, 2, none⟩) hszw).trans x2, (h.cell (p := ⟨w.heap.size, 3, none⟩) hszw).trans x3⟩, ⟨(h.cell (p := ⟨g, q * 4, none⟩) hszg).trans d0, (h.cell (p := ⟨g, q * 4 + 1, none⟩) hszg).trans d1, (h.cell (p := ⟨g, q * 4 + 2, none⟩) hszg).trans d2, (h.cell (p := ⟨g, q * 4 + 3, none⟩) hszg).trans d3⟩, (h.frozen (p := ⟨g, q * 4 + 2, none⟩) hszg).trans (hgf _)⟩
  have HAFT : Hid (∀ w', Below W1.heap.size W1 w' → RefAt (w'.setCell ⟨g, q * 4 + 2, none⟩ (.int .i64 la)) b (T.setSub p n (T.changed ⟨kd, p, n, la, nm, ss⟩ 8)) ∧ Fr w.heap.size (· = b) w (w'.setCell ⟨g, q * 4 + 2, none⟩ (.int .i64 la))) := fun w' h => by
    have hr := HREF1.out.below h
    have hq' := owns_below HQ1.out h
    have hf : Fr w'.heap.size (· = g) w' (w'.setCell ⟨g, q * 4 + 2, none⟩ (.int .i64 la)) := (Fr.refl _ _ _).setAt _ _
    have hgw : w'.heap[g]? = some (.cells cur 48) := by
      rw [h.block g hszg]; exact hgW
    have hty : ∀ e, 48 ≠ e → ∀ k c fr, k = g → w'.heap[k]? ≠ some (.cells c e fr) := by
      intro e he k c fr hk
      subst hk
      rw [hgw]
      exact cells_ne he
    have hblt := hr.lt
    have hq2 := owns_set hq' (by omega) (i := q * 4 + 2) (.int .i64 la)
    rw [HSET.out] at hq2
    have hq3 := Row.of_owns hq2
    obtain ⟨pv', sv', uv', hc', hp', ⟨ms', hs1, hs2, hs3⟩, hu'⟩ := hr.vals
    have hsv' : uv' = .slice (some ⟨g, 0, none⟩) T.subs.length cp := by
      have h1 := cell_of hc' 2
      rw [(KEEP.out w' h).1] at h1
      simpa using h1.symm
    subst hsv'
    refine ⟨⟨pv', sv', .slice (some ⟨g, 0, none⟩) T.subs.length cp, by rw [hf.block b hblt (fun e => hgne e.symm)]; exact hc', ?_⟩, ?_⟩
    · rw [HT1.out]
      exact ⟨hp'.fr hf (Nat.le_refl _) (hty _ (by decide)), ⟨ms', hs1, hs2.fr hf (Nat.le_refl _) (hty _ (by decide)), fun x hx => (hs3 x hx).fr hf (Nat.le_refl _) (hty _ (by decide))⟩, by rw [List.length_set]; exact hq3⟩
    · have h1 : Fr w.heap.size (· = b) w W1 := (Fr.of_below _ HBL0.out).trans (HFR1.out.mono (by omega) (fun _ _ h => h))
      exact (h1.trans ((Fr.of_below (· = b) h).mono (by omega) (fun _ _ h => h))).setCell (Or.inl (by dsimp only; omega)) _
  have CB1 : Hid (∀ w1, Below W1.heap.size W1 w1 → Calls Tryd.prog 19 #[.pointer (some ⟨b, 0, none⟩), .int .i64 p, .int .i64 n] w1 fun e w' => e = .returned (.int .i64 q) ∧ Below w1.heap.size w1 w') := fun w1 h => CB.out w1 (by have := HREF1.out.below h; exact this)
  have hb0 : Below W1.heap.size W1 W1 := Below.refl _ _
  have hqI : (q : Int) < (T.subs.length : Int) := Int.ofNat_lt.2 hq
  have hq0 : (0 : Int) ≤ (q : Int) := Int.natCast_nonneg q
  have HX2 : Hid ((T.changed ⟨kd, p, n, la, nm, ss⟩ 8).peer = T.subs[q].peer ∧ (T.changed ⟨kd, p, n, la, nm, ss⟩ 8).source = n) := by
    show _ ∧ _
    rw [HX.out]
    simp at hqp
    exact ⟨rfl, hqp.2⟩
  have HPS : Hid (T.subs[q].peer = p ∧ T.subs[q].source = n) := by simp at hqp; exact hqp
  clear d0 d1 d2 d3 hcu hbx x1 x2 x3 hgf hgW k2 HQ HQ1 HSET hqp
  go_wp2_with fail
  go_region_held3 (fun w' => w'.cell? ⟨b, 2, none⟩ = some (.slice (some ⟨g, 0, none⟩) T.subs.length cp) ∧ w'.cell? ⟨w.heap.size, 1, none⟩ = some (.int .i64 p) ∧ w'.cell? ⟨w.heap.size, 2, none⟩ = some (.int .i64 n) ∧ Below W1.heap.size W1 w') (first | (exact KEEP.out _ (by with_reducible assumption)) | (exact KEEP.out _ (Below.drew (by with_reducible assumption))) | go_keep) (first | (go_at_call 19; go_split_ands; (with_reducible refine Calls.mono (CB1.out _ (by with_reducible assumption)) ?_); rintro e V ⟨rfl, hbV⟩; have hbV2 := Heap.Below.call (by with_reducible assumption) (Nat.le_refl _) hbV) | fail)
  obtain ⟨⟨x1, x2, x3⟩, ⟨d0, d1, d2, d3⟩, z0⟩ := KEEP2.out _ hbV2
  have hszV := hbV2.size
  have HBV := Lib.hid hbV2
  have hgV : ¬ g = V.heap.size := by omega
  have hgV2 : ¬ V.heap.size = g := by omega
  have hzV : w.heap.size < V.heap.size := by omega
  have hzg : g < V.heap.size := by omega
  have hgw : ¬ g = w.heap.size := by omega
  have hgw2 : ¬ w.heap.size = g := by omega
  have hVw : ¬ V.heap.size = w.heap.size := by omega
  clear hb0 hbV hbV2
  go_wp2_with fail
  obtain ⟨hA1, hA2⟩ := HAFT.out V HBV.out
  obtain ⟨m, hm, hme, -, -⟩ := findAt_at HSRC.out
  have hme : T.srcAt n = m := hme
  have HMU : Hid (((T.setSub p n (T.changed ⟨kd, p, n, la, nm, ss⟩ 8)).srcD n).muted = T.srcs[m].muted) := by
    show (T.srcs.getD (T.srcAt n).toNat noTSrc).muted = _
    rw [hme, Int.toNat_natCast, List.getD_eq_getElem?_getD, List.getElem?_eq_getElem hm]; rfl
  have HASK : Hid (∀ w1, RefAt w1 b (T.setSub p n (T.changed ⟨kd, p, n, la, nm, ss⟩ 8)) → Calls Tryd.prog 39 #[.pointer (some ⟨b, 0, none⟩), .agg #[.int .i64 T.subs[q].peer, .int .i64 T.subs[q].source, .int .i64 ({ T.subs[q] with want := la }).want, .bool ({ T.subs[q] with want := la }).paused]] w1 fun e w' => e = .returned (turnAgg ((T.setSub p n (T.changed ⟨kd, p, n, la, nm, ss⟩ 8)).ask (T.changed ⟨kd, p, n, la, nm, ss⟩ 8))) ∧ Below w1.heap.size w1 w') := fun w1 h => by
    have h1 := ask_any b (T.setSub p n (T.changed ⟨kd, p, n, la, nm, ss⟩ 8)) (T.changed ⟨kd, p, n, la, nm, ss⟩ 8) w1 h (by rw [HX2.out.2]; exact HSRC.out) (by rw [HX2.out.2]; exact HWANT.out)
    rw [HX.out] at h1 ⊢
    exact h1
  have CS : Hid (∀ w1, RefAt w1 b (T.setSub p n (T.changed ⟨kd, p, n, la, nm, ss⟩ 8)) → Calls Tryd.prog 18 #[.pointer (some ⟨b, 0, none⟩), .int .i64 n] w1 fun e w' => e = .returned (.int .i64 m) ∧ Below w1.heap.size w1 w') := fun w1 h => by
    have h1 := SourceAt_any b _ n w1 h
    rw [show (T.setSub p n (T.changed ⟨kd, p, n, la, nm, ss⟩ 8)).srcAt n = m from hme] at h1
    exact h1
  have hsz5 := size_setCell V ⟨g, q * 4 + 2, none⟩ (.int .i64 la)
  have y0 : (V.setCell ⟨g, q * 4 + 2, none⟩ (.int .i64 la)).cell? ⟨g, q * 4, none⟩ = some (.int .i64 T.subs[q].peer) := (World.cell?_setCell_other _ _ _ _ (by simp)).trans d0
  have y1 : (V.setCell ⟨g, q * 4 + 2, none⟩ (.int .i64 la)).cell? ⟨g, q * 4 + 1, none⟩ = some (.int .i64 T.subs[q].source) := (World.cell?_setCell_other _ _ _ _ (by simp)).trans d1
  have y2 : (V.setCell ⟨g, q * 4 + 2, none⟩ (.int .i64 la)).cell? ⟨g, q * 4 + 2, none⟩ = some (.int .i64 ({ T.subs[q] with want := la }).want) := World.cell?_setCell_same _ _ _ d2
  have y3 : (V.setCell ⟨g, q * 4 + 2, none⟩ (.int .i64 la)).cell? ⟨g, q * 4 + 3, none⟩ = some (.bool ({ T.subs[q] with want := la }).paused) := (World.cell?_setCell_other _ _ _ _ (by simp)).trans d3
  have yb : (V.setCell ⟨g, q * 4 + 2, none⟩ (.int .i64 la)).cell? ⟨w.heap.size, 2, none⟩ = some (.int .i64 n) := (World.cell?_setCell_other _ _ _ _ (by simp <;> omega)).trans x2
  generalize V.setCell ⟨g, q * 4 + 2, none⟩ (.int .i64 la) = W5 at *
  have ht := heap_new W5 (.cells #[.int .i64 8, .int .i64 p, .int .i64 n, .int .i64 la, .int .u32 0] 59)
  rw [hsz5] at ht
  have hba := below_alloc W5 (.cells #[.int .i64 8, .int .i64 p, .int .i64 n, .int .i64 la, .int .u32 0] 59)
  have hR6 := hA1.alloc (.cells #[.int .i64 8, .int .i64 p, .int .i64 n, .int .i64 la, .int .u32 0] 59)
  have hF6 := hA2.alloc (by omega) (.cells #[.int .i64 8, .int .i64 p, .int .i64 n, .int .i64 la, .int .u32 0] 59)
  have y0' := (hba.cell (p := ⟨g, q * 4, none⟩) (by dsimp only; omega)).trans y0
  have y1' := (hba.cell (p := ⟨g, q * 4 + 1, none⟩) (by dsimp only; omega)).trans y1
  have y2' := (hba.cell (p := ⟨g, q * 4 + 2, none⟩) (by dsimp only; omega)).trans y2
  have y3' := (hba.cell (p := ⟨g, q * 4 + 3, none⟩) (by dsimp only; omega)).trans y3
  have yb' := (hba.cell (p := ⟨w.heap.size, 2, none⟩) (by dsimp only; omega)).trans yb
  have hsz6 := World.size_alloc W5 (.cells #[.int .i64 8, .int .i64 p, .int .i64 n, .int .i64 la, .int .u32 0] 59)
  generalize W5.alloc (.cells #[.int .i64 8, .int .i64 p, .int .i64 n, .int .i64 la, .int .u32 0] 59) = W6 at *
  clear y0 y1 y2 y3 yb hba hA1 hA2 d0 d1 d2 d3 z0 x1 x2 x3
  have HR6 := Lib.hid hR6
  have HF6 := Lib.hid hF6
  obtain ⟨pv6, sv6, uv6, hcell6, htab6⟩ := hR6.vals
  obtain ⟨P, hms, hrowP, hrsP⟩ := htab6.srcs
  have hms : P.map Prod.fst = T.srcs := hms
  have hmP : m < P.length := by rw [← hms, List.length_map] at hm; exact hm
  have hPlen := hrowP.len
  have s1 := cell_of hcell6 1
  obtain ⟨pa, pc, rfl, -, -⟩ := id hrowP
  obtain ⟨gs, offs, e4, hcs⟩ := tsrc_at hrowP (by omega)
  subst e4
  obtain ⟨-, -, -, s4⟩ := hcs m P[m] (List.getElem?_eq_getElem hmP)
  have hPm : P[m].1.muted = T.srcs[m].muted := by
    have : (P.map Prod.fst)[m]? = T.srcs[m]? := by rw [hms]
    rw [List.getElem?_map, List.getElem?_eq_getElem hmP, List.getElem?_eq_getElem hm] at this
    simp at this; rw [this]
  rw [hPm] at s4
  have hgs : gs < W6.heap.size := by
    rcases Nat.lt_or_ge gs W6.heap.size with h | h
    · exact h
    · simp [World.cell?, Array.getElem?_eq_none h] at s4
  have hmI : (m : Int) < (P.length : Int) := Int.ofNat_lt.2 hmP
  have hm0 : (0 : Int) ≤ (m : Int) := Int.natCast_nonneg m
  have hb6 : b < W6.heap.size := by omega
  have hg6 : g < W6.heap.size := by omega
  have hV6 : V.heap.size < W6.heap.size := by omega
  have hw6 : w.heap.size < W6.heap.size := by omega
  have hw6' : w.heap.size ≤ W6.heap.size := by omega
  have hxs : n = T.subs[q].source := HPS.out.2.symm
  clear hcell6 htab6 hms hrowP hrsP hcs hPm hR6 hF6 hme
  generalize P.length = NP at *
  generalize T.srcs[m].muted = mu at *
  have KEEP3 : Hid (∀ w', Below W6.heap.size W6 w' → (w'.cell? ⟨g, q * 4, none⟩ = some (.int .i64 T.subs[q].peer) ∧ w'.cell? ⟨g, q * 4 + 1, none⟩ = some (.int .i64 T.subs[q].source) ∧ w'.cell? ⟨g, q * 4 + 2, none⟩ = some (.int .i64 ({ T.subs[q] with want := la }).want) ∧ w'.cell? ⟨g, q * 4 + 3, none⟩ = some (.bool ({ T.subs[q] with want := la }).paused)) ∧ (w'.cell? ⟨V.heap.size, 0, none⟩ = some (.int .i64 8) ∧ w'.cell? ⟨V.heap.size, 1, none⟩ = some (.int .i64 p) ∧ w'.cell? ⟨V.heap.size, 2, none⟩ = some (.int .i64 n) ∧ w'.cell? ⟨V.heap.size, 3, none⟩ = some (.int .i64 la) ∧ w'.cell? ⟨V.heap.size, 4, none⟩ = some (.int .u32 0)) ∧ w'.cell? ⟨w.heap.size, 2, none⟩ = some (.int .i64 n) ∧ w'.cell? ⟨b, 1, none⟩ = some (.slice (some ⟨gs, offs, none⟩) NP pc) ∧ w'.cell? ⟨gs, offs + m * 4 + 3, none⟩ = some (.bool mu) ∧ Below W6.heap.size W6 w') := fun w' h =>
    ⟨⟨(h.cell (p := ⟨g, q * 4, none⟩) hg6).trans y0', (h.cell (p := ⟨g, q * 4 + 1, none⟩) hg6).trans y1', (h.cell (p := ⟨g, q * 4 + 2, none⟩) hg6).trans y2', (h.cell (p := ⟨g, q * 4 + 3, none⟩) hg6).trans y3'⟩, ⟨(h.cell (p := ⟨V.heap.size, 0, none⟩) hV6).trans (cell_of ht 0), (h.cell (p := ⟨V.heap.size, 1, none⟩) hV6).trans (cell_of ht 1), (h.cell (p := ⟨V.heap.size, 2, none⟩) hV6).trans (cell_of ht 2), (h.cell (p := ⟨V.heap.size, 3, none⟩) hV6).trans (cell_of ht 3), (h.cell (p := ⟨V.heap.size, 4, none⟩) hV6).trans (cell_of ht 4)⟩, (h.cell (p := ⟨w.heap.size, 2, none⟩) hw6).trans yb', (h.cell (p := ⟨b, 1, none⟩) hb6).trans s1, (h.cell (p := ⟨gs, offs + m * 4 + 3, none⟩) hgs).trans s4, h⟩
  have HPAU : Hid ((T.changed ⟨kd, p, n, la, nm, ss⟩ 8).paused = ({ T.subs[q] with want := la }).paused) := by show _ = _; rw [HX.out]
  generalize T.setSub p n (T.changed ⟨kd, p, n, la, nm, ss⟩ 8) = T1 at *
  generalize T1.ask (T.changed ⟨kd, p, n, la, nm, ss⟩ 8) = TA at *
  generalize (T.changed ⟨kd, p, n, la, nm, ss⟩ 8).paused = cpau at *
  clear ht y0' y1' y2' s1 s4 hm HSRC HWANT HX HX2 HT1 HAFT KEEP KEEP2 HREF1 HFR1 HBL0 HBL2 HBV HROWU HROW2 HR CB CB1 HPS HLEN
  dsimp only at KEEP3 HASK y3' HPAU
  generalize T.subs[q].source = xs at *
  generalize T.subs[q].peer = xp at *
  generalize T.subs[q].paused = xq at *
  subst hxs
  have hb0 : Below W6.heap.size W6 W6 := Below.refl _ _
  cases xq
  · have HNP : Hid (T.change ⟨kd, p, n, la, nm, ss⟩ 8 = (⟨8, p, n, la, 0⟩ :: (if mu then [] else [TA]), T1)) := by show _ = _; rw [HCH.out, HPAU.out, HMU.out]; simp
    go_upto_region 13 with fail
    go_cut [73] (fun s73 wx => s73 = .bool mu ∧ Below W6.heap.size W6 wx)
    case first =>
      go_region_held3 (fun w' => (w'.cell? ⟨g, q * 4, none⟩ = some (.int .i64 xp) ∧ w'.cell? ⟨g, q * 4 + 1, none⟩ = some (.int .i64 n) ∧ w'.cell? ⟨g, q * 4 + 2, none⟩ = some (.int .i64 la) ∧ w'.cell? ⟨g, q * 4 + 3, none⟩ = some (.bool false)) ∧ (w'.cell? ⟨V.heap.size, 0, none⟩ = some (.int .i64 8) ∧ w'.cell? ⟨V.heap.size, 1, none⟩ = some (.int .i64 p) ∧ w'.cell? ⟨V.heap.size, 2, none⟩ = some (.int .i64 n) ∧ w'.cell? ⟨V.heap.size, 3, none⟩ = some (.int .i64 la) ∧ w'.cell? ⟨V.heap.size, 4, none⟩ = some (.int .u32 0)) ∧ w'.cell? ⟨w.heap.size, 2, none⟩ = some (.int .i64 n) ∧ w'.cell? ⟨b, 1, none⟩ = some (.slice (some ⟨gs, offs, none⟩) NP pc) ∧ w'.cell? ⟨gs, offs + m * 4 + 3, none⟩ = some (.bool mu) ∧ Below W6.heap.size W6 w') (first | (exact KEEP3.out _ (by with_reducible assumption)) | (exact KEEP3.out _ (Below.drew (by with_reducible assumption))) | go_keep) (first | (go_at_call 18; go_split_ands; (with_reducible refine Calls.mono (CS.out _ (HR6.out.below (by with_reducible assumption))) ?_); rintro e V2 ⟨rfl, hbV⟩; have hbV2 := Heap.Below.call (by with_reducible assumption) (Nat.le_refl _) hbV) | fail)
      all_goals (go_wp2_with fail; go_meet; exact ⟨rfl, by first | with_reducible assumption | exact Below.drew (by with_reducible assumption)⟩)
    case rest =>
      clear hb0
      obtain ⟨rfl, hbz⟩ := hcut
      obtain ⟨W7, rfl⟩ : ∃ W7 : World, W7 = wc := ⟨_, rfl⟩
      cases mu
      · go_upto_region 15 with fail
        go_cut [6] (fun s6 wx => TurnRow wx s6 [⟨8, p, n, la, 0⟩, TA] ∧ Below W6.heap.size W6 wx)
        case first =>
          go_region_held3 (fun w' => (w'.cell? ⟨g, q * 4, none⟩ = some (.int .i64 xp) ∧ w'.cell? ⟨g, q * 4 + 1, none⟩ = some (.int .i64 n) ∧ w'.cell? ⟨g, q * 4 + 2, none⟩ = some (.int .i64 la) ∧ w'.cell? ⟨g, q * 4 + 3, none⟩ = some (.bool false)) ∧ (w'.cell? ⟨V.heap.size, 0, none⟩ = some (.int .i64 8) ∧ w'.cell? ⟨V.heap.size, 1, none⟩ = some (.int .i64 p) ∧ w'.cell? ⟨V.heap.size, 2, none⟩ = some (.int .i64 n) ∧ w'.cell? ⟨V.heap.size, 3, none⟩ = some (.int .i64 la) ∧ w'.cell? ⟨V.heap.size, 4, none⟩ = some (.int .u32 0)) ∧ w'.cell? ⟨w.heap.size, 2, none⟩ = some (.int .i64 n) ∧ w'.cell? ⟨b, 1, none⟩ = some (.slice (some ⟨gs, offs, none⟩) NP pc) ∧ w'.cell? ⟨gs, offs + m * 4 + 3, none⟩ = some (.bool false) ∧ Below W6.heap.size W6 w') (first | (exact KEEP3.out _ (by with_reducible assumption)) | (exact KEEP3.out _ (Below.drew (by with_reducible assumption))) | (exact KEEP3.out _ (Heap.Below.alloc' (by with_reducible assumption) (Nat.le_refl _) _)) | (exact KEEP3.out _ (Heap.Below.alloc' (Below.drew (by with_reducible assumption)) (Nat.le_refl _) _)) | go_keep) (first | (go_at_call 39; go_split_ands; (with_reducible refine Calls.mono (HASK.out _ (HR6.out.below (by with_reducible assumption))) ?_); rintro e V3 ⟨rfl, hbV⟩; have hbV3 := Heap.Below.call (by with_reducible assumption) (Nat.le_refl _) hbV; unfold turnAgg) | fail)
          go_wp2_with fail
          go_meet
          exact ⟨row_new' _ _ 2 _ ([⟨8, p, n, la, 0⟩, TA].flatMap turnCells) (by decide) rfl, hbV3.alloc hbV3.size _⟩
        case rest =>
          obtain ⟨hrow8, hb8⟩ := hcut
          obtain ⟨va, vc, rfl, -, -⟩ := id hrow8
          go_wp2
          go_ret
          rw [HNP.out]
          exact ⟨⟨_, rfl, hrow8⟩, HR6.out.below hb8, HF6.out.trans ((Fr.of_below _ hb8).mono hw6' (fun _ _ h => h))⟩
      · obtain ⟨-, ⟨t0, t1, t2, t3, t4⟩, -⟩ := KEEP3.out _ hbz
        have hzt : V.heap.size < W7.heap.size := Nat.lt_of_lt_of_le hV6 hbz.size
        go_wp2
        go_ret
        rw [HNP.out]
        exact ⟨⟨_, rfl, row_new' _ _ 1 _ ([⟨8, p, n, la, 0⟩].flatMap turnCells) (by decide) rfl⟩, (HR6.out.below hbz).alloc _, (HF6.out.trans ((Fr.of_below _ hbz).mono hw6' (fun _ _ h => h))).alloc (Nat.le_trans hw6' hbz.size) _⟩
  · have HNP : Hid (T.change ⟨kd, p, n, la, nm, ss⟩ 8 = ([⟨8, p, n, la, 0⟩], T1)) := by show _ = _; rw [HCH.out, HPAU.out]; simp
    obtain ⟨⟨-, -, -, z3⟩, ⟨t0, t1, t2, t3, t4⟩, -⟩ := KEEP3.out _ hb0
    clear hb0 hsz6 hsz5
    go_wp2_with fail
    go_quiet (fail)
    go_wp2
    go_ret
    rw [HNP.out]
    exact ⟨⟨_, rfl, row_new' _ _ 1 _ ([⟨8, p, n, la, 0⟩].flatMap turnCells) (by decide) rfl⟩, (HR6.out.below (below_drewN (Below.refl _ _) _)).alloc _, (Fr.drewN HF6.out _).alloc hw6' _⟩
end Go.Proofs.Rm
