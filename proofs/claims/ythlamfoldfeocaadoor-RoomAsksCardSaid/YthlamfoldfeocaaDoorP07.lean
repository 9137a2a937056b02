/- Several texts in one: The walk of package room's Table. The walks of the reference's room: endSub. The walks of package room, each function once: hears, about. The walks of package room, each function once: about. -/
import Derived.Deep.RegionLaw
import Derived.IntWalk
import Derived.Test.YthlamfoldfeocaaDoorP02
import Derived.Test.YthlamfoldfeocaaDoorP03
import Derived.Test.YthlamfoldfeocaaDoorP04
import Derived.Test.YthlamfoldfeocaaDoorP06
namespace Go.Proofs.Rm
open Go.RowKit Go.Proofs.Heap Go.Proofs.Mem
theorem owns_grown {base base2 : Nat} {e e2 : TypeId} {size size2 : Nat} {v vo : Value} {n m : Nat} {xs ys : List Value} {w w' : World} (h : w.ownsRow base e size v n xs) (ho : w.ownsRow base2 e2 size2 vo m ys) (hg : w.grownBy w' vo.ownBlock) (hne : e ≠ e2) : w'.ownsRow base e size v n xs := by
  obtain ⟨h1, h2⟩ := h
  refine ⟨h1, ?_⟩
  rcases h2 with h2 | ⟨g, cap, cur, hv, hgb, hh, r⟩
  · exact Or.inl h2
  · have hlt : g < w.heap.size := by
      rcases Nat.lt_or_ge g w.heap.size with h | h
      · exact h
      · rw [Array.getElem?_eq_none h] at hh; cases hh
    refine Or.inr ⟨g, cap, cur, hv, hgb, ?_, r⟩
    rw [hg.block g hlt]
    · exact hh
    · intro e1
      obtain ⟨_, ho⟩ := ho
      rcases ho with ⟨rfl, _⟩ | ⟨g2, cap2, cur2, rfl, _, hh2, _⟩
      · cases e1
      · have e1 : some g = some g2 := e1
        cases e1
        rw [hh] at hh2
        exact cells_ne hne hh2
theorem own_form {base : Nat} {e : TypeId} {size : Nat} {v : Value} {n : Nat} {xs : List Value} {w : World} (h : w.ownsRow base e size v n xs) : ∃ a c, v = .slice a n c := by
  obtain ⟨_, h⟩ := h
  rcases h with ⟨rfl, rfl⟩ | ⟨g, cap, cur, rfl, _⟩
  · exact ⟨_, _, rfl⟩
  · exact ⟨_, _, rfl⟩
theorem tSubs_len (R : Room) : ∀ k, (tSubs R k).length ≤ k * 9
  | 0 => Nat.le_refl _
  | k + 1 => by
    rw [tSubs_succ, List.length_append]
    have := tSubs_len R k
    have := subs_len R k
    unfold tSubs1
    rw [List.length_map]
    omega
theorem set3 {w : World} {b : Nat} {u0 u1 u2 v0 v1 v2 : Value} (h0 : w.cell? ⟨b, 0, none⟩ = some u0) (h1 : w.cell? ⟨b, 1, none⟩ = some u1) (h2 : w.cell? ⟨b, 2, none⟩ = some u2) :
    (((w.setCell ⟨b, 0, none⟩ v0).setCell ⟨b, 1, none⟩ v1).setCell ⟨b, 2, none⟩ v2).cell? ⟨b, 0, none⟩ = some v0 ∧ (((w.setCell ⟨b, 0, none⟩ v0).setCell ⟨b, 1, none⟩ v1).setCell ⟨b, 2, none⟩ v2).cell? ⟨b, 1, none⟩ = some v1 ∧ (((w.setCell ⟨b, 0, none⟩ v0).setCell ⟨b, 1, none⟩ v1).setCell ⟨b, 2, none⟩ v2).cell? ⟨b, 2, none⟩ = some v2 := by
  have e01 : (⟨b, 0, none⟩ : Addr) ≠ ⟨b, 1, none⟩ := by simp
  have e02 : (⟨b, 0, none⟩ : Addr) ≠ ⟨b, 2, none⟩ := by simp
  have e12 : (⟨b, 1, none⟩ : Addr) ≠ ⟨b, 2, none⟩ := by simp
  refine ⟨?_, ?_, ?_⟩
  · rw [World.cell?_setCell_other _ _ _ _ (by simp), World.cell?_setCell_other _ _ _ _ (by simp), World.cell?_setCell_same _ _ _ h0]
  · rw [World.cell?_setCell_other _ _ _ _ (by simp), World.cell?_setCell_same (u := u1)]
    rw [World.cell?_setCell_other _ _ _ _ (by simp)]; exact h1
  · rw [World.cell?_setCell_same (u := u2)]
    rw [World.cell?_setCell_other _ _ _ _ (by simp), World.cell?_setCell_other _ _ _ _ (by simp)]; exact h2
/-- What a walk that fills a table keeps. -/
structure TG (w w' : World) (pv sv uv : Value) (P : List TPeer) (ms : List (TSrc × Value)) (us : List TSub) : Prop where
  tb : TB w w' pv sv uv
  pe : w'.ownsRow (w.heap.size + 2) 66 2 pv P.length (P.flatMap peerCells)
  sr : w'.ownsRow (w.heap.size + 2) 44 4 sv ms.length (ms.flatMap tsrcCells)
  rows : ∀ m ∈ ms, Row w' 23 m.2 m.1.ss.length (u32s m.1.ss)
  su : w'.ownsRow (w.heap.size + 2) 48 4 uv us.length (us.flatMap tsubCells)
section
variable {w w1 w2 : World} {pv sv uv : Value} {P : List TPeer} {ms : List (TSrc × Value)} {us : List TSub}
theorem TG.below (h : TG w w1 pv sv uv P ms us) (hb : Below w1.heap.size w1 w2) : TG w w2 pv sv uv P ms us :=
  ⟨h.tb.below hb, owns_below h.pe hb, owns_below h.sr hb, fun m hm => (h.rows m hm).below hb, owns_below h.su hb⟩
theorem TG.alloc (h : TG w w1 pv sv uv P ms us) (o : Obj) : TG w (w1.alloc o) pv sv uv P ms us := h.below (below_alloc _ _)
theorem TG.drew (h : TG w w1 pv sv uv P ms us) : TG w w1.drew pv sv uv P ms us := h.below (Below.refl _ _).drew
theorem tb_typ (h : TB w w1 pv sv uv) {e : TypeId} (he : e ≠ 61) : ∀ k c fr, k = w.heap.size + 1 → w1.heap[k]? ≠ some (.cells c e fr) := by
  intro k c fr hk
  subst hk
  rw [h.blk]
  exact cells_ne (fun h => he h.symm)
theorem TG.set (h : TG w w1 pv sv uv P ms us) (j : Nat) (v : Value) {pv' sv' uv' : Value} (h0 : pv' = if j = 0 then v else pv) (h1 : sv' = if j = 1 then v else sv) (h2 : uv' = if j = 2 then v else uv) {P' : List TPeer} {ms' : List (TSrc × Value)} {us' : List TSub}
    (g0 : w1.ownsRow (w.heap.size + 2) 66 2 pv' P'.length (P'.flatMap peerCells)) (g1 : w1.ownsRow (w.heap.size + 2) 44 4 sv' ms'.length (ms'.flatMap tsrcCells)) (gr : ∀ m ∈ ms', Row w1 23 m.2 m.1.ss.length (u32s m.1.ss))
    (g2 : w1.ownsRow (w.heap.size + 2) 48 4 uv' us'.length (us'.flatMap tsubCells)) : TG w (w1.setCell ⟨w.heap.size + 1, j, none⟩ v) pv' sv' uv' P' ms' us' := by
  have hf : Fr w1.heap.size (· = w.heap.size + 1) w1 (w1.setCell ⟨w.heap.size + 1, j, none⟩ v) := (Fr.refl _ _ _).setAt _ _
  subst h0 h1 h2
  exact ⟨h.tb.set j v, owns_fr g0 hf (fun k hk => by omega), owns_fr g1 hf (fun k hk => by omega), fun m hm => (gr m hm).fr hf (Nat.le_refl _) (tb_typ h.tb (by decide)), owns_fr g2 hf (fun k hk => by omega)⟩
theorem TG.addPeer (h : TG w w1 pv sv uv P ms us) {v : Value} (x : TPeer) (ho : Hid (w2.ownsRow (w.heap.size + 2) 66 2 v (P.length + 1) (P.flatMap peerCells ++ peerCells x))) (hg : Hid (w1.grownBy w2 pv.ownBlock)) :
    TG w (w2.setCell ⟨w.heap.size + 1, 0, none⟩ v) v sv uv (P ++ [x]) ms us := by
  have h2 : TG w w2 pv sv uv [] ms us ∨ True := Or.inr trivial
  have tb2 : TB w w2 pv sv uv := h.tb.grown h.pe hg.out
  have hf : Fr w2.heap.size (· = w.heap.size + 1) w2 (w2.setCell ⟨w.heap.size + 1, 0, none⟩ v) := (Fr.refl _ _ _).setAt _ _
  refine ⟨tb2.set 0 v, ?_, owns_fr (owns_grown h.sr h.pe hg.out (by decide)) hf (fun k hk => by omega), fun m hm => (Row.grown (h.rows m hm) h.pe hg.out (by decide)).fr hf (Nat.le_refl _) (tb_typ tb2 (by decide)), owns_fr (owns_grown h.su h.pe hg.out (by decide)) hf (fun k hk => by omega)⟩
  have := owns_fr ho.out hf (fun k hk => by omega)
  rw [List.length_append, List.flatMap_append]
  simpa using this
theorem TG.addSrc (h : TG w w1 pv sv uv P ms us) {v : Value} (x : TSrc × Value) (hr : Row w1 23 x.2 x.1.ss.length (u32s x.1.ss)) (ho : Hid (w2.ownsRow (w.heap.size + 2) 44 4 v (ms.length + 1) (ms.flatMap tsrcCells ++ tsrcCells x))) (hg : Hid (w1.grownBy w2 sv.ownBlock)) :
    TG w (w2.setCell ⟨w.heap.size + 1, 1, none⟩ v) pv v uv P (ms ++ [x]) us := by
  have tb2 : TB w w2 pv sv uv := h.tb.grown h.sr hg.out
  have hf : Fr w2.heap.size (· = w.heap.size + 1) w2 (w2.setCell ⟨w.heap.size + 1, 1, none⟩ v) := (Fr.refl _ _ _).setAt _ _
  refine ⟨tb2.set 1 v, owns_fr (owns_grown h.pe h.sr hg.out (by decide)) hf (fun k hk => by omega), ?_, ?_, owns_fr (owns_grown h.su h.sr hg.out (by decide)) hf (fun k hk => by omega)⟩
  · have := owns_fr ho.out hf (fun k hk => by omega)
    rw [List.length_append, List.flatMap_append]
    simpa using this
  · intro m hm
    have hm' : Row w1 23 m.2 m.1.ss.length (u32s m.1.ss) := by
      rcases List.mem_append.1 hm with hm | hm
      · exact h.rows m hm
      · rw [List.mem_singleton] at hm; subst hm; exact hr
    exact (Row.grown hm' h.sr hg.out (by decide)).fr hf (Nat.le_refl _) (tb_typ tb2 (by decide))
theorem TG.addSub (h : TG w w1 pv sv uv P ms us) {v : Value} (x : TSub) (ho : Hid (w2.ownsRow (w.heap.size + 2) 48 4 v (us.length + 1) (us.flatMap tsubCells ++ tsubCells x))) (hg : Hid (w1.grownBy w2 uv.ownBlock)) :
    TG w (w2.setCell ⟨w.heap.size + 1, 2, none⟩ v) pv sv v P ms (us ++ [x]) := by
  have tb2 : TB w w2 pv sv uv := h.tb.grown h.su hg.out
  have hf : Fr w2.heap.size (· = w.heap.size + 1) w2 (w2.setCell ⟨w.heap.size + 1, 2, none⟩ v) := (Fr.refl _ _ _).setAt _ _
  refine ⟨tb2.set 2 v, owns_fr (owns_grown h.pe h.su hg.out (by decide)) hf (fun k hk => by omega), owns_fr (owns_grown h.sr h.su hg.out (by decide)) hf (fun k hk => by omega), fun m hm => (Row.grown (h.rows m hm) h.su hg.out (by decide)).fr hf (Nat.le_refl _) (tb_typ tb2 (by decide)), ?_⟩
  have := owns_fr ho.out hf (fun k hk => by omega)
  rw [List.length_append, List.flatMap_append]
  simpa using this
theorem TG.grownTB_p (h : TG w w1 pv sv uv P ms us) (hg : Hid (w1.grownBy w2 pv.ownBlock)) : TB w w2 pv sv uv := h.tb.grown h.pe hg.out
theorem TG.grownTB_s (h : TG w w1 pv sv uv P ms us) (hg : Hid (w1.grownBy w2 sv.ownBlock)) : TB w w2 pv sv uv := h.tb.grown h.sr hg.out
theorem TG.grownTB_u (h : TG w w1 pv sv uv P ms us) (hg : Hid (w1.grownBy w2 uv.ownBlock)) : TB w w2 pv sv uv := h.tb.grown h.su hg.out
end
theorem peer_one (x : TPeer) : ∀ u ∈ peerCells x, u.oneCell' = true := by
  intro u hu
  simp only [peerCells, List.mem_cons, List.mem_nil_iff, or_false] at hu
  rcases hu with rfl | rfl <;> rfl
theorem tsub_one (x : TSub) : ∀ u ∈ tsubCells x, u.oneCell' = true := by
  intro u hu
  simp only [tsubCells, List.mem_cons, List.mem_nil_iff, or_false] at hu
  rcases hu with rfl | rfl | rfl | rfl <;> rfl
theorem tsrc_one (x : TSrc) (a : Option Addr) (n c : Nat) : ∀ u ∈ tsrcCells (x, .slice a n c), u.oneCell' = true := by
  intro u hu
  simp only [tsrcCells, List.mem_cons, List.mem_nil_iff, or_false] at hu
  rcases hu with rfl | rfl | rfl | rfl <;> rfl
set_option maxRecDepth 100000 in
set_option maxHeartbeats 4000000 in
theorem Table_any (b : Nat) (R : Room) (w : World) (hR : RoomAt w b R) (hl : ∀ n, (R.src n).ss.length ≤ 1000000) :
    Calls Tryd.prog 25 #[.pointer (some ⟨b, 0, none⟩)] w fun e w' => (∃ pv sv uv, e = .returned (.agg #[pv, sv, uv]) ∧ TabAt w' pv sv uv (table R)) ∧ Below w.heap.size w w' := by
  have hb := hR.lt
  have HR : Hid (∀ w', Below w.heap.size w w' → RoomAt w' b R) := fun w' h => hR.below h
  have HLS : Hid (∀ n, (R.src n).ss.length ≤ 1000000) := hl
  clear hR hl
  go_enter Tryd.func25, Tryd.ntmps25
  go_wp2
  go_loopw [12] (fun i w' => ∃ k : Nat, k ≤ 9 ∧ i = .int .i64 k ∧ ∃ pv, TG w w' pv (.slice none 0 0) (.slice none 0 0) (tPeers R k) [] []) (fun i _ => 9 - (intOf i).toNat)
  case atStart => exact ⟨0, by omega, rfl, _, ⟨⟨((Below.refl _ _).alloc (Nat.le_refl _) _).alloc (by simp) _, (two_new w _ _).2, (two_new w _ _).1⟩, World.ownsRow_nil _ _ _ _, World.ownsRow_nil _ _ _ _, fun m hm => by simp at hm, World.ownsRow_nil _ _ _ _⟩⟩
  case round =>
    obtain ⟨k, hk, rfl, pv, htg⟩ := hrel
    have HTG := Lib.hid htg
    have hsz := htg.tb.size
    have HROOM := Lib.hid (HR.out _ htg.tb.bel)
    clear htg
    by_cases hk9 : k < 9
    · have HS := Lib.hid (tPeers_succ R k)
      have HGL := tPeers_len R k
      have CJ := Lib.hid (Joined_any b R k wr HROOM.out)
      have cn := HROOM.out.namec hk9
      have cp := HTG.out.tb.cells.1
      have fp := HTG.out.tb.frozen 0
      generalize tPeers R k = G at *
      cases hj : joined R k
      · have HF : Hid (tPeers R (k + 1) = G) := by show _ = _; rw [HS.out, hj]; simp
        rw [hj] at CJ
        clear hj
        go_wp2_with (go_at_call 20; refine CJ.out.mono ?_; rintro e w1 ⟨rfl, rfl⟩)
        go_roundw
        case rel => exact ⟨k + 1, by omega, by go_num, pv, by rw [HF.out]; exact HTG.out⟩
        case measure => simp [intOf]; omega
      · have HF : Hid (tPeers R (k + 1) = G ++ [⟨k, R.names k⟩]) := by show _ = _; rw [HS.out, hj]; simp
        rw [hj] at CJ
        clear hj
        go_wp2_with (go_at_call 20; refine CJ.out.mono ?_; rintro e w1 ⟨rfl, rfl⟩)
        go_region_law (first | (refine step_app (by rfl) (.tmp 19) (.tmp 28) 28 (by rfl) (w.heap.size + 2) elemPeer _ G.length (G.flatMap peerCells) (by rfl) ?_ _ 1 (peerCells ⟨k, R.names k⟩) (by rfl) ?_ (by rfl) (peer_one _) (by omega) (by omega) ?_ ?_; (refine TG.pe (sv := .slice none 0 0) (uv := .slice none 0 0) (P := G) (ms := []) (us := []) ?_; (repeat (first | exact HTG.out | refine TG.drew ?_ | refine TG.alloc ?_ _))); (repeat (first | exact row_new' _ _ 1 _ (peerCells ⟨k, R.names k⟩) (by decide) rfl | refine Row.drew ?_)); (simp; omega); intro v' w3 HO HG; have tb3 := TG.grownTB_p (w := w) (sv := .slice none 0 0) (uv := .slice none 0 0) (P := G) (ms := []) (us := []) (by (repeat (first | exact HTG.out | refine TG.drew ?_ | refine TG.alloc ?_ _))) HG; have c3 := tb3.cells.1; have f3 := tb3.frozen 0; obtain ⟨va, vc, hv⟩ := own_form HO.out; subst hv))
        all_goals
          go_wp2
          refine ⟨⟨k + 1, by omega, by go_num, _, by rw [HF.out]; exact TG.addPeer (w1 := _) (by repeat (first | exact HTG.out | refine TG.drew ?_ | refine TG.alloc ?_ _)) ⟨k, R.names k⟩ HO HG⟩, by simp [intOf]; omega⟩
    · obtain rfl : k = 9 := by omega
      have HTAB : Hid (table R = ⟨tPeers R 9, tSrcs R 9, tSubs R 9⟩) := rfl
      generalize tPeers R 9 = PP at *
      obtain ⟨wo, rfl⟩ : ∃ wo : World, wo = wr := ⟨_, rfl⟩
      clear HROOM
      go_wp2
      go_loopw [32] (fun i w' => ∃ k : Nat, k ≤ 9 ∧ i = .int .i64 k ∧ ∃ sv uv ms, TG w w' pv sv uv PP ms (tSubs R k) ∧ Hid (ms.map Prod.fst = tSrcs R k)) (fun i _ => 9 - (intOf i).toNat)
      case atStart => exact ⟨0, by omega, rfl, _, _, [], HTG.out, rfl⟩
      case round =>
        clear HTG hsz
        obtain ⟨k, hk, rfl, sv, uv, ms, htg, HMS⟩ := hrel
        have HTG := Lib.hid htg
        have hsz := htg.tb.size
        have HROOM := Lib.hid (HR.out _ htg.tb.bel)
        clear htg
        by_cases hk9 : k < 9
        · have HSS := Lib.hid (tSrcs_succ R k)
          have HML : ms.length ≤ 9 := by have h1 := congrArg List.length HMS.out; rw [List.length_map] at h1; have h2 := tSrcs_len R k; omega
          have HSL := tSubs_len R k
          cases hh : hasSrc R k
          · have hh' : (inn (k : Int) 9 && (R.src ((k : Int)).toNat).there) = false := hh
            have CN := Lib.hid (Source_no b R k wr HROOM.out hh')
            have HM2 : Hid (ms.map Prod.fst = tSrcs R (k + 1)) := by show _ = _; rw [HSS.out, hh, HMS.out]; simp
            clear hh hh'
            obtain ⟨sv2, hsv2⟩ : ∃ sv2, sv2 = sv := ⟨_, rfl⟩
            subst hsv2
            obtain ⟨ms2, hms2⟩ : ∃ ms2, ms2 = ms := ⟨_, rfl⟩
            subst hms2
            go_wp2_with fail
            refine CN.out.mono ?_
            rintro e w2 ⟨rfl, hb2⟩
            have HTG2 := Lib.hid ((HTG.out.below hb2).alloc (.cells #[.int .i64 0, .int .i64 0, .slice none 0 0, .bool false] 44))
            clear hb2
            have HL := subs_len R k
            have HMEM : Hid (∀ j, j < (subs R k).length → (subs R k).getD j 0 < 9 ∧ hears R ((subs R k).getD j 0 : Nat) k = true) := fun j h => by
              refine ⟨subs_mem h, ?_⟩
              rw [List.getD_eq_getElem?_getD, List.getElem?_eq_getElem h]
              exact (List.mem_filter.1 (List.getElem_mem h)).2
            have HTS := Lib.hid (tSubs_succ R k)
            have HUL : Hid (∀ m, (tSubs1 R k ((subs R k).take m)).length ≤ 9) := fun m => by unfold tSubs1; rw [List.length_map, List.length_take]; omega
            have HUS : Hid (∀ j, j < (subs R k).length → tSubs1 R k ((subs R k).take (j + 1)) = tSubs1 R k ((subs R k).take j) ++ [⟨((subs R k).getD j 0 : Nat), k, (R.sub k ((subs R k).getD j 0)).want, (R.sub k ((subs R k).getD j 0)).paused⟩]) := fun j h => by
              unfold tSubs1; rw [take_snoc h, List.map_append]; rfl
            have CSB : Hid (∀ (p : Nat) w1, hears R p k = true → Below w.heap.size w w1 → Calls Tryd.prog 17 #[.pointer (some ⟨b, 0, none⟩), .int .i64 p, .int .i64 k] w1 fun e w' => e = .returned (.tuple #[.agg #[.int .i64 p, .int .i64 k, .int .i64 (R.sub k p).want, .bool (R.sub k p).paused], .bool true]) ∧ Below w1.heap.size w1 w') := fun p w1 hh h => by
              have cs := Sub_any b R p k w1 (HR.out w1 h)
              rw [hh, if_pos rfl, Int.toNat_natCast, Int.toNat_natCast] at cs
              exact cs
            go_wp2_with fail
            refine (Subs_any b R k _ (HR.out _ HTG2.out.tb.bel)).mono ?_
            rintro e w3 ⟨⟨lv, rfl, hrow⟩, hb3⟩
            have HTG3 := Lib.hid (HTG2.out.below hb3)
            have HROW := Lib.hid hrow
            obtain ⟨la, lcap, rfl, hx⟩ := hrow
            clear hx hb3
            generalize subs R k = L at *
            go_wp2_with fail
            go_loopw [52] (fun i w' => ∃ j : Nat, j ≤ L.length ∧ i = .int .i64 j ∧ ∃ uv', TG w w' pv sv2 uv' PP ms2 (tSubs R k ++ tSubs1 R k (L.take j)) ∧ Row w' 3 (.slice la L.length lcap) L.length (ints L)) (fun i _ => L.length - (intOf i).toNat)
            case atStart => exact ⟨0, by omega, rfl, uv, by rw [List.take_zero]; show TG _ _ _ _ _ _ _ (tSubs R k ++ []); rw [List.append_nil]; exact HTG3.out, HROW.out⟩
            case round =>
              clear HTG HTG2 HTG3 HROW HROOM
              obtain ⟨j, hj, rfl, uv', htg, hrow⟩ := hrel
              have HTG := Lib.hid htg
              have hsz := htg.tb.size
              have hbel := Lib.hid htg.tb.bel
              have HROW := Lib.hid hrow
              clear htg
              by_cases hjl : j < L.length
              · obtain ⟨g, off, cap, e1, hg, hcells⟩ := int_open hrow (by omega)
                cases e1
                have hc := hcells j hjl
                have HM := Lib.hid (HMEM.out j hjl)
                have HU := Lib.hid (HUS.out j hjl)
                have hul := HUL.out j
                have hul2 := HSL
                clear hcells hrow
                generalize L.getD j 0 = p at *
                have CS := Lib.hid (fun w1 (h : Below w.heap.size w w1) => CSB.out p w1 HM.out.2 h)
                generalize (R.sub k p).want = wa at *
                generalize (R.sub k p).paused = pa at *
                have hlen : (tSubs R k ++ tSubs1 R k (L.take j)).length ≤ 90 := by rw [List.length_append]; omega
                generalize hUU : tSubs R k ++ tSubs1 R k (L.take j) = UU at *
                have HUU := Lib.hid hUU
                clear hUU
                go_wp2_with (first | (go_at_call 17; refine (CS.out _ hbel.out).mono ?_; rintro e w4 ⟨rfl, hb4⟩; have HTG4 := Lib.hid (HTG.out.below hb4); have hs4 := HTG4.out.tb.size; have c4 := HTG4.out.tb.cells.2.2; have f4 := HTG4.out.tb.frozen 2; have HROW4 := Lib.hid (HROW.out.below hb4); clear hb4) | (at_builtin; refine wpList_app rfl (.tmp 64) (.tmp 66) 30 rfl (w.heap.size + 2) elemSub _ UU.length (UU.flatMap tsubCells) rfl (by exact ((HTG4.out.alloc _).alloc _).su) _ 1 (tsubCells ⟨p, k, wa, pa⟩) rfl (by exact row_new' _ _ 1 _ (tsubCells ⟨p, k, wa, pa⟩) (by decide) (by simp)) rfl (tsub_one _) (by omega) (by omega) (by simp; omega) (fun v' w5 HO HG => ?_); have tb5 := TG.grownTB_u (w := w) (pv := pv) (sv := sv2) (P := PP) (ms := ms2) (us := UU) (by repeat (first | exact HTG4.out | refine TG.drew ?_ | refine TG.alloc ?_ _)) HG; have c5 := tb5.cells.2.2; have f5 := tb5.frozen 2; obtain ⟨va, vc, hv⟩ := own_form HO.out; subst hv))
                go_roundw
                case rel =>
                  have htg4 := (HTG4.out.alloc (.cells #[.int .i64 p, .int .i64 k, .int .i64 wa, .bool pa] 48)).alloc (.cells #[.int .i64 p, .int .i64 k, .int .i64 wa, .bool pa] 48)
                  refine ⟨j + 1, by omega, by go_num, .slice va (UU.length + 1) vc, ?_, ?_⟩
                  · rw [HU.out, ← List.append_assoc, HUU.out]
                    exact htg4.addSub ⟨p, k, wa, pa⟩ HO HG
                  · exact (Row.grown ((HROW4.out.below (below_alloc _ _)).below (below_alloc _ _)) htg4.su HG.out (by decide)).fr ((Fr.refl _ (· = w.heap.size + 1) _).setAt _ _) (Nat.le_refl _) (tb_typ tb5 (by decide))
                case measure => simp [intOf]; omega
              · have hkk : j = L.length := by omega
                have hT : L.take j = L := by rw [hkk, List.take_length]
                rw [hT] at HTG
                clear hT hrow
                go_wp2
                go_roundw
                case rel =>
                  repeat apply Exists.intro
                  refine ⟨?_, rfl⟩
                  exact ⟨k + 1, by omega, by go_num, sv2, uv', ms2, by rw [HTS.out]; exact HTG.out, HM2.out⟩
                case measure => simp [intOf]; omega
          · have hhs : inn (k : Int) 9 = true ∧ (R.src k).there = true := by unfold hasSrc at hh; rw [Bool.and_eq_true] at hh; exact hh
            have hk1 := inn_nat.1 hhs.1
            have CY := Lib.hid (Source_yes b R k wr HROOM.out ⟨hk1.1, hk9⟩ hhs.2 (HLS.out k))
            have HSS2 : Hid (tSrcs R (k + 1) = tSrcs R k ++ [⟨(R.src k).num, (R.src k).own, (R.src k).ss, (R.src k).muted⟩]) := by show _ = _; rw [HSS.out, hh]; simp
            clear hh hhs hk1 HSS
            generalize (R.src k).num = u1 at *
            generalize (R.src k).own = u2 at *
            generalize (R.src k).ss = u3 at *
            generalize (R.src k).muted = u4 at *
            go_wp2_with fail
            refine CY.out.mono ?_
            rintro e w2 ⟨⟨cv, rfl, hcr⟩, hb2⟩
            have HCR := Lib.hid hcr
            obtain ⟨ca, cc, rfl, hx⟩ := hcr
            clear hx
            have HTGb := Lib.hid (HTG.out.below hb2)
            have hs2 := HTGb.out.tb.size
            have cb := HTGb.out.tb.cells.2.1
            have fb := HTGb.out.tb.frozen 1
            clear hb2
            go_wp2_with (at_builtin; refine wpList_app rfl (.tmp 43) (.tmp 45) 29 rfl (w.heap.size + 2) elemSrc _ ms.length (ms.flatMap tsrcCells) rfl (by exact ((HTGb.out.alloc _).alloc _).sr) _ 1 (tsrcCells (⟨u1, u2, u3, u4⟩, .slice ca u3.length cc)) rfl (by exact row_new' _ _ 1 _ (tsrcCells (⟨u1, u2, u3, u4⟩, .slice ca u3.length cc)) (by decide) (by simp)) rfl (tsrc_one _ _ _ _) (by omega) (by omega) (by simp; omega) (fun v' w5 HO HG => ?_); have tb5 := TG.grownTB_s (w := w) (pv := pv) (uv := uv) (P := PP) (ms := ms) (us := tSubs R k) (by repeat (first | exact HTGb.out | refine TG.drew ?_ | refine TG.alloc ?_ _)) HG; have c5 := tb5.cells.2.1; have f5 := tb5.frozen 1; obtain ⟨va, vc, hv⟩ := own_form HO.out; subst hv)
            have htg4 := (HTGb.out.alloc (.cells #[.int .i64 u1, .int .i64 u2, .slice ca u3.length cc, .bool u4] 44)).alloc (.cells #[.int .i64 u1, .int .i64 u2, .slice ca u3.length cc, .bool u4] 44)
            have HTG2 := Lib.hid (htg4.addSrc (⟨u1, u2, u3, u4⟩, .slice ca u3.length cc) ((HCR.out.below (below_alloc _ _)).below (below_alloc _ _)) HO HG)
            have HM2 : Hid ((ms ++ [((⟨u1, u2, u3, u4⟩ : TSrc), Value.slice ca u3.length cc)]).map Prod.fst = tSrcs R (k + 1)) := by show _ = _; rw [List.map_append, HMS.out, HSS2.out]; rfl
            clear htg4 c5 f5 cb fb
            generalize ms ++ [((⟨u1, u2, u3, u4⟩ : TSrc), Value.slice ca u3.length cc)] = ms2 at *
            generalize hsv2 : Value.slice va (ms.length + 1) vc = sv2 at HTG2
            clear hsv2
            have HL := subs_len R k
            have HMEM : Hid (∀ j, j < (subs R k).length → (subs R k).getD j 0 < 9 ∧ hears R ((subs R k).getD j 0 : Nat) k = true) := fun j h => by
              refine ⟨subs_mem h, ?_⟩
              rw [List.getD_eq_getElem?_getD, List.getElem?_eq_getElem h]
              exact (List.mem_filter.1 (List.getElem_mem h)).2
            have HTS := Lib.hid (tSubs_succ R k)
            have HUL : Hid (∀ m, (tSubs1 R k ((subs R k).take m)).length ≤ 9) := fun m => by unfold tSubs1; rw [List.length_map, List.length_take]; omega
            have HUS : Hid (∀ j, j < (subs R k).length → tSubs1 R k ((subs R k).take (j + 1)) = tSubs1 R k ((subs R k).take j) ++ [⟨((subs R k).getD j 0 : Nat), k, (R.sub k ((subs R k).getD j 0)).want, (R.sub k ((subs R k).getD j 0)).paused⟩]) := fun j h => by
              unfold tSubs1; rw [take_snoc h, List.map_append]; rfl
            have CSB : Hid (∀ (p : Nat) w1, hears R p k = true → Below w.heap.size w w1 → Calls Tryd.prog 17 #[.pointer (some ⟨b, 0, none⟩), .int .i64 p, .int .i64 k] w1 fun e w' => e = .returned (.tuple #[.agg #[.int .i64 p, .int .i64 k, .int .i64 (R.sub k p).want, .bool (R.sub k p).paused], .bool true]) ∧ Below w1.heap.size w1 w') := fun p w1 hh h => by
              have cs := Sub_any b R p k w1 (HR.out w1 h)
              rw [hh, if_pos rfl, Int.toNat_natCast, Int.toNat_natCast] at cs
              exact cs
            go_wp2_with fail
            refine (Subs_any b R k _ (HR.out _ HTG2.out.tb.bel)).mono ?_
            rintro e w3 ⟨⟨lv, rfl, hrow⟩, hb3⟩
            have HTG3 := Lib.hid (HTG2.out.below hb3)
            have HROW := Lib.hid hrow
            obtain ⟨la, lcap, rfl, hx⟩ := hrow
            clear hx hb3
            generalize subs R k = L at *
            go_wp2_with fail
            go_loopw [52] (fun i w' => ∃ j : Nat, j ≤ L.length ∧ i = .int .i64 j ∧ ∃ uv', TG w w' pv sv2 uv' PP ms2 (tSubs R k ++ tSubs1 R k (L.take j)) ∧ Row w' 3 (.slice la L.length lcap) L.length (ints L)) (fun i _ => L.length - (intOf i).toNat)
            case atStart => exact ⟨0, by omega, rfl, uv, by rw [List.take_zero]; show TG _ _ _ _ _ _ _ (tSubs R k ++ []); rw [List.append_nil]; exact HTG3.out, HROW.out⟩
            case round =>
              clear HTG HTG2 HTG3 HROW HROOM
              obtain ⟨j, hj, rfl, uv', htg, hrow⟩ := hrel
              have HTG := Lib.hid htg
              have hsz := htg.tb.size
              have hbel := Lib.hid htg.tb.bel
              have HROW := Lib.hid hrow
              clear htg
              by_cases hjl : j < L.length
              · obtain ⟨g, off, cap, e1, hg, hcells⟩ := int_open hrow (by omega)
                cases e1
                have hc := hcells j hjl
                have HM := Lib.hid (HMEM.out j hjl)
                have HU := Lib.hid (HUS.out j hjl)
                have hul := HUL.out j
                have hul2 := HSL
                clear hcells hrow
                generalize L.getD j 0 = p at *
                have CS := Lib.hid (fun w1 (h : Below w.heap.size w w1) => CSB.out p w1 HM.out.2 h)
                generalize (R.sub k p).want = wa at *
                generalize (R.sub k p).paused = pa at *
                have hlen : (tSubs R k ++ tSubs1 R k (L.take j)).length ≤ 90 := by rw [List.length_append]; omega
                generalize hUU : tSubs R k ++ tSubs1 R k (L.take j) = UU at *
                have HUU := Lib.hid hUU
                clear hUU
                go_wp2_with (first | (go_at_call 17; refine (CS.out _ hbel.out).mono ?_; rintro e w4 ⟨rfl, hb4⟩; have HTG4 := Lib.hid (HTG.out.below hb4); have hs4 := HTG4.out.tb.size; have c4 := HTG4.out.tb.cells.2.2; have f4 := HTG4.out.tb.frozen 2; have HROW4 := Lib.hid (HROW.out.below hb4); clear hb4) | (at_builtin; refine wpList_app rfl (.tmp 64) (.tmp 66) 30 rfl (w.heap.size + 2) elemSub _ UU.length (UU.flatMap tsubCells) rfl (by exact ((HTG4.out.alloc _).alloc _).su) _ 1 (tsubCells ⟨p, k, wa, pa⟩) rfl (by exact row_new' _ _ 1 _ (tsubCells ⟨p, k, wa, pa⟩) (by decide) (by simp)) rfl (tsub_one _) (by omega) (by omega) (by simp; omega) (fun v' w5 HO HG => ?_); have tb5 := TG.grownTB_u (w := w) (pv := pv) (sv := sv2) (P := PP) (ms := ms2) (us := UU) (by repeat (first | exact HTG4.out | refine TG.drew ?_ | refine TG.alloc ?_ _)) HG; have c5 := tb5.cells.2.2; have f5 := tb5.frozen 2; obtain ⟨va, vc, hv⟩ := own_form HO.out; subst hv))
                go_roundw
                case rel =>
                  have htg4 := (HTG4.out.alloc (.cells #[.int .i64 p, .int .i64 k, .int .i64 wa, .bool pa] 48)).alloc (.cells #[.int .i64 p, .int .i64 k, .int .i64 wa, .bool pa] 48)
                  refine ⟨j + 1, by omega, by go_num, .slice va (UU.length + 1) vc, ?_, ?_⟩
                  · rw [HU.out, ← List.append_assoc, HUU.out]
                    exact htg4.addSub ⟨p, k, wa, pa⟩ HO HG
                  · exact (Row.grown ((HROW4.out.below (below_alloc _ _)).below (below_alloc _ _)) htg4.su HG.out (by decide)).fr ((Fr.refl _ (· = w.heap.size + 1) _).setAt _ _) (Nat.le_refl _) (tb_typ tb5 (by decide))
                case measure => simp [intOf]; omega
              · have hkk : j = L.length := by omega
                have hT : L.take j = L := by rw [hkk, List.take_length]
                rw [hT] at HTG
                clear hT hrow
                go_wp2
                go_roundw
                case rel =>
                  repeat apply Exists.intro
                  refine ⟨?_, rfl⟩
                  exact ⟨k + 1, by omega, by go_num, sv2, uv', ms2, by rw [HTS.out]; exact HTG.out, HM2.out⟩
                case measure => simp [intOf]; omega
        · obtain rfl : k = 9 := by omega
          have c0 := HTG.out.tb.cells
          obtain ⟨pa, pc, hp⟩ := own_form HTG.out.pe
          obtain ⟨sa, sc, hs⟩ := own_form HTG.out.sr
          obtain ⟨ua, uc, hu⟩ := own_form HTG.out.su
          subst hp hs hu
          obtain ⟨c1, c2, c3⟩ := c0
          have hb0 := HTG.out.tb.blk0
          have d0 : ∀ j, j < 3 → wr.cell? ⟨w.heap.size, j, none⟩ = some (.slice none 0 0) ∧ wr.frozen? ⟨w.heap.size, j, none⟩ = false := by
            intro j hj
            have : j = 0 ∨ j = 1 ∨ j = 2 := by omega
            rcases this with rfl | rfl | rfl <;> exact ⟨by simp only [World.cell?, hb0]; rfl, by simp [World.frozen?, hb0]⟩
          obtain ⟨d1, e1⟩ := d0 0 (by omega)
          obtain ⟨d2, e2⟩ := d0 1 (by omega)
          obtain ⟨d3, e3⟩ := d0 2 (by omega)
          clear d0 hb0
          have R3 := Lib.hid (set3 (v0 := .slice pa PP.length pc) (v1 := .slice sa ms.length sc) (v2 := .slice ua (tSubs R 9).length uc) d1 d2 d3)
          go_wp2
          obtain ⟨r0, r1, r2⟩ := R3.out
          refine bodyPost_ret (v := .agg #[.slice pa PP.length pc, .slice sa ms.length sc, .slice ua (tSubs R 9).length uc]) (by simp [results, Tryd.results25, go_sem, r0, r1, r2]) rfl ⟨⟨_, _, _, rfl, ?_⟩, ?_⟩
          · have hf : Fr wr.heap.size (· = w.heap.size) wr (((wr.setCell ⟨w.heap.size, 0, none⟩ (.slice pa PP.length pc)).setCell ⟨w.heap.size, 1, none⟩ (.slice sa ms.length sc)).setCell ⟨w.heap.size, 2, none⟩ (.slice ua (tSubs R 9).length uc)) := (((Fr.refl _ _ _).setAt _ _).setAt _ _).setAt _ _
            have ht : ∀ e, e ≠ 61 → ∀ k c fr, k = w.heap.size → wr.heap[k]? ≠ some (.cells c e fr) := by
              intro e he k c fr hk
              subst hk
              rw [HTG.out.tb.blk0]
              exact cells_ne (fun h => he h.symm)
            rw [HTAB.out]
            exact TabAt.fr ⟨Row.of_owns HTG.out.pe, ⟨ms, HMS.out, Row.of_owns HTG.out.sr, HTG.out.rows⟩, Row.of_owns HTG.out.su⟩ hf (Nat.le_refl _) (ht _ (by decide)) (ht _ (by decide)) (ht _ (by decide)) (ht _ (by decide))
          · exact ((HTG.out.tb.bel.setCell (by simp) _).setCell (by simp) _).setCell (by simp) _
end Go.Proofs.Rm
namespace Go.Proofs.Rm
open Go.RowKit Go.Proofs.Heap Go.Proofs.Mem
theorem tsubs_one (l : List TSub) : ∀ u ∈ l.flatMap tsubCells, u.oneCell' = true := by
  intro u hu
  obtain ⟨x, _, hx⟩ := List.mem_flatMap.1 hu
  exact tsub_one x u hx
theorem tsubs_len (l : List TSub) : (l.flatMap tsubCells).length = l.length * 4 := flat_length tsubCells 4 (fun _ => rfl) l
theorem flat_take {α : Type} (f : α → List Value) (k : Nat) (hk : ∀ x, (f x).length = k) (l : List α) (n : Nat) : (l.flatMap f).take (n * k) = (l.take n).flatMap f := by
  by_cases h : n ≤ l.length
  · conv => lhs; rw [← List.take_append_drop n l, List.flatMap_append]
    rw [List.take_append_of_le_length (by rw [flat_length f k hk, List.length_take, Nat.min_eq_left h]; exact Nat.le_refl _), List.take_of_length_le (by rw [flat_length f k hk, List.length_take, Nat.min_eq_left h]; exact Nat.le_refl _)]
  · rw [List.take_of_length_le (by rw [flat_length f k hk]; exact Nat.mul_le_mul_right k (by omega)), List.take_of_length_le (by omega)]
theorem flat_drop {α : Type} (f : α → List Value) (k : Nat) (hk : ∀ x, (f x).length = k) (l : List α) (n : Nat) : (l.flatMap f).drop (n * k) = (l.drop n).flatMap f := by
  by_cases h : n ≤ l.length
  · conv => lhs; rw [← List.take_append_drop n l, List.flatMap_append]
    rw [List.drop_append_of_le_length (by rw [flat_length f k hk, List.length_take, Nat.min_eq_left h]; exact Nat.le_refl _), List.drop_of_length_le (by rw [flat_length f k hk, List.length_take, Nat.min_eq_left h]; exact Nat.le_refl _), List.nil_append]
  · rw [List.drop_of_length_le (by rw [flat_length f k hk]; exact Nat.mul_le_mul_right k (by omega)), List.drop_of_length_le (by omega)]; rfl
theorem turn_box {w w3 : World} {cs : Array Value} {e : TypeId} (h : Below (w.heap.size + 1) (w.alloc (.cells cs e)) w3) (j : Nat) : w3.cell? ⟨w.heap.size, j, none⟩ = cs[j]? ∧ w3.frozen? ⟨w.heap.size, j, none⟩ = false := by
  have hb := h.block w.heap.size (by omega)
  rw [heap_new] at hb
  exact ⟨by simp only [World.cell?, hb]; rfl, by simp [World.frozen?, hb]⟩
/-- Block g holds a turn, or turns. -/
def TurnBlk (w : World) (g : Nat) : Prop := ∃ c f, w.heap[g]? = some (.cells c 59 f)
theorem TurnBlk.set {w : World} {g : Nat} (h : TurnBlk w g) (a : Addr) (u : Value) : TurnBlk (w.setCell a u) g := by
  obtain ⟨c, f, h⟩ := h
  unfold TurnBlk
  by_cases e : a.block = g
  · subst e
    simp [World.setCell, Array.getElem?_modify, h]
  · refine ⟨c, f, ?_⟩
    simp [World.setCell, Array.getElem?_modify, e, h]
theorem TurnBlk.drew {w : World} {g : Nat} (h : TurnBlk w g) : TurnBlk w.drew g := h
theorem TurnBlk.of_below {w w3 : World} {cs : Array Value} (h : Below (w.heap.size + 1) (w.alloc (.cells cs 59)) w3) : TurnBlk w3 w.heap.size := by
  have hb := h.block w.heap.size (by omega)
  rw [heap_new] at hb
  exact ⟨_, _, hb⟩
theorem RefAt.setTurn {w : World} {b : Nat} {T : Tab} (h : RefAt w b T) {g : Nat} (hg : TurnBlk w g) (j : Nat) (u : Value) : RefAt (w.setCell ⟨g, j, none⟩ u) b T := by
  obtain ⟨c, f, hg⟩ := hg
  have hf : Fr w.heap.size (· = g) w (w.setCell ⟨g, j, none⟩ u) := (Fr.refl _ _ _).setAt _ _
  have hty : ∀ e, 59 ≠ e → ∀ k c fr, k = g → w.heap[k]? ≠ some (.cells c e fr) := by
    intro e he k c fr hk
    subst hk
    rw [hg]
    exact cells_ne he
  have hb := h.lt
  obtain ⟨pv, sv, uv, hc, ht⟩ := h.vals
  exact ⟨pv, sv, uv, by rw [hf.block b hb (fun e => hty _ (by decide) b _ _ e hc)]; exact hc, ht.fr hf (Nat.le_refl _) (hty _ (by decide)) (hty _ (by decide)) (hty _ (by decide)) (hty _ (by decide))⟩
theorem RefAt.drew {w : World} {b : Nat} {T : Tab} (h : RefAt w b T) : RefAt w.drew b T := h.below (Below.refl _ _).drew
theorem RefAt.alloc {w : World} {b : Nat} {T : Tab} (h : RefAt w b T) (o : Obj) : RefAt (w.alloc o) b T := h.below (below_alloc _ _)
set_option maxRecDepth 100000 in
set_option maxHeartbeats 4000000 in
theorem endSub_any (b : Nat) (T : Tab) (p n : Int) (w : World) (hR : RefAt w b T) (hs : T.Small) (hh : 0 ≤ T.subAt p n) :
    Calls Tryd.prog 40 #[.pointer (some ⟨b, 0, none⟩), .int .i64 p, .int .i64 n] w fun e w' => e = .returned (turnAgg ⟨2, p, n, 0, 0⟩) ∧ RefAt w' b (T.endSub p n) ∧ Fr w.heap.size (· = b) w w' := by
  obtain ⟨k, hk, hke, -, -⟩ := findAt_at hh
  have hke : T.subAt p n = k := hke
  have CS := Lib.hid (fun (w1 : World) (h : Below w.heap.size w w1) => SubAt_any b T p n w1 (hR.below h))
  rw [hke] at CS
  have hb := hR.lt
  have HR := Lib.hid hR
  have HE : Hid (T.endSub p n = { T with subs := T.subs.take k ++ T.subs.drop (k + 1) }) := by show _ = _; unfold Tab.endSub; rw [hke, Int.toNat_natCast, List.eraseIdx_eq_take_drop_succ]
  have hsm := hs.subs
  unfold small at hsm
  obtain ⟨pv, sv, uv, hcell, htab⟩ := hR.vals
  have hrow := htab.subs
  have hlen := hrow.len
  obtain ⟨a, cap, rfl, hncap, hcm, -, -⟩ := id hrow
  obtain ⟨a1, run1, row1, _⟩ := slice_to elemSub a T.subs.length cap k (by omega)
  obtain ⟨a2, run2, row2, _⟩ := slice_from elemSub a T.subs.length cap (k + 1) (by omega) hncap
  rw [show (((k + 1 : Nat) : Int)) = (k : Int) + 1 by omega] at run2
  have HW1 : Hid (∀ w', Below w.heap.size w w' → Row w' 48 (.slice a1 k cap) k ((T.subs.take k).flatMap tsubCells)) := fun w' h => by
    have := row1 w' _ (by omega) (tsubs_len _) (hrow.below h)
    rwa [flat_take tsubCells 4 (fun _ => rfl)] at this
  have HW2 : Hid (∀ w', Below w.heap.size w w' → Row w' 48 (.slice a2 (T.subs.length - (k + 1)) (cap - (k + 1))) (T.subs.length - (k + 1)) ((T.subs.drop (k + 1)).flatMap tsubCells)) := fun w' h => by
    have := row2 w' _ (tsubs_len _) (hrow.below h)
    rwa [flat_drop tsubCells 4 (fun _ => rfl)] at this
  have HL1 : Hid (((T.subs.take k).flatMap tsubCells).length = k * 4) := by show _ = _; rw [tsubs_len, List.length_take, Nat.min_eq_left (by omega)]
  have HL2 : Hid (((T.subs.drop (k + 1)).flatMap tsubCells).length = (T.subs.length - (k + 1)) * 4) := by show _ = _; rw [tsubs_len, List.length_drop]
  have HL3 : Hid ((T.subs.take k ++ T.subs.drop (k + 1)).length = k + (T.subs.length - (k + 1))) := by show _ = _; rw [List.length_append, List.length_take, List.length_drop, Nat.min_eq_left (by omega)]
  have HC : Hid (∀ w', Below w.heap.size w w' → w'.cell? ⟨b, 2, none⟩ = some (.slice a T.subs.length cap)) := fun w' h => (h.cell (p := ⟨b, 2, none⟩) hb).trans (cell_of hcell 2)
  have hk1 : k + 1 ≤ T.subs.length := hk
  clear hR htab hcell hrow row1 row2 hke hh hs
  generalize T.subs.length = N at *
  have hfz := HR.out.unfrozen 2
  have HFZ : Hid (∀ w', Below w.heap.size w w' → w'.frozen? ⟨b, 2, none⟩ = false) := fun w' h => (h.frozen (p := ⟨b, 2, none⟩) hb).trans hfz
  clear hfz
  go_enter Tryd.func40, Tryd.ntmps40
  go_wp2_with fail
  have HBB : Hid (∀ w', Below (w.heap.size + 1) (w.alloc (.cells #[.int .i64 0, .int .i64 0, .int .i64 0, .int .i64 0, .int .u32 0] 59)) w' → Below w.heap.size w w') := fun w' h => (below_alloc w _).trans (h.mono (by omega))
  refine (CS.out _ (below_alloc _ _)).mono ?_
  rintro e w1 ⟨rfl, hb1⟩
  have hbl : Below (w.heap.size + 1) (w.alloc (.cells #[.int .i64 0, .int .i64 0, .int .i64 0, .int .i64 0, .int .u32 0] 59)) w1 := by have := hb1; rwa [World.size_alloc] at this
  have hsz1 := hbl.size
  rw [World.size_alloc] at hsz1
  have hw1 : IntKind.i64.wrap ((k : Int) + 1) = (k : Int) + 1 := IntWalk.i64_in _ (by omega)
  have hc2 := HC.out _ (HBB.out _ hbl)
  clear hb1
  go_wp2_with fail
  go_region_law (first | (refine step_app (by rfl) (.const (.slice none 0 0)) (.tmp 18) 30 (by rfl) (w.heap.size + 1) elemSub (.slice none 0 0) 0 [] (by rfl) (World.ownsRow_nil _ _ _ _) (.slice a1 k cap) k ((T.subs.take k).flatMap tsubCells) (by rfl) ?_ HL1.out (tsubs_one _) (by omega) (by omega) ?_ ?_; (exact HW1.out _ (HBB.out _ (by first | assumption | exact Below.drew (by assumption)))); (exact Nat.le_trans (Nat.le_of_eq (World.size_alloc w _).symm) (Below.size (by first | assumption | exact Below.drew (by assumption)))); intro v1 w2 HO1 HG1; have hbl2 : Below (w.heap.size + 1) (w.alloc (.cells #[.int .i64 0, .int .i64 0, .int .i64 0, .int .i64 0, .int .u32 0] 59)) w2 := Below.grown (by first | assumption | exact Below.drew (by assumption)) HG1.out (Nat.le_trans (Nat.le_of_eq (World.size_alloc w _).symm) (Below.size (by first | assumption | exact Below.drew (by assumption)))) (own_le (World.ownsRow_nil w1 _ 48 4)); have c2 := HC.out _ (HBB.out _ hbl2)) | (refine step_app (by rfl) (.tmp 19) (.tmp 26) 30 (by rfl) (w.heap.size + 1) elemSub v1 (0 + k) ([] ++ (T.subs.take k).flatMap tsubCells) (by rfl) ?_ (.slice a2 (N - (k + 1)) (cap - (k + 1))) (N - (k + 1)) ((T.subs.drop (k + 1)).flatMap tsubCells) (by rfl) ?_ HL2.out (tsubs_one _) (by omega) (by omega) ?_ ?_; (first | exact HO1.out | exact owns_drew HO1.out); (exact HW2.out _ (HBB.out _ (by first | assumption | exact Below.drew (by assumption)))); (exact Nat.le_trans (Nat.le_of_eq (World.size_alloc w _).symm) (Below.size (by first | assumption | exact Below.drew (by assumption)))); intro v2 w3 HO2 HG2; have hbl3 : Below (w.heap.size + 1) (w.alloc (.cells #[.int .i64 0, .int .i64 0, .int .i64 0, .int .i64 0, .int .u32 0] 59)) w3 := Below.grown (by first | assumption | exact Below.drew (by assumption)) HG2.out (Nat.le_trans (Nat.le_of_eq (World.size_alloc w _).symm) (Below.size (by first | assumption | exact Below.drew (by assumption)))) (own_le HO1.out); have c3 := HC.out _ (HBB.out _ hbl3); have f3 := HFZ.out _ (HBB.out _ hbl3); obtain ⟨va, vc, hv⟩ := own_form HO2.out; subst hv))
  all_goals
    have d0 : w3.cell? ⟨w.heap.size, 0, none⟩ = some (.int .i64 0) := (turn_box hbl3 0).1
    have d1 : w3.cell? ⟨w.heap.size, 1, none⟩ = some (.int .i64 0) := (turn_box hbl3 1).1
    have d2 : w3.cell? ⟨w.heap.size, 2, none⟩ = some (.int .i64 0) := (turn_box hbl3 2).1
    have d3 : w3.cell? ⟨w.heap.size, 3, none⟩ = some (.int .i64 0) := (turn_box hbl3 3).1
    have d4 : w3.cell? ⟨w.heap.size, 4, none⟩ = some (.int .u32 0) := (turn_box hbl3 4).1
    have z0 := (turn_box hbl3 0).2
    have z1 := (turn_box hbl3 1).2
    have z2 := (turn_box hbl3 2).2
    have z3 := (turn_box hbl3 3).2
    have z4 := (turn_box hbl3 4).2
    have hne : ¬ b = w.heap.size := by omega
    have hne2 : ¬ w.heap.size = b := by omega
    go_wp2
    have hrow := Row.of_owns HO2.out
    rw [List.nil_append, ← List.flatMap_append, Nat.zero_add] at hrow
    have hr3 : RefAt w3 b T := HR.out.below (HBB.out _ hbl3)
    have hlen2 : k + (N - (k + 1)) = (T.subs.take k ++ T.subs.drop (k + 1)).length := by rw [HL3.out]
    rw [hlen2] at hrow
    have hr4 := hr3.setSubs hrow
    rw [← hlen2] at hr4
    refine bodyPost_ret (v := turnAgg ⟨2, p, n, 0, 0⟩) (by simp [results, Tryd.results40, go_sem, turnAgg, d0, d1, d2, d3, d4]) rfl ⟨rfl, ?_, ?_⟩
    · rw [HE.out]
      have ht := (TurnBlk.of_below hbl3)
      exact ((((hr4.setTurn (ht.set _ _) 0 _).setTurn ((ht.set _ _).set _ _) 1 _).setTurn (((ht.set _ _).set _ _).set _ _) 2 _).setTurn ((((ht.set _ _).set _ _).set _ _).set _ _) 3 _).setTurn (((((ht.set _ _).set _ _).set _ _).set _ _).set _ _) 4 _
    · exact (((((((Fr.of_below _ (HBB.out _ hbl3)).setAt _ _).setCell (Or.inl (Nat.le_refl _)) _).setCell (Or.inl (Nat.le_refl _)) _).setCell (Or.inl (Nat.le_refl _)) _).setCell (Or.inl (Nat.le_refl _)) _).setCell (Or.inl (Nat.le_refl _)) _)
end Go.Proofs.Rm
namespace Go.Proofs.Rm
open Go.RowKit Go.Proofs.Heap Go.Proofs.Mem
set_option maxHeartbeats 2000000 in
theorem heard_any (b : Nat) (R : Room) (o : Op) (sa ba : Option Addr) (sl sc bl bc : Nat) (w : World) (hR : RoomAt w b R) (hs : 1 ≤ o.source ∧ o.source < 9) (hp : 1 ≤ o.peer ∧ o.peer < 9) :
    Calls Tryd.prog 74 #[.pointer (some ⟨b, 0, none⟩), .agg #[.int .i64 o.kind, .int .i64 o.peer, .int .i64 o.source, .int .i64 o.layer, .string (str o.name), .slice sa sl sc, .slice ba bl bc]] w fun e w' => e = .returned (.int .i64 (heard R o)) ∧ Below w.heap.size w w' := by
  have CL := Lib.hid (fun (w1 : World) (h : Below w.heap.size w w1) => layer_any b R o sa ba sl sc bl bc w1 (hR.below h) hs)
  obtain ⟨k, p, n, q, nm, ss⟩ := o
  obtain ⟨n, rfl⟩ := Int.eq_ofNat_of_zero_le (show 0 ≤ n by have := hs.1; dsimp only at this; omega)
  obtain ⟨p, rfl⟩ := Int.eq_ofNat_of_zero_le (show 0 ≤ p by have := hp.1; dsimp only at this; omega)
  have hn : n < 9 := by have := hs.2; dsimp only at this; omega
  have hp9 : p < 9 := by have := hp.2; dsimp only at this; omega
  obtain ⟨c0, c1, c2⟩ := hR.subc hn hp9
  have hb := hR.lt
  have HL : Hid (heard R ⟨k, p, n, q, nm, ss⟩ = (let x := R.sub n p
      if !x.there then 8 else if k = 10 ∧ x.paused = true then 9 else if k = 11 ∧ x.paused = false then 11 else if k ≠ 12 then 0
      else if layer R ⟨k, p, n, q, nm, ss⟩ ≠ 0 then layer R ⟨k, p, n, q, nm, ss⟩ else if x.want = q then 9 else 0)) := rfl
  clear hR hs hp
  dsimp only at CL HL ⊢
  generalize layer R ⟨k, p, n, q, nm, ss⟩ = ly at *
  generalize heard R ⟨k, p, n, q, nm, ss⟩ = hd at *
  generalize (R.sub n p).there = t0 at *
  generalize (R.sub n p).paused = t1 at *
  generalize (R.sub n p).want = t2 at *
  go_enter Tryd.func74, Tryd.ntmps74
  go_wp2
  go_region
  go_wp2_with (go_at_call 73; refine (CL.out _ (by repeat (first | exact Below.refl _ _ | refine Below.drew ?_ | refine Below.alloc ?_ (by simp) _))).mono ?_; rintro e w1 ⟨rfl, hb1⟩; obtain ⟨hcl, hfz⟩ := bcell hb1)
  all_goals (go_ret; refine ⟨ret_int ?_, ?_⟩)
  all_goals try (refine Below.trans ?_ (hb1.mono (by simp; omega)))
  all_goals try (refine Below.drew ?_)
  all_goals try (refine Below.alloc (Below.alloc (Below.refl _ _) (Nat.le_refl _) _) (by simp) _)
  all_goals (rw [HL.out]; first | (simp [*]; done) | (simp_all; done) | skip)
end Go.Proofs.Rm
namespace Go.Proofs.Rm
open Go.RowKit Go.Proofs.Heap Go.Proofs.Mem
set_option maxHeartbeats 4000000 in
theorem about_any (b : Nat) (R : Room) (o : Op) (sa ba : Option Addr) (sl sc bl bc : Nat) (w : World) (hR : RoomAt w b R) (hs : 1 ≤ o.source ∧ o.source < 9) (hp : 1 ≤ o.peer ∧ o.peer < 9) :
    Calls Tryd.prog 54 #[.pointer (some ⟨b, 0, none⟩), .agg #[.int .i64 o.kind, .int .i64 o.peer, .int .i64 o.source, .int .i64 o.layer, .string (str o.name), .slice sa sl sc, .slice ba bl bc]] w fun e w' => e = .returned (.int .i64 (about R o)) ∧ Below w.heap.size w w' := by
  have CL := Lib.hid (fun (w1 : World) (h : Below w.heap.size w w1) => layer_any b R o sa ba sl sc bl bc w1 (hR.below h) hs)
  have CH := Lib.hid (fun (w1 : World) (h : Below w.heap.size w w1) => heard_any b R o sa ba sl sc bl bc w1 (hR.below h) hs hp)
  obtain ⟨k, p, n, q, nm, ss⟩ := o
  obtain ⟨n, rfl⟩ := Int.eq_ofNat_of_zero_le (show 0 ≤ n by have := hs.1; dsimp only at this; omega)
  obtain ⟨p, rfl⟩ := Int.eq_ofNat_of_zero_le (show 0 ≤ p by have := hp.1; dsimp only at this; omega)
  have hn : n < 9 := by have := hs.2; dsimp only at this; omega
  have hp9 : p < 9 := by have := hp.2; dsimp only at this; omega
  obtain ⟨c0, c1, c2⟩ := hR.subc hn hp9
  obtain ⟨s0, s1, s2, s3, s4⟩ := hR.srcc hn
  have hb := hR.lt
  have HL : Hid (about R ⟨k, p, n, q, nm, ss⟩ = (if k = 5 ∨ k = 8 ∨ k = 9 then
      (if (R.src n).own ≠ p then 10 else if k = 8 ∧ (R.src n).muted = true then 9 else if k = 9 ∧ (R.src n).muted = false then 11 else 0)
    else if k = 6 then (if (R.src n).own = p then 10 else if (R.sub n p).there then 9 else layer R ⟨k, p, n, q, nm, ss⟩)
    else heard R ⟨k, p, n, q, nm, ss⟩)) := rfl
  obtain ⟨va, vc, hsv, hx⟩ := hR.rows n hn
  rw [hsv] at s3
  clear hR hs hp hsv hx
  dsimp only at CL CH HL ⊢
  generalize layer R ⟨k, p, n, q, nm, ss⟩ = ly at *
  generalize heard R ⟨k, p, n, q, nm, ss⟩ = hd at *
  generalize about R ⟨k, p, n, q, nm, ss⟩ = ab at *
  generalize (R.sub n p).there = t0 at *
  generalize (R.src n).there = u0 at *
  generalize (R.src n).num = u1 at *
  generalize (R.src n).own = u2 at *
  generalize (R.src n).muted = u4 at *
  generalize (R.src n).ss.length = vl at *
  go_enter Tryd.func54, Tryd.ntmps54
  go_wp2
  go_region
  go_wp2_with (first | (go_at_call 73; refine (CL.out _ (by repeat (first | exact Below.refl _ _ | refine Below.drew ?_ | refine Below.alloc ?_ (by simp) _))).mono ?_; rintro e w1 ⟨rfl, hb1⟩) | (go_at_call 74; refine (CH.out _ (by repeat (first | exact Below.refl _ _ | refine Below.drew ?_ | refine Below.alloc ?_ (by simp) _))).mono ?_; rintro e w1 ⟨rfl, hb1⟩))
  all_goals try (go_region; go_wp2_with (first | (go_at_call 73; refine (CL.out _ (by repeat (first | exact Below.refl _ _ | refine Below.drew ?_ | refine Below.alloc ?_ (by simp) _))).mono ?_; rintro e w1 ⟨rfl, hb1⟩) | (go_at_call 74; refine (CH.out _ (by repeat (first | exact Below.refl _ _ | refine Below.drew ?_ | refine Below.alloc ?_ (by simp) _))).mono ?_; rintro e w1 ⟨rfl, hb1⟩)))
  all_goals (go_ret; refine ⟨ret_int ?_, ?_⟩)
  all_goals try (refine Below.trans ?_ (hb1.mono (by simp; omega)))
  all_goals try (refine Below.drew ?_)
  all_goals try (refine Below.drew ?_)
  all_goals try (refine Below.alloc (Below.alloc (Below.refl _ _) (Nat.le_refl _) _) (by simp) _)
  all_goals try (rw [HL.out]; first | (simp [*]; done) | (simp_all; done) | skip)
  go_goals
end Go.Proofs.Rm
