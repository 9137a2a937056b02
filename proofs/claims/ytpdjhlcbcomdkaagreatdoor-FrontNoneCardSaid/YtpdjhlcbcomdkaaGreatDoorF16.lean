/- Several texts in one: The walk of package room's Table. The frame of every law: from 'the call returns true and what was there stays' to the row's own post; what a slice of bools reads as. Over any program. -/
import Derived.Deep.RegionLaw
import Derived.Below
import Derived.ChangeSame
import Derived.WideKeyArgs
import Derived.ChangeArms
import Derived.ChangeSlices
import Derived.WalkKit
import Derived.ProofKit
import Derived.OpenShut
import Derived.Carry
import Derived.Test.YtpdjhlcbcomdkaaGreatDoorF13
import Derived.Test.YtpdjhlcbcomdkaaGreatDoorF14
import Derived.Test.YtpdjhlcbcomdkaaGreatDoorF15
namespace Go.Proofs.Rm
open Go.RowKit Go.Proofs.Heap Go.Proofs.Mem
theorem owns_grown {base base2 : Nat} {e e2 : TypeId} {size size2 : Nat} {v vo : Value} {n m : Nat} {xs ys : List Value} {w w' : World} (h : w.ownsRow base e size v n xs) (ho : w.ownsRow base2 e2 size2 vo m ys) (hg : w.grownBy w' vo.ownBlock) (hne : e ≠ e2) : w'.ownsRow base e size v n xs := by
  obtain ⟨h1, h2⟩ := h
  refine ⟨h1, ?_⟩
  rcases h2 with h2 | ⟨g, cap, cur, hv, hgb, hh, r⟩
  · exact Or.inl h2
  · have hlt : g < w.heap.size := by
      rcases Nat.lt_or_ge g w.heap.size with h | h
      · exact h
      · rw [Array.getElem?_eq_none h] at hh; cases hh
    refine Or.inr ⟨g, cap, cur, hv, hgb, ?_, r⟩
    rw [hg.block g hlt]
    · exact hh
    · intro e1
      obtain ⟨_, ho⟩ := ho
      rcases ho with ⟨rfl, _⟩ | ⟨g2, cap2, cur2, rfl, _, hh2, _⟩
      · cases e1
      · have e1 : some g = some g2 := e1
        cases e1
        rw [hh] at hh2
        exact cells_ne hne hh2
theorem own_form {base : Nat} {e : TypeId} {size : Nat} {v : Value} {n : Nat} {xs : List Value} {w : World} (h : w.ownsRow base e size v n xs) : ∃ a c, v = .slice a n c := by
  obtain ⟨_, h⟩ := h
  rcases h with ⟨rfl, rfl⟩ | ⟨g, cap, cur, rfl, _⟩
  · exact ⟨_, _, rfl⟩
  · exact ⟨_, _, rfl⟩
theorem tSubs_len (R : Room) : ∀ k, (tSubs R k).length ≤ k * 9
  | 0 => Nat.le_refl _
  | k + 1 => by
    rw [tSubs_succ, List.length_append]
    have := tSubs_len R k
    have := subs_len R k
    unfold tSubs1
    rw [List.length_map]
    omega
theorem set3 {w : World} {b : Nat} {u0 u1 u2 v0 v1 v2 : Value} (h0 : w.cell? ⟨b, 0, none⟩ = some u0) (h1 : w.cell? ⟨b, 1, none⟩ = some u1) (h2 : w.cell? ⟨b, 2, none⟩ = some u2) :
    (((w.setCell ⟨b, 0, none⟩ v0).setCell ⟨b, 1, none⟩ v1).setCell ⟨b, 2, none⟩ v2).cell? ⟨b, 0, none⟩ = some v0 ∧ (((w.setCell ⟨b, 0, none⟩ v0).setCell ⟨b, 1, none⟩ v1).setCell ⟨b, 2, none⟩ v2).cell? ⟨b, 1, none⟩ = some v1 ∧ (((w.setCell ⟨b, 0, none⟩ v0).setCell ⟨b, 1, none⟩ v1).setCell ⟨b, 2, none⟩ v2).cell? ⟨b, 2, none⟩ = some v2 := by
  have e01 : (⟨b, 0, none⟩ : Addr) ≠ ⟨b, 1, none⟩ := by simp
  have e02 : (⟨b, 0, none⟩ : Addr) ≠ ⟨b, 2, none⟩ := by simp
  have e12 : (⟨b, 1, none⟩ : Addr) ≠ ⟨b, 2, none⟩ := by simp
  refine ⟨?_, ?_, ?_⟩
  · rw [World.cell?_setCell_other _ _ _ _ (by simp), World.cell?_setCell_other _ _ _ _ (by simp), World.cell?_setCell_same _ _ _ h0]
  · rw [World.cell?_setCell_other _ _ _ _ (by simp), World.cell?_setCell_same (u := u1)]
    rw [World.cell?_setCell_other _ _ _ _ (by simp)]; exact h1
  · rw [World.cell?_setCell_same (u := u2)]
    rw [World.cell?_setCell_other _ _ _ _ (by simp), World.cell?_setCell_other _ _ _ _ (by simp)]; exact h2
/-- What a walk that fills a table keeps. -/
structure TG (w w' : World) (pv sv uv : Value) (P : List TPeer) (ms : List (TSrc × Value)) (us : List TSub) : Prop where
  tb : TB w w' pv sv uv
  pe : w'.ownsRow (w.heap.size + 2) 103 2 pv P.length (P.flatMap peerCells)
  sr : w'.ownsRow (w.heap.size + 2) 108 4 sv ms.length (ms.flatMap tsrcCells)
  rows : ∀ m ∈ ms, Row w' 66 m.2 m.1.ss.length (u32s m.1.ss)
  su : w'.ownsRow (w.heap.size + 2) 105 4 uv us.length (us.flatMap tsubCells)
section
variable {w w1 w2 : World} {pv sv uv : Value} {P : List TPeer} {ms : List (TSrc × Value)} {us : List TSub}
theorem TG.below (h : TG w w1 pv sv uv P ms us) (hb : Below w1.heap.size w1 w2) : TG w w2 pv sv uv P ms us :=
  ⟨h.tb.below hb, owns_below h.pe hb, owns_below h.sr hb, fun m hm => (h.rows m hm).below hb, owns_below h.su hb⟩
theorem TG.alloc (h : TG w w1 pv sv uv P ms us) (o : Obj) : TG w (w1.alloc o) pv sv uv P ms us := h.below (below_alloc _ _)
theorem TG.drew (h : TG w w1 pv sv uv P ms us) : TG w w1.drew pv sv uv P ms us := h.below (Below.refl _ _).drew
theorem tb_typ (h : TB w w1 pv sv uv) {e : TypeId} (he : e ≠ 51) : ∀ k c fr, k = w.heap.size + 1 → w1.heap[k]? ≠ some (.cells c e fr) := by
  intro k c fr hk
  subst hk
  rw [h.blk]
  exact cells_ne (fun h => he h.symm)
theorem TG.set (h : TG w w1 pv sv uv P ms us) (j : Nat) (v : Value) {pv' sv' uv' : Value} (h0 : pv' = if j = 0 then v else pv) (h1 : sv' = if j = 1 then v else sv) (h2 : uv' = if j = 2 then v else uv) {P' : List TPeer} {ms' : List (TSrc × Value)} {us' : List TSub}
    (g0 : w1.ownsRow (w.heap.size + 2) 103 2 pv' P'.length (P'.flatMap peerCells)) (g1 : w1.ownsRow (w.heap.size + 2) 108 4 sv' ms'.length (ms'.flatMap tsrcCells)) (gr : ∀ m ∈ ms', Row w1 66 m.2 m.1.ss.length (u32s m.1.ss))
    (g2 : w1.ownsRow (w.heap.size + 2) 105 4 uv' us'.length (us'.flatMap tsubCells)) : TG w (w1.setCell ⟨w.heap.size + 1, j, none⟩ v) pv' sv' uv' P' ms' us' := by
  have hf : Fr w1.heap.size (· = w.heap.size + 1) w1 (w1.setCell ⟨w.heap.size + 1, j, none⟩ v) := (Fr.refl _ _ _).setAt _ _
  subst h0 h1 h2
  exact ⟨h.tb.set j v, owns_fr g0 hf (fun k hk => by omega), owns_fr g1 hf (fun k hk => by omega), fun m hm => (gr m hm).fr hf (Nat.le_refl _) (tb_typ h.tb (by decide)), owns_fr g2 hf (fun k hk => by omega)⟩
theorem TG.addPeer (h : TG w w1 pv sv uv P ms us) {v : Value} (x : TPeer) (ho : Hid (w2.ownsRow (w.heap.size + 2) 103 2 v (P.length + 1) (P.flatMap peerCells ++ peerCells x))) (hg : Hid (w1.grownBy w2 pv.ownBlock)) :
    TG w (w2.setCell ⟨w.heap.size + 1, 0, none⟩ v) v sv uv (P ++ [x]) ms us := by
  have h2 : TG w w2 pv sv uv [] ms us ∨ True := Or.inr trivial
  have tb2 : TB w w2 pv sv uv := h.tb.grown h.pe hg.out
  have hf : Fr w2.heap.size (· = w.heap.size + 1) w2 (w2.setCell ⟨w.heap.size + 1, 0, none⟩ v) := (Fr.refl _ _ _).setAt _ _
  refine ⟨tb2.set 0 v, ?_, owns_fr (owns_grown h.sr h.pe hg.out (by decide)) hf (fun k hk => by omega), fun m hm => (Row.grown (h.rows m hm) h.pe hg.out (by decide)).fr hf (Nat.le_refl _) (tb_typ tb2 (by decide)), owns_fr (owns_grown h.su h.pe hg.out (by decide)) hf (fun k hk => by omega)⟩
  have := owns_fr ho.out hf (fun k hk => by omega)
  rw [List.length_append, List.flatMap_append]
  simpa using this
theorem TG.addSrc (h : TG w w1 pv sv uv P ms us) {v : Value} (x : TSrc × Value) (hr : Row w1 66 x.2 x.1.ss.length (u32s x.1.ss)) (ho : Hid (w2.ownsRow (w.heap.size + 2) 108 4 v (ms.length + 1) (ms.flatMap tsrcCells ++ tsrcCells x))) (hg : Hid (w1.grownBy w2 sv.ownBlock)) :
    TG w (w2.setCell ⟨w.heap.size + 1, 1, none⟩ v) pv v uv P (ms ++ [x]) us := by
  have tb2 : TB w w2 pv sv uv := h.tb.grown h.sr hg.out
  have hf : Fr w2.heap.size (· = w.heap.size + 1) w2 (w2.setCell ⟨w.heap.size + 1, 1, none⟩ v) := (Fr.refl _ _ _).setAt _ _
  refine ⟨tb2.set 1 v, owns_fr (owns_grown h.pe h.sr hg.out (by decide)) hf (fun k hk => by omega), ?_, ?_, owns_fr (owns_grown h.su h.sr hg.out (by decide)) hf (fun k hk => by omega)⟩
  · have := owns_fr ho.out hf (fun k hk => by omega)
    rw [List.length_append, List.flatMap_append]
    simpa using this
  · intro m hm
    have hm' : Row w1 66 m.2 m.1.ss.length (u32s m.1.ss) := by
      rcases List.mem_append.1 hm with hm | hm
      · exact h.rows m hm
      · rw [List.mem_singleton] at hm; subst hm; exact hr
    exact (Row.grown hm' h.sr hg.out (by decide)).fr hf (Nat.le_refl _) (tb_typ tb2 (by decide))
theorem TG.addSub (h : TG w w1 pv sv uv P ms us) {v : Value} (x : TSub) (ho : Hid (w2.ownsRow (w.heap.size + 2) 105 4 v (us.length + 1) (us.flatMap tsubCells ++ tsubCells x))) (hg : Hid (w1.grownBy w2 uv.ownBlock)) :
    TG w (w2.setCell ⟨w.heap.size + 1, 2, none⟩ v) pv sv v P ms (us ++ [x]) := by
  have tb2 : TB w w2 pv sv uv := h.tb.grown h.su hg.out
  have hf : Fr w2.heap.size (· = w.heap.size + 1) w2 (w2.setCell ⟨w.heap.size + 1, 2, none⟩ v) := (Fr.refl _ _ _).setAt _ _
  refine ⟨tb2.set 2 v, owns_fr (owns_grown h.pe h.su hg.out (by decide)) hf (fun k hk => by omega), owns_fr (owns_grown h.sr h.su hg.out (by decide)) hf (fun k hk => by omega), fun m hm => (Row.grown (h.rows m hm) h.su hg.out (by decide)).fr hf (Nat.le_refl _) (tb_typ tb2 (by decide)), ?_⟩
  have := owns_fr ho.out hf (fun k hk => by omega)
  rw [List.length_append, List.flatMap_append]
  simpa using this
theorem TG.grownTB_p (h : TG w w1 pv sv uv P ms us) (hg : Hid (w1.grownBy w2 pv.ownBlock)) : TB w w2 pv sv uv := h.tb.grown h.pe hg.out
theorem TG.grownTB_s (h : TG w w1 pv sv uv P ms us) (hg : Hid (w1.grownBy w2 sv.ownBlock)) : TB w w2 pv sv uv := h.tb.grown h.sr hg.out
theorem TG.grownTB_u (h : TG w w1 pv sv uv P ms us) (hg : Hid (w1.grownBy w2 uv.ownBlock)) : TB w w2 pv sv uv := h.tb.grown h.su hg.out
end
theorem peer_one (x : TPeer) : ∀ u ∈ peerCells x, u.oneCell' = true := by
  intro u hu
  simp only [peerCells, List.mem_cons, List.mem_nil_iff, or_false] at hu
  rcases hu with rfl | rfl <;> rfl
theorem tsub_one (x : TSub) : ∀ u ∈ tsubCells x, u.oneCell' = true := by
  intro u hu
  simp only [tsubCells, List.mem_cons, List.mem_nil_iff, or_false] at hu
  rcases hu with rfl | rfl | rfl | rfl <;> rfl
theorem tsrc_one (x : TSrc) (a : Option Addr) (n c : Nat) : ∀ u ∈ tsrcCells (x, .slice a n c), u.oneCell' = true := by
  intro u hu
  simp only [tsrcCells, List.mem_cons, List.mem_nil_iff, or_false] at hu
  rcases hu with rfl | rfl | rfl | rfl <;> rfl
set_option maxRecDepth 100000 in
set_option maxHeartbeats 4000000 in
theorem Table_any (b : Nat) (R : Room) (w : World) (hR : RoomAt w b R) (hl : ∀ n, (R.src n).ss.length ≤ 1000000) :
    Calls Tryz.prog 47 #[.pointer (some ⟨b, 0, none⟩)] w fun e w' => (∃ pv sv uv, e = .returned (.agg #[pv, sv, uv]) ∧ TabAt w' pv sv uv (table R)) ∧ Below w.heap.size w w' := by
  have hb := hR.lt
  have HR : Hid (∀ w', Below w.heap.size w w' → RoomAt w' b R) := fun w' h => hR.below h
  have HLS : Hid (∀ n, (R.src n).ss.length ≤ 1000000) := hl
  clear hR hl
  go_enter Tryz.func47, Tryz.ntmps47
  go_wp2
  go_loopw [12] (fun i w' => ∃ k : Nat, k ≤ 9 ∧ i = .int .i64 k ∧ ∃ pv, TG w w' pv (.slice none 0 0) (.slice none 0 0) (tPeers R k) [] []) (fun i _ => 9 - (intOf i).toNat)
  case atStart => exact ⟨0, by omega, rfl, _, ⟨⟨((Below.refl _ _).alloc (Nat.le_refl _) _).alloc (by simp) _, (two_new w _ _).2, (two_new w _ _).1⟩, World.ownsRow_nil _ _ _ _, World.ownsRow_nil _ _ _ _, fun m hm => by simp at hm, World.ownsRow_nil _ _ _ _⟩⟩
  case round =>
    obtain ⟨k, hk, rfl, pv, htg⟩ := hrel
    have HTG := Lib.hid htg
    have hsz := htg.tb.size
    have HROOM := Lib.hid (HR.out _ htg.tb.bel)
    clear htg
    by_cases hk9 : k < 9
    · have HS := Lib.hid (tPeers_succ R k)
      have HGL := tPeers_len R k
      have CJ := Lib.hid (Joined_any b R k wr HROOM.out)
      have cn := HROOM.out.namec hk9
      have cp := HTG.out.tb.cells.1
      have fp := HTG.out.tb.frozen 0
      generalize tPeers R k = G at *
      cases hj : joined R k
      · have HF : Hid (tPeers R (k + 1) = G) := by show _ = _; rw [HS.out, hj]; simp
        rw [hj] at CJ
        clear hj
        go_wp2_with (go_at_call 80; refine CJ.out.mono ?_; rintro e w1 ⟨rfl, rfl⟩)
        go_roundw
        case rel => exact ⟨k + 1, by omega, by go_num, pv, by rw [HF.out]; exact HTG.out⟩
        case measure => simp [intOf]; omega
      · have HF : Hid (tPeers R (k + 1) = G ++ [⟨k, R.names k⟩]) := by show _ = _; rw [HS.out, hj]; simp
        rw [hj] at CJ
        clear hj
        go_wp2_with (go_at_call 80; refine CJ.out.mono ?_; rintro e w1 ⟨rfl, rfl⟩)
        go_region_law (first | (refine step_app (by rfl) (.tmp 19) (.tmp 28) 47 (by rfl) (w.heap.size + 2) elemPeer _ G.length (G.flatMap peerCells) (by rfl) ?_ _ 1 (peerCells ⟨k, R.names k⟩) (by rfl) ?_ (by rfl) (peer_one _) (by omega) (by omega) ?_ ?_; (refine TG.pe (sv := .slice none 0 0) (uv := .slice none 0 0) (P := G) (ms := []) (us := []) ?_; (repeat (first | exact HTG.out | refine TG.drew ?_ | refine TG.alloc ?_ _))); (repeat (first | exact row_new' _ _ 1 _ (peerCells ⟨k, R.names k⟩) (by decide) rfl | refine Row.drew ?_)); (simp; omega); intro v' w3 HO HG; have tb3 := TG.grownTB_p (w := w) (sv := .slice none 0 0) (uv := .slice none 0 0) (P := G) (ms := []) (us := []) (by (repeat (first | exact HTG.out | refine TG.drew ?_ | refine TG.alloc ?_ _))) HG; have c3 := tb3.cells.1; have f3 := tb3.frozen 0; obtain ⟨va, vc, hv⟩ := own_form HO.out; subst hv))
        all_goals
          go_wp2
          refine ⟨⟨k + 1, by omega, by go_num, _, by rw [HF.out]; exact TG.addPeer (w1 := _) (by repeat (first | exact HTG.out | refine TG.drew ?_ | refine TG.alloc ?_ _)) ⟨k, R.names k⟩ HO HG⟩, by simp [intOf]; omega⟩
    · obtain rfl : k = 9 := by omega
      have HTAB : Hid (table R = ⟨tPeers R 9, tSrcs R 9, tSubs R 9⟩) := rfl
      generalize tPeers R 9 = PP at *
      obtain ⟨wo, rfl⟩ : ∃ wo : World, wo = wr := ⟨_, rfl⟩
      clear HROOM
      go_wp2
      go_loopw [32] (fun i w' => ∃ k : Nat, k ≤ 9 ∧ i = .int .i64 k ∧ ∃ sv uv ms, TG w w' pv sv uv PP ms (tSubs R k) ∧ Hid (ms.map Prod.fst = tSrcs R k)) (fun i _ => 9 - (intOf i).toNat)
      case atStart => exact ⟨0, by omega, rfl, _, _, [], HTG.out, rfl⟩
      case round =>
        clear HTG hsz
        obtain ⟨k, hk, rfl, sv, uv, ms, htg, HMS⟩ := hrel
        have HTG := Lib.hid htg
        have hsz := htg.tb.size
        have HROOM := Lib.hid (HR.out _ htg.tb.bel)
        clear htg
        by_cases hk9 : k < 9
        · have HSS := Lib.hid (tSrcs_succ R k)
          have HML : ms.length ≤ 9 := by have h1 := congrArg List.length HMS.out; rw [List.length_map] at h1; have h2 := tSrcs_len R k; omega
          have HSL := tSubs_len R k
          cases hh : hasSrc R k
          · have hh' : (inn (k : Int) 9 && (R.src ((k : Int)).toNat).there) = false := hh
            have CN := Lib.hid (Source_no b R k wr HROOM.out hh')
            have HM2 : Hid (ms.map Prod.fst = tSrcs R (k + 1)) := by show _ = _; rw [HSS.out, hh, HMS.out]; simp
            clear hh hh'
            obtain ⟨sv2, hsv2⟩ : ∃ sv2, sv2 = sv := ⟨_, rfl⟩
            subst hsv2
            obtain ⟨ms2, hms2⟩ : ∃ ms2, ms2 = ms := ⟨_, rfl⟩
            subst hms2
            go_wp2_with fail
            refine CN.out.mono ?_
            rintro e w2 ⟨rfl, hb2⟩
            have HTG2 := Lib.hid ((HTG.out.below hb2).alloc (.cells #[.int .i64 0, .int .i64 0, .slice none 0 0, .bool false] 108))
            clear hb2
            have HL := subs_len R k
            have HMEM : Hid (∀ j, j < (subs R k).length → (subs R k).getD j 0 < 9 ∧ hears R ((subs R k).getD j 0 : Nat) k = true) := fun j h => by
              refine ⟨subs_mem h, ?_⟩
              rw [List.getD_eq_getElem?_getD, List.getElem?_eq_getElem h]
              exact (List.mem_filter.1 (List.getElem_mem h)).2
            have HTS := Lib.hid (tSubs_succ R k)
            have HUL : Hid (∀ m, (tSubs1 R k ((subs R k).take m)).length ≤ 9) := fun m => by unfold tSubs1; rw [List.length_map, List.length_take]; omega
            have HUS : Hid (∀ j, j < (subs R k).length → tSubs1 R k ((subs R k).take (j + 1)) = tSubs1 R k ((subs R k).take j) ++ [⟨((subs R k).getD j 0 : Nat), k, (R.sub k ((subs R k).getD j 0)).want, (R.sub k ((subs R k).getD j 0)).paused⟩]) := fun j h => by
              unfold tSubs1; rw [take_snoc h, List.map_append]; rfl
            have CSB : Hid (∀ (p : Nat) w1, hears R p k = true → Below w.heap.size w w1 → Calls Tryz.prog 83 #[.pointer (some ⟨b, 0, none⟩), .int .i64 p, .int .i64 k] w1 fun e w' => e = .returned (.tuple #[.agg #[.int .i64 p, .int .i64 k, .int .i64 (R.sub k p).want, .bool (R.sub k p).paused], .bool true]) ∧ Below w1.heap.size w1 w') := fun p w1 hh h => by
              have cs := Sub_any b R p k w1 (HR.out w1 h)
              rw [hh, if_pos rfl, Int.toNat_natCast, Int.toNat_natCast] at cs
              exact cs
            go_wp2_with fail
            refine (Subs_any b R k _ (HR.out _ HTG2.out.tb.bel)).mono ?_
            rintro e w3 ⟨⟨lv, rfl, hrow⟩, hb3⟩
            have HTG3 := Lib.hid (HTG2.out.below hb3)
            have HROW := Lib.hid hrow
            obtain ⟨la, lcap, rfl, hx⟩ := hrow
            clear hx hb3
            generalize subs R k = L at *
            go_wp2_with fail
            go_loopw [52] (fun i w' => ∃ j : Nat, j ≤ L.length ∧ i = .int .i64 j ∧ ∃ uv', TG w w' pv sv2 uv' PP ms2 (tSubs R k ++ tSubs1 R k (L.take j)) ∧ Row w' 3 (.slice la L.length lcap) L.length (ints L)) (fun i _ => L.length - (intOf i).toNat)
            case atStart => exact ⟨0, by omega, rfl, uv, by rw [List.take_zero]; show TG _ _ _ _ _ _ _ (tSubs R k ++ []); rw [List.append_nil]; exact HTG3.out, HROW.out⟩
            case round =>
              clear HTG HTG2 HTG3 HROW HROOM
              obtain ⟨j, hj, rfl, uv', htg, hrow⟩ := hrel
              have HTG := Lib.hid htg
              have hsz := htg.tb.size
              have hbel := Lib.hid htg.tb.bel
              have HROW := Lib.hid hrow
              clear htg
              by_cases hjl : j < L.length
              · obtain ⟨g, off, cap, e1, hg, hcells⟩ := int_open hrow (by omega)
                cases e1
                have hc := hcells j hjl
                have HM := Lib.hid (HMEM.out j hjl)
                have HU := Lib.hid (HUS.out j hjl)
                have hul := HUL.out j
                have hul2 := HSL
                clear hcells hrow
                generalize L.getD j 0 = p at *
                have CS := Lib.hid (fun w1 (h : Below w.heap.size w w1) => CSB.out p w1 HM.out.2 h)
                generalize (R.sub k p).want = wa at *
                generalize (R.sub k p).paused = pa at *
                have hlen : (tSubs R k ++ tSubs1 R k (L.take j)).length ≤ 90 := by rw [List.length_append]; omega
                generalize hUU : tSubs R k ++ tSubs1 R k (L.take j) = UU at *
                have HUU := Lib.hid hUU
                clear hUU
                go_wp2_with (first | (go_at_call 83; refine (CS.out _ hbel.out).mono ?_; rintro e w4 ⟨rfl, hb4⟩; have HTG4 := Lib.hid (HTG.out.below hb4); have hs4 := HTG4.out.tb.size; have c4 := HTG4.out.tb.cells.2.2; have f4 := HTG4.out.tb.frozen 2; have HROW4 := Lib.hid (HROW.out.below hb4); clear hb4) | (at_builtin; refine wpList_app rfl (.tmp 64) (.tmp 66) 49 rfl (w.heap.size + 2) elemSub _ UU.length (UU.flatMap tsubCells) rfl (by exact ((HTG4.out.alloc _).alloc _).su) _ 1 (tsubCells ⟨p, k, wa, pa⟩) rfl (by exact row_new' _ _ 1 _ (tsubCells ⟨p, k, wa, pa⟩) (by decide) (by simp)) rfl (tsub_one _) (by omega) (by omega) (by simp; omega) (fun v' w5 HO HG => ?_); have tb5 := TG.grownTB_u (w := w) (pv := pv) (sv := sv2) (P := PP) (ms := ms2) (us := UU) (by repeat (first | exact HTG4.out | refine TG.drew ?_ | refine TG.alloc ?_ _)) HG; have c5 := tb5.cells.2.2; have f5 := tb5.frozen 2; obtain ⟨va, vc, hv⟩ := own_form HO.out; subst hv))
                go_roundw
                case rel =>
                  have htg4 := (HTG4.out.alloc (.cells #[.int .i64 p, .int .i64 k, .int .i64 wa, .bool pa] 105)).alloc (.cells #[.int .i64 p, .int .i64 k, .int .i64 wa, .bool pa] 105)
                  refine ⟨j + 1, by omega, by go_num, .slice va (UU.length + 1) vc, ?_, ?_⟩
                  · rw [HU.out, ← List.append_assoc, HUU.out]
                    exact htg4.addSub ⟨p, k, wa, pa⟩ HO HG
                  · exact (Row.grown ((HROW4.out.below (below_alloc _ _)).below (below_alloc _ _)) htg4.su HG.out (by decide)).fr ((Fr.refl _ (· = w.heap.size + 1) _).setAt _ _) (Nat.le_refl _) (tb_typ tb5 (by decide))
                case measure => simp [intOf]; omega
              · have hkk : j = L.length := by omega
                have hT : L.take j = L := by rw [hkk, List.take_length]
                rw [hT] at HTG
                clear hT hrow
                go_wp2
                go_roundw
                case rel =>
                  repeat apply Exists.intro
                  refine ⟨?_, rfl⟩
                  exact ⟨k + 1, by omega, by go_num, sv2, uv', ms2, by rw [HTS.out]; exact HTG.out, HM2.out⟩
                case measure => simp [intOf]; omega
          · have hhs : inn (k : Int) 9 = true ∧ (R.src k).there = true := by unfold hasSrc at hh; rw [Bool.and_eq_true] at hh; exact hh
            have hk1 := inn_nat.1 hhs.1
            have CY := Lib.hid (Source_yes b R k wr HROOM.out ⟨hk1.1, hk9⟩ hhs.2 (HLS.out k))
            have HSS2 : Hid (tSrcs R (k + 1) = tSrcs R k ++ [⟨(R.src k).num, (R.src k).own, (R.src k).ss, (R.src k).muted⟩]) := by show _ = _; rw [HSS.out, hh]; simp
            clear hh hhs hk1 HSS
            generalize (R.src k).num = u1 at *
            generalize (R.src k).own = u2 at *
            generalize (R.src k).ss = u3 at *
            generalize (R.src k).muted = u4 at *
            go_wp2_with fail
            refine CY.out.mono ?_
            rintro e w2 ⟨⟨cv, rfl, hcr⟩, hb2⟩
            have HCR := Lib.hid hcr
            obtain ⟨ca, cc, rfl, hx⟩ := hcr
            clear hx
            have HTGb := Lib.hid (HTG.out.below hb2)
            have hs2 := HTGb.out.tb.size
            have cb := HTGb.out.tb.cells.2.1
            have fb := HTGb.out.tb.frozen 1
            clear hb2
            go_wp2_with (at_builtin; refine wpList_app rfl (.tmp 43) (.tmp 45) 48 rfl (w.heap.size + 2) elemSrc _ ms.length (ms.flatMap tsrcCells) rfl (by exact ((HTGb.out.alloc _).alloc _).sr) _ 1 (tsrcCells (⟨u1, u2, u3, u4⟩, .slice ca u3.length cc)) rfl (by exact row_new' _ _ 1 _ (tsrcCells (⟨u1, u2, u3, u4⟩, .slice ca u3.length cc)) (by decide) (by simp)) rfl (tsrc_one _ _ _ _) (by omega) (by omega) (by simp; omega) (fun v' w5 HO HG => ?_); have tb5 := TG.grownTB_s (w := w) (pv := pv) (uv := uv) (P := PP) (ms := ms) (us := tSubs R k) (by repeat (first | exact HTGb.out | refine TG.drew ?_ | refine TG.alloc ?_ _)) HG; have c5 := tb5.cells.2.1; have f5 := tb5.frozen 1; obtain ⟨va, vc, hv⟩ := own_form HO.out; subst hv)
            have htg4 := (HTGb.out.alloc (.cells #[.int .i64 u1, .int .i64 u2, .slice ca u3.length cc, .bool u4] 108)).alloc (.cells #[.int .i64 u1, .int .i64 u2, .slice ca u3.length cc, .bool u4] 108)
            have HTG2 := Lib.hid (htg4.addSrc (⟨u1, u2, u3, u4⟩, .slice ca u3.length cc) ((HCR.out.below (below_alloc _ _)).below (below_alloc _ _)) HO HG)
            have HM2 : Hid ((ms ++ [((⟨u1, u2, u3, u4⟩ : TSrc), Value.slice ca u3.length cc)]).map Prod.fst = tSrcs R (k + 1)) := by show _ = _; rw [List.map_append, HMS.out, HSS2.out]; rfl
            clear htg4 c5 f5 cb fb
            generalize ms ++ [((⟨u1, u2, u3, u4⟩ : TSrc), Value.slice ca u3.length cc)] = ms2 at *
            generalize hsv2 : Value.slice va (ms.length + 1) vc = sv2 at HTG2
            clear hsv2
            have HL := subs_len R k
            have HMEM : Hid (∀ j, j < (subs R k).length → (subs R k).getD j 0 < 9 ∧ hears R ((subs R k).getD j 0 : Nat) k = true) := fun j h => by
              refine ⟨subs_mem h, ?_⟩
              rw [List.getD_eq_getElem?_getD, List.getElem?_eq_getElem h]
              exact (List.mem_filter.1 (List.getElem_mem h)).2
            have HTS := Lib.hid (tSubs_succ R k)
            have HUL : Hid (∀ m, (tSubs1 R k ((subs R k).take m)).length ≤ 9) := fun m => by unfold tSubs1; rw [List.length_map, List.length_take]; omega
            have HUS : Hid (∀ j, j < (subs R k).length → tSubs1 R k ((subs R k).take (j + 1)) = tSubs1 R k ((subs R k).take j) ++ [⟨((subs R k).getD j 0 : Nat), k, (R.sub k ((subs R k).getD j 0)).want, (R.sub k ((subs R k).getD j 0)).paused⟩]) := fun j h => by
              unfold tSubs1; rw [take_snoc h, List.map_append]; rfl
            have CSB : Hid (∀ (p : Nat) w1, hears R p k = true → Below w.heap.size w w1 → Calls Tryz.prog 83 #[.pointer (some ⟨b, 0, none⟩), .int .i64 p, .int .i64 k] w1 fun e w' => e = .returned (.tuple #[.agg #[.int .i64 p, .int .i64 k, .int .i64 (R.sub k p).want, .bool (R.sub k p).paused], .bool true]) ∧ Below w1.heap.size w1 w') := fun p w1 hh h => by
              have cs := Sub_any b R p k w1 (HR.out w1 h)
              rw [hh, if_pos rfl, Int.toNat_natCast, Int.toNat_natCast] at cs
              exact cs
            go_wp2_with fail
            refine (Subs_any b R k _ (HR.out _ HTG2.out.tb.bel)).mono ?_
            rintro e w3 ⟨⟨lv, rfl, hrow⟩, hb3⟩
            have HTG3 := Lib.hid (HTG2.out.below hb3)
            have HROW := Lib.hid hrow
            obtain ⟨la, lcap, rfl, hx⟩ := hrow
            clear hx hb3
            generalize subs R k = L at *
            go_wp2_with fail
            go_loopw [52] (fun i w' => ∃ j : Nat, j ≤ L.length ∧ i = .int .i64 j ∧ ∃ uv', TG w w' pv sv2 uv' PP ms2 (tSubs R k ++ tSubs1 R k (L.take j)) ∧ Row w' 3 (.slice la L.length lcap) L.length (ints L)) (fun i _ => L.length - (intOf i).toNat)
            case atStart => exact ⟨0, by omega, rfl, uv, by rw [List.take_zero]; show TG _ _ _ _ _ _ _ (tSubs R k ++ []); rw [List.append_nil]; exact HTG3.out, HROW.out⟩
            case round =>
              clear HTG HTG2 HTG3 HROW HROOM
              obtain ⟨j, hj, rfl, uv', htg, hrow⟩ := hrel
              have HTG := Lib.hid htg
              have hsz := htg.tb.size
              have hbel := Lib.hid htg.tb.bel
              have HROW := Lib.hid hrow
              clear htg
              by_cases hjl : j < L.length
              · obtain ⟨g, off, cap, e1, hg, hcells⟩ := int_open hrow (by omega)
                cases e1
                have hc := hcells j hjl
                have HM := Lib.hid (HMEM.out j hjl)
                have HU := Lib.hid (HUS.out j hjl)
                have hul := HUL.out j
                have hul2 := HSL
                clear hcells hrow
                generalize L.getD j 0 = p at *
                have CS := Lib.hid (fun w1 (h : Below w.heap.size w w1) => CSB.out p w1 HM.out.2 h)
                generalize (R.sub k p).want = wa at *
                generalize (R.sub k p).paused = pa at *
                have hlen : (tSubs R k ++ tSubs1 R k (L.take j)).length ≤ 90 := by rw [List.length_append]; omega
                generalize hUU : tSubs R k ++ tSubs1 R k (L.take j) = UU at *
                have HUU := Lib.hid hUU
                clear hUU
                go_wp2_with (first | (go_at_call 83; refine (CS.out _ hbel.out).mono ?_; rintro e w4 ⟨rfl, hb4⟩; have HTG4 := Lib.hid (HTG.out.below hb4); have hs4 := HTG4.out.tb.size; have c4 := HTG4.out.tb.cells.2.2; have f4 := HTG4.out.tb.frozen 2; have HROW4 := Lib.hid (HROW.out.below hb4); clear hb4) | (at_builtin; refine wpList_app rfl (.tmp 64) (.tmp 66) 49 rfl (w.heap.size + 2) elemSub _ UU.length (UU.flatMap tsubCells) rfl (by exact ((HTG4.out.alloc _).alloc _).su) _ 1 (tsubCells ⟨p, k, wa, pa⟩) rfl (by exact row_new' _ _ 1 _ (tsubCells ⟨p, k, wa, pa⟩) (by decide) (by simp)) rfl (tsub_one _) (by omega) (by omega) (by simp; omega) (fun v' w5 HO HG => ?_); have tb5 := TG.grownTB_u (w := w) (pv := pv) (sv := sv2) (P := PP) (ms := ms2) (us := UU) (by repeat (first | exact HTG4.out | refine TG.drew ?_ | refine TG.alloc ?_ _)) HG; have c5 := tb5.cells.2.2; have f5 := tb5.frozen 2; obtain ⟨va, vc, hv⟩ := own_form HO.out; subst hv))
                go_roundw
                case rel =>
                  have htg4 := (HTG4.out.alloc (.cells #[.int .i64 p, .int .i64 k, .int .i64 wa, .bool pa] 105)).alloc (.cells #[.int .i64 p, .int .i64 k, .int .i64 wa, .bool pa] 105)
                  refine ⟨j + 1, by omega, by go_num, .slice va (UU.length + 1) vc, ?_, ?_⟩
                  · rw [HU.out, ← List.append_assoc, HUU.out]
                    exact htg4.addSub ⟨p, k, wa, pa⟩ HO HG
                  · exact (Row.grown ((HROW4.out.below (below_alloc _ _)).below (below_alloc _ _)) htg4.su HG.out (by decide)).fr ((Fr.refl _ (· = w.heap.size + 1) _).setAt _ _) (Nat.le_refl _) (tb_typ tb5 (by decide))
                case measure => simp [intOf]; omega
              · have hkk : j = L.length := by omega
                have hT : L.take j = L := by rw [hkk, List.take_length]
                rw [hT] at HTG
                clear hT hrow
                go_wp2
                go_roundw
                case rel =>
                  repeat apply Exists.intro
                  refine ⟨?_, rfl⟩
                  exact ⟨k + 1, by omega, by go_num, sv2, uv', ms2, by rw [HTS.out]; exact HTG.out, HM2.out⟩
                case measure => simp [intOf]; omega
        · obtain rfl : k = 9 := by omega
          have c0 := HTG.out.tb.cells
          obtain ⟨pa, pc, hp⟩ := own_form HTG.out.pe
          obtain ⟨sa, sc, hs⟩ := own_form HTG.out.sr
          obtain ⟨ua, uc, hu⟩ := own_form HTG.out.su
          subst hp hs hu
          obtain ⟨c1, c2, c3⟩ := c0
          have hb0 := HTG.out.tb.blk0
          have d0 : ∀ j, j < 3 → wr.cell? ⟨w.heap.size, j, none⟩ = some (.slice none 0 0) ∧ wr.frozen? ⟨w.heap.size, j, none⟩ = false := by
            intro j hj
            have : j = 0 ∨ j = 1 ∨ j = 2 := by omega
            rcases this with rfl | rfl | rfl <;> exact ⟨by simp only [World.cell?, hb0]; rfl, by simp [World.frozen?, hb0]⟩
          obtain ⟨d1, e1⟩ := d0 0 (by omega)
          obtain ⟨d2, e2⟩ := d0 1 (by omega)
          obtain ⟨d3, e3⟩ := d0 2 (by omega)
          clear d0 hb0
          have R3 := Lib.hid (set3 (v0 := .slice pa PP.length pc) (v1 := .slice sa ms.length sc) (v2 := .slice ua (tSubs R 9).length uc) d1 d2 d3)
          go_wp2
          obtain ⟨r0, r1, r2⟩ := R3.out
          refine bodyPost_ret (v := .agg #[.slice pa PP.length pc, .slice sa ms.length sc, .slice ua (tSubs R 9).length uc]) (by simp [results, Tryz.results47, go_sem, r0, r1, r2]) rfl ⟨⟨_, _, _, rfl, ?_⟩, ?_⟩
          · have hf : Fr wr.heap.size (· = w.heap.size) wr (((wr.setCell ⟨w.heap.size, 0, none⟩ (.slice pa PP.length pc)).setCell ⟨w.heap.size, 1, none⟩ (.slice sa ms.length sc)).setCell ⟨w.heap.size, 2, none⟩ (.slice ua (tSubs R 9).length uc)) := (((Fr.refl _ _ _).setAt _ _).setAt _ _).setAt _ _
            have ht : ∀ e, e ≠ 51 → ∀ k c fr, k = w.heap.size → wr.heap[k]? ≠ some (.cells c e fr) := by
              intro e he k c fr hk
              subst hk
              rw [HTG.out.tb.blk0]
              exact cells_ne (fun h => he h.symm)
            rw [HTAB.out]
            exact TabAt.fr ⟨Row.of_owns HTG.out.pe, ⟨ms, HMS.out, Row.of_owns HTG.out.sr, HTG.out.rows⟩, Row.of_owns HTG.out.su⟩ hf (Nat.le_refl _) (ht _ (by decide)) (ht _ (by decide)) (ht _ (by decide)) (ht _ (by decide))
          · exact ((HTG.out.tb.bel.setCell (by simp) _).setCell (by simp) _).setCell (by simp) _
end Go.Proofs.Rm
namespace Go.Proofs.Frame
open Go.RowKit Go.WideShapes Go.ChangeShapes
section
variable {H : Type} {enc : TypeId × Value → H} {P : Program}
/-- Arguments that were read read as they did, whatever happened above them. -/
theorem trodAll_stays (hl : laidOutB P = true) {W W' : World} {sp' : Nat → Bool} (hb : Below W.heap.size W W') : ∀ {ts : List TypeId} {vs : List Value} {ds : List (DataW H)} {ps : List MemPlace},
    (∀ t ∈ ts, P.readableRec t = true ∧ t < P.types.size) → DataW.TrodAll enc P W 0 (fun _ => true) true ts vs ds ps → (∀ p ∈ ps, p.block < W.heap.size) → (∀ p ∈ ps, sp' p.block = true) →
    DataW.TrodAll enc P W' 0 sp' true ts vs ds ps
  | [], [], [], _, _, h, _, _ => h
  | t :: ts, v :: vs, d :: ds, ps, ht, h, hlt, hsp => by
    obtain ⟨p, q, h1, h2, rfl⟩ := h
    refine ⟨p, q, ?_, ?_, rfl⟩
    · exact WideElems.Trod_stays hl (ht t (List.mem_cons_self ..)).1 (ht t (List.mem_cons_self ..)).2 h1 (fun x hx => hb.same (hlt x (List.mem_append.2 (Or.inl hx)))) (fun x hx => hsp x (List.mem_append.2 (Or.inl hx)))
    · exact trodAll_stays hl hb (fun t' h' => ht t' (List.mem_cons_of_mem _ h')) h2 (fun x hx => hlt x (List.mem_append.2 (Or.inr hx))) (fun x hx => hsp x (List.mem_append.2 (Or.inr hx)))
  | [], [], _ :: _, _, _, h, _, _ => h.elim
  | [], _ :: _, _, _, _, h, _, _ => h.elim
  | _ :: _, [], _, _, _, h, _, _ => h.elim
  | _ :: _, _ :: _, [], _, _, h, _, _ => h.elim
/-- A law's row: it returned true, and what was there stays. -/
theorem law_post {f : Func} {s : ChangeSpec} {apart fresh handsOn again : Bool} {W W' : World} {args : Array Value} {ds gs : List (DataW H)} {before : List MemPlace} {tb : TypeId}
    (hW : DataW.Whole enc P f.params.toList s.vars apart W args.toList ds gs before) (hl : laidOutB P = true) (ht : ∀ t ∈ f.params.toList, P.readableRec t = true ∧ t < P.types.size)
    (hv : s.vars = []) (hs : s.fn H (ds ++ gs) = { results := [.lit (.bool true)], args := ds }) (hres : f.resultTypes = #[tb]) (hbool : P.underlying tb = some .bool)
    (hb : Below W.heap.size W W') :
    s.post enc P f apart fresh handsOn again W args (.bool true) W' := by
  have hlt : ∀ p ∈ before, p.block < W.heap.size := fun p hp => hW.lt p hp
  have hold : ∀ p ∈ before, (fun b => decide (b < W.heap.size)) p.block = true := fun p hp => by simpa using hlt p hp
  have hW0 := hW
  obtain ⟨p, q, hA, hV, hpq, hz, hn⟩ := hW
  rw [hv] at hV
  obtain ⟨rfl, rfl⟩ := trodVars_none hV
  rw [List.append_nil] at hpq
  subst hpq
  have hargs : ∀ sp : Nat → Bool, (∀ p ∈ before, sp p.block = true) → DataW.TrodAll enc P W' 0 sp true f.params.toList args.toList (s.fn H (ds ++ [])).args before := by
    intro sp hsp
    rw [hs]
    exact trodAll_stays hl hb ht hA hlt hsp
  have hr : ∀ (b : Nat) (sp : Nat → Bool) (hd : Bool), DataW.TrodAll enc P W' b sp hd f.resultTypes.toList ((Value.bool true).resultList f.resultTypes.size) (s.fn H (ds ++ [])).results [] := by
    intro b sp hd
    rw [hs, hres]
    exact trodAll_cons_mk (shut_bool hbool _) trodAll_mk0
  have hvars : ∀ sp : Nat → Bool, (∀ p ∈ before, sp p.block = true) → DataW.TrodVars enc P W' sp s.vars (s.fn H (ds ++ [])).vars [] := by
    intro sp _
    rw [hs, hv]
    rfl
  have hok : ∀ (j : Nat) (t : TypeId) (r : Value), f.resultTypes[j]? = some t → ((Value.bool true).resultList f.resultTypes.size)[j]? = some r → Value.okWide P W' .any 0 t r := by
    exact ok_one hres rfl (okWide_bool_mk hbool _)
  refine ⟨ds, [], before, [], before, [], hW0, hr _ _ _, hargs _ hold, hvars _ hold, World.keptBut_mono (fun p hp => ⟨hp, ?_⟩) (hb.frame (· ∈ before)), fun _ => ?_⟩
  · simpa using hp
  · refine ⟨hok, _, _, ([] ++ before) ++ [], ⟨[] ++ before, [], trodAll_append (hargs _ (fun _ _ => rfl)) (hr _ _ _), hvars _ (fun _ _ => rfl), rfl, ?_, ?_⟩, ?_⟩
    · intro b off hp
      have hin : MemPlace.cell b off ∈ before := by simpa using hp
      rw [hb.frozen (hlt _ hin)]
      exact hz b off hin
    · intro ha
      simpa using hn ha
    · intro p hp _
      simpa using hp
/-- What a slice of bools reads as. -/
def BoolRow (w : World) (v : Value) (l : List Bool) : Prop :=
  ∃ a cap, v = .slice a l.length cap ∧ (∀ j, j < l.length → ∃ b off, a = some ⟨b, off, none⟩ ∧ b < w.heap.size ∧ w.cell? ⟨b, off + j, none⟩ = some (.bool (l.getD j false)))
theorem cells_slice {r : Reach} {b0 : Nat} {t e : TypeId} {W : World} {v : Value} (ht : P.underlying t = some (.slice e)) (h : Value.okWide P W r b0 t v) : v.cells = #[v] := by
  obtain ⟨a, l, c, rfl⟩ := okWide_slice ht h
  rfl
theorem open_bools {base : Nat} {sp : Nat → Bool} {held : Bool} {t e : TypeId} {W : World} {v : Value} {d : DataW H} {ps : List MemPlace} (ht : P.underlying t = some (.slice e)) (he : P.underlying e = some .bool) (hc : P.cellsOf e = 1)
    (hcl : v.cells = #[v]) (h : DataW.Trod enc P W base sp held t v d ps) : ∃ l, BoolRow W v l ∧ l.length < 9223372036854775808 := by
  obtain ⟨n, h⟩ := h
  rw [hcl] at h
  rcases DataW.trod_slice ht h with ⟨h1, _⟩ | ⟨a, len, cap, elems, rest, n', _, h1, _, _, hlc, hcm, hel, hall, _⟩
  · have : v = .slice none 0 0 := by simpa using h1
    exact ⟨[], ⟨none, 0, this, fun j hj => by simp at hj⟩, by simp⟩
  · have hv : v = .slice (some a) len cap := by simpa using h1
    have key : ∀ j, j < len → ∃ b, W.cell? (a.add j) = some (.bool b) := by
      intro j hj
      have := hall j hj
      rw [hc, Nat.mul_one, List.getElem?_eq_getElem (by omega)] at this
      cases hcs : W.cells? base (a.add j) 1 with
      | none => rw [hcs] at this; simp at this
      | some cs =>
        rw [hcs, Option.bind_some] at this
        obtain ⟨b, rfl, _⟩ := DataW.trod_bool he this
        exact ⟨b, cell_of_cells?_one hcs⟩
    refine ⟨(List.range len).map fun j => match W.cell? (a.add j) with | some (.bool b) => b | _ => false, ⟨some a, cap, by simpa using hv, ?_⟩, by rw [List.length_map, List.length_range]; unfold maxLen at hcm; omega⟩
    intro j hj
    simp only [List.length_map, List.length_range] at hj
    obtain ⟨b, hb⟩ := key j hj
    have h0 : a.spot = none := by
      obtain ⟨b0, hb0⟩ := key 0 (by omega)
      cases hs : a.spot with
      | none => rfl
      | some x => simp [World.cell?, Addr.add, hs] at hb0; split at hb0 <;> simp_all
    have ha : a = ⟨a.block, a.off, none⟩ := by cases a; simp_all
    have hadd : a.add j = ⟨a.block, a.off + j, none⟩ := by
      unfold Addr.add
      split
      · subst_vars; exact ha
      · rfl
    refine ⟨a.block, a.off, by rw [← ha], ?_, ?_⟩
    · rcases Nat.lt_or_ge a.block W.heap.size with h | h
      · exact h
      · rw [hadd] at hb; simp [World.cell?, Array.getElem?_eq_none h] at hb
    · rw [← hadd, hb]
      simp [hj, hb]
theorem bools_below {W W' : World} {v : Value} {l : List Bool} (h : BoolRow W v l) (hb : Below W.heap.size W W') : BoolRow W' v l := by
  obtain ⟨a, cap, hv, hall⟩ := h
  refine ⟨a, cap, hv, fun j hj => ?_⟩
  obtain ⟨b, off, h1, h2, h3⟩ := hall j hj
  exact ⟨b, off, h1, Nat.lt_of_lt_of_le h2 hb.size, by rw [hb.cell (p := ⟨b, off + j, none⟩) h2]; exact h3⟩
theorem reach_next {t : TypeId} {ts : List TypeId} {d : DataW H} {ds : List (DataW H)} (h : (DataW.weightsEach P (t :: ts) (d :: ds)).all (· ≤ reachBytes) = true) : (DataW.weightsEach P ts ds).all (· ≤ reachBytes) = true := by
  rw [DataW.weightsEach, List.all_append, Bool.and_eq_true] at h
  exact h.2
theorem reach_str {t : TypeId} {ts : List TypeId} {s : ByteArray} {ds : List (DataW H)} (h : (DataW.weightsEach P (t :: ts) (DataW.lit (.string s.data.toList) :: ds)).all (· ≤ reachBytes) = true) : s.size ≤ 140737488351232 := by
  rw [DataW.weightsEach, List.all_append, Bool.and_eq_true] at h
  have h1 := h.1
  rw [DataW.weights] at h1
  simp [reachBytes] at h1
  exact of_decide_eq_true h1
end
end Go.Proofs.Frame
