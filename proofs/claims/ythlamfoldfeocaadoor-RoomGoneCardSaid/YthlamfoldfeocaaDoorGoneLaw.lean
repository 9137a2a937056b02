/- The walk of the law RoomGone, out of the contracts. -/
import Derived.Test.YthlamfoldfeocaaDoorRoomLawDef
import Derived.Test.YthlamfoldfeocaaDoorKeeps
import Derived.Test.YthlamfoldfeocaaDoorBare
import Derived.Test.YthlamfoldfeocaaDoorRoomWalksG
import Derived.StillTailTactics
import Derived.Deep.RegionHeld3
namespace Go.Proofs.Rm
open Go.RowKit Go.Proofs.Heap Go.Proofs.Mem
open Go.Proofs.Lab (may key Tabs)
theorem ofGo_no (R : Room) (x : Int) : ∀ k n, (ofGo R x k n).2.2 = false → ofGo R x k n = (0, 0, false)
  | 0, _, _ => rfl
  | k + 1, n, h => by
    unfold ofGo at h ⊢
    by_cases hc : ((R.src n).there && decide (0 ≤ index (R.src n).ss x)) = true
    · rw [if_pos hc] at h; cases h
    · rw [if_neg hc] at h ⊢; exact ofGo_no R x k (n + 1) h
theorem of_no {R : Room} {x : Int} (h : (of R x).2.2 = false) : of R x = (0, 0, false) := ofGo_no R x 9 0 h
theorem table_eqv {R R' : Room} (h : R.bare = R'.bare) : table R = table R' := by
  have a : table R.bare = table R := rfl
  have b : table R'.bare = table R' := rfl
  rw [← a, ← b, h]
/-- What 'Source' leaves, whatever the number. -/
theorem Source_any (b : Nat) (R : Room) (n : Nat) (w : World) (hR : RoomAt w b R) (hI : Inv R) (hl : ∀ n, (R.src n).ss.length ≤ 1000000) :
    Calls Tryd.prog 16 #[.pointer (some ⟨b, 0, none⟩), .int .i64 n] w fun e w' =>
      (∃ (nm ow : Int) (a : Option Addr) (k c : Nat) (mu has : Bool), e = .returned (.tuple #[.agg #[.int .i64 nm, .int .i64 ow, .slice a k c, .bool mu], .bool has]) ∧ has = (R.src n).there ∧ (has = true → ow = (R.src n).own)) ∧ Below w.heap.size w w' := by
  cases ht : (R.src n).there
  · refine (Source_no b R n w hR ?_).mono ?_
    · rw [Int.toNat_natCast, ht, Bool.and_false]
    · rintro e w' ⟨rfl, hb⟩
      exact ⟨⟨_, _, _, _, _, _, _, rfl, rfl, fun h => by cases h⟩, hb⟩
  · have hs := hI.srcAt n ht
    refine (Source_yes b R n w hR ⟨hs.1, hs.2.1⟩ ht (hl n)).mono ?_
    rintro e w' ⟨⟨v', rfl, ⟨a, c, rfl, _⟩⟩, hb⟩
    exact ⟨⟨_, _, _, _, _, _, _, rfl, rfl, fun _ => rfl⟩, hb⟩
set_option maxRecDepth 100000 in
set_option maxHeartbeats 16000000 in
theorem RoomGone_any (v : Value) (l : List OpV) (p x : Int) (w : World) (hT : Tabs w) (hv : OpsR w v l)
    (hsh : ∀ w, Tabs w → Calls Tryd.prog 10 #[] w fun e w' => e = .returned (.bool true) ∧ Below w.heap.size w w') :
    Calls Tryd.prog 9 #[v, .int .i64 p, .int .u32 x] w fun e w' => e = .returned (.bool true) ∧ Below w.heap.size w w' := by
  have hlen := hv.row.len
  obtain ⟨va, vc, rfl, _⟩ := id hv.row
  have HSH := Lib.hid (hsh w hT)
  have HT : Hid (∀ w', Below w.heap.size w w' → Tabs w') := fun w' h => Utf8Tabs_below hT h
  have HV : Hid (∀ w', Below w.heap.size w w' → OpsR w' (.slice va l.length vc) l) := fun w' h => hv.below h
  clear hsh hT hv
  go_enter Tryd.func9, Tryd.ntmps9
  go_wp2_with fail
  refine HSH.out.mono ?_
  rintro e w1 ⟨rfl, hb1⟩
  have HB1 := Lib.hid hb1
  have hz1 := hb1.size
  clear hb1
  go_wp2_with fail
  refine (New_any _).mono ?_
  rintro e w2 ⟨rfl, hroom, hb2⟩
  have HB2 := Lib.hid (HB1.out.trans (hb2.mono HB1.out.size))
  have HROOM := Lib.hid hroom
  have hlt := hroom.lt
  have hbw : w.heap.size ≤ w1.heap.size := hz1
  clear hroom hb2
  generalize w1.heap.size = ba at *
  go_wp2_with fail
  refine (New_any _).mono ?_
  rintro e w3 ⟨rfl, hroom, hb3⟩
  have HB3 := Lib.hid (HB2.out.trans (hb3.mono HB2.out.size))
  have HRA := Lib.hid (HROOM.out.below hb3)
  have HRB := Lib.hid hroom
  have hbb : w.heap.size ≤ w2.heap.size := HB2.out.size
  clear hroom hb3 HROOM
  generalize w2.heap.size = bb at *
  go_wp2_with fail
  go_loopw [9] (fun i w' => ∃ k : Nat, k ≤ l.length ∧ i = .int .i64 k ∧ Below w.heap.size w w' ∧ ∃ A B, Inv A ∧ Slim A ∧ RoomAt w' ba A ∧ Inv B ∧ Slim B ∧ RoomAt w' bb B ∧ Hid (A.bare = B.bare)) (fun i _ => l.length - (intOf i).toNat)
  case atStart => exact ⟨0, Nat.zero_le _, rfl, HB3.out, empty, empty, inv_empty, slim_empty, HRA.out, inv_empty, slim_empty, HRB.out, rfl⟩
  case round =>
    clear HRA HRB HB3 HB2 HB1
    obtain ⟨k, hk, rfl, hbl, A, B, ia, la, ra, ib, lb, rb, HAB⟩ := hrel
    have HBL := Lib.hid hbl
    have HIA := Lib.hid ia
    have HLA := Lib.hid la
    have HRA := Lib.hid ra
    have HIB := Lib.hid ib
    have HLB := Lib.hid lb
    have HRB := Lib.hid rb
    have hsz := hbl.size
    have hal := ra.lt
    have hbl2 := rb.lt
    clear hbl ia la ra ib lb rb
    by_cases hkl : k < l.length ∧ k < 60
    · obtain ⟨hkl, hk60⟩ := hkl
      obtain ⟨g, off, rfl, hcells⟩ := opsR_at (HV.out _ HBL.out) (by omega)
      obtain ⟨c0, c1, c2, c3, c4, c5, c6⟩ := hcells k l[k] (List.getElem?_eq_getElem hkl)
      have HXR := Lib.hid (fun w' h => (HV.out w' h).each l[k] (List.getElem_mem hkl))
      have HCC : Hid (∀ w', Below w.heap.size w w' → w'.cell? ⟨g, off + k * 7, none⟩ = some (.int .i64 l[k].o.kind) ∧ w'.cell? ⟨g, off + k * 7 + 1, none⟩ = some (.int .i64 l[k].o.peer) ∧ w'.cell? ⟨g, off + k * 7 + 2, none⟩ = some (.int .i64 l[k].o.source) ∧ w'.cell? ⟨g, off + k * 7 + 3, none⟩ = some (.int .i64 l[k].o.layer) ∧ w'.cell? ⟨g, off + k * 7 + 4, none⟩ = some (.string (str l[k].o.name)) ∧ w'.cell? ⟨g, off + k * 7 + 5, none⟩ = some (.slice l[k].sa l[k].o.ssrcs.length l[k].sc) ∧ w'.cell? ⟨g, off + k * 7 + 6, none⟩ = some (.slice l[k].ba l[k].bl l[k].bc)) := fun w' h => by
        obtain ⟨g', off', e1, hc⟩ := opsR_at (HV.out _ h) (by omega)
        cases e1
        exact hc k l[k] (List.getElem?_eq_getElem hkl)
      clear hcells
      generalize l[k] = y at *
      obtain ⟨o, xa, xc, ya, yl, yc⟩ := y
      dsimp only at c0 c1 c2 c3 c4 c5 c6 HXR HCC
      have CD : Hid (∀ b R w4, RoomAt w4 b R → Inv R → Below w.heap.size w w4 → Calls Tryd.prog 12 #[.pointer (some ⟨b, 0, none⟩), .agg #[.int .i64 o.kind, .int .i64 o.peer, .int .i64 o.source, .int .i64 o.layer, .string (str o.name), .slice xa o.ssrcs.length xc, .slice ya yl yc]] w4 (DoPost b R o w4)) :=
        fun b R w4 h hi hb => Do_any b R o xa ya xc yl yc w4 h hi (HT.out _ hb) (HXR.out _ hb).2 (HXR.out _ hb).1
      go_wp2_with fail
      refine (CD.out ba A _ HRA.out HIA.out HBL.out).mono ?_
      rintro e w5 ⟨tv, sv, rfl, htr, hra5, hfr5⟩
      obtain ⟨ta, tc, rfl, _⟩ := htr
      have HBL5 := Lib.hid (HBL.out.trans (fr_below hfr5 hbw HBL.out.size))
      have HRA5 := Lib.hid hra5
      have HRB5 : Hid (RoomAt w5 bb B) := HRB.out.fr hfr5 (Nat.le_refl _) (by show ¬ bb = ba; omega) HRA.out.other
      obtain ⟨d0, d1, d2, d3, d4, d5, d6⟩ := HCC.out _ HBL5.out
      clear hra5 hfr5
      go_wp2_with fail
      refine (CD.out bb B _ HRB5.out HIB.out HBL5.out).mono ?_
      rintro e w6 ⟨tv', sv', rfl, htr', hrb6, hfr6⟩
      obtain ⟨ta', tc', rfl, _⟩ := htr'
      have HBL6 := Lib.hid (HBL5.out.trans (fr_below hfr6 hbb HBL5.out.size))
      have HRA6 : Hid (RoomAt w6 ba (doo A o sv).1.2) := HRA5.out.fr hfr6 (Nat.le_refl _) (by show ¬ ba = bb; omega) HRB5.out.other
      have HRB6 := Lib.hid hrb6
      have HE := Lib.hid (doo_eqv HAB.out o sv sv')
      clear hrb6 hfr6
      go_wp2
      go_roundw
      case rel => exact ⟨k + 1, by omega, by go_num, HBL6.out, _, _, inv_doo HIA.out o sv, slim_doo HLA.out o sv, HRA6.out, inv_doo HIB.out o sv', slim_doo HLB.out o sv', HRB6.out, HE.out.2.2⟩
      case measure => simp [intOf]; omega
    · have hcase : ¬ k < l.length ∨ (k < l.length ∧ ¬ k < 60) := by omega
      clear hkl
      have hol := of_lt A x
      have HO := Lib.hid (Of_any ba A x wr HRA.out)
      have HNO : Hid ((of A x).2.2 = false → of A x = (0, 0, false)) := of_no
      have HGN : Hid ((of A x).2.2 = false ∨ (A.src (of A x).1.toNat).own ≠ p → goneOp A p x = (([], A), 8)) := goneOp_none
      have HGY : Hid ((of A x).2.2 = true → (A.src (of A x).1.toNat).own = p → ∀ sv, goneOp A p x = (gone A (of A x).1.toNat, 0) ∧ doo A ⟨5, p, (of A x).1, 0, [], []⟩ sv = (gone A (of A x).1.toNat, 0)) := fun h1 h2 sv => goneOp_doo HIA.out h1 h2 sv
      have HTH : Hid ((of A x).2.2 = true → (A.src (of A x).1.toNat).there = true) := fun h => by
        obtain ⟨m, _, ht, _, ho⟩ := of_some h
        rw [ho]; exact ht
      have CG := Lib.hid (fun w4 (h : RoomAt w4 ba A) => Gone_any ba A p x w4 h)
      generalize of A x = O at *
      obtain ⟨o1, o2, o3⟩ := O
      dsimp only at *
      obtain ⟨n, rfl⟩ := Int.eq_ofNat_of_zero_le hol.1
      rw [Int.toNat_natCast] at HGN HGY HTH
      rcases hcase with h1 | ⟨h1, h2⟩
      all_goals
        go_wp2_with fail
        refine HO.out.mono ?_
        rintro e w3 ⟨rfl, hb3⟩
        have HB3 := Lib.hid (HBL.out.trans (hb3.mono HBL.out.size))
        have HRA3 := Lib.hid (HRA.out.below hb3)
        have HRB3 := Lib.hid (HRB.out.below hb3)
        clear hb3
        go_wp2_with fail
        refine (Source_any ba A n _ HRA3.out HIA.out HLA.out.short).mono ?_
        rintro e w4 ⟨⟨nm, ow, sa, sk, sc, mu, has, rfl, HHAS, HOWN⟩, hb4⟩
        have HHAS := Lib.hid HHAS
        have HOWN := Lib.hid HOWN
        have HB4 := Lib.hid (HB3.out.trans (hb4.mono HB3.out.size))
        have HRA4 := Lib.hid (HRA3.out.below hb4)
        have HRB4 := Lib.hid (HRB3.out.below hb4)
        clear hb4
        have HRA4' := Lib.hid (HRA4.out.alloc (.cells #[.int .i64 nm, .int .i64 ow, .slice sa sk sc, .bool mu] 44))
        go_wp2_with fail
        refine (Table_any ba A _ HRA4'.out HLA.out.short).mono ?_
        rintro e w5 ⟨⟨pv, sv, uv, rfl, htab⟩, hb5⟩
        have HTAB := Lib.hid htab
        obtain ⟨⟨pa, pc, rfl, _⟩, ⟨ms, _, ⟨qa, qc, rfl, _⟩, _⟩, ⟨ua, uc, rfl, _⟩⟩ := id htab
        have hq1 : w5.cell? ⟨w4.heap.size, 1, none⟩ = some (.int .i64 ow) := (hb5.cell (p := ⟨w4.heap.size, 1, none⟩) (by simp)).trans (by simp)
        have hs5 : w4.heap.size < w5.heap.size := by have := hb5.size; simp at this; omega
        have HB5 : Hid (Below w.heap.size w w5) := (HB4.out.alloc HB4.out.size _).trans (hb5.mono (by have := HB4.out.size; simp; omega))
        have HRA5 := Lib.hid (HRA4'.out.below hb5)
        have HRB5 := Lib.hid ((HRB4.out.alloc _).below hb5)
        clear htab hb5
        go_wp2_with fail
        refine (CG.out _ (HRA5.out.alloc _)).mono ?_
        rintro e w6 ⟨⟨tv, rfl, htr⟩, hra6, hfr6⟩
        have HFR6 := Lib.hid (fr_alloc hfr6)
        have HB6 := Lib.hid (HB5.out.trans (fr_below HFR6.out hbw HB5.out.size))
        have hne5 : w5.heap.size ≠ ba := by have := HRA5.out.lt; omega
        have hne4 : w4.heap.size ≠ ba := by have := HRA4.out.lt; omega
        have k0 : w6.cell? ⟨w5.heap.size, 0, none⟩ = some (.slice pa (table A).peers.length pc) := (hfr6.cell (p := ⟨w5.heap.size, 0, none⟩) (by simp) hne5).trans (by simp)
        have k1 : w6.cell? ⟨w5.heap.size, 1, none⟩ = some (.slice qa ms.length qc) := (hfr6.cell (p := ⟨w5.heap.size, 1, none⟩) (by simp) hne5).trans (by simp)
        have k2 : w6.cell? ⟨w5.heap.size, 2, none⟩ = some (.slice ua (table A).subs.length uc) := (hfr6.cell (p := ⟨w5.heap.size, 2, none⟩) (by simp) hne5).trans (by simp)
        have q6 : w6.cell? ⟨w4.heap.size, 1, none⟩ = some (.int .i64 ow) := (hfr6.cell (p := ⟨w4.heap.size, 1, none⟩) (by simp; omega) hne4).trans (cell_alloc hq1 _)
        have hs6 : w5.heap.size < w6.heap.size := by have := hfr6.size; simp at this; omega
        have HTAB6 : Hid (TabAt w6 (.slice pa (table A).peers.length pc) (.slice qa ms.length qc) (.slice ua (table A).subs.length uc) (table A)) := HTAB.out.fr HFR6.out (Nat.le_refl _) (HRA5.out.typ (by decide)) (HRA5.out.typ (by decide)) (HRA5.out.typ (by decide)) (HRA5.out.typ (by decide))
        have HRB6 : Hid (RoomAt w6 bb B) := HRB5.out.fr HFR6.out (Nat.le_refl _) (by show ¬ bb = ba; omega) HRA5.out.other
        clear hq1
        cases o3
        · have hg := HGN.out (Or.inl rfl)
          rw [hg] at htr hra6 ⊢
          clear hg
          obtain ⟨ta, tc, rfl, _⟩ := htr
          have HRA6 := Lib.hid hra6
          clear hra6 hfr6
          go_wp2
          go_region_held3 (fun w' => w'.cell? ⟨w5.heap.size, 0, none⟩ = some (.slice pa (table A).peers.length pc) ∧ w'.cell? ⟨w5.heap.size, 1, none⟩ = some (.slice qa ms.length qc) ∧ w'.cell? ⟨w5.heap.size, 2, none⟩ = some (.slice ua (table A).subs.length uc) ∧ Below w6.heap.size w6 w') ((go_split_ands; ((repeat' apply And.intro) <;> first | with_reducible assumption | ((with_reducible apply cell_drew); with_reducible assumption) | (exact (Below.refl _ _).drew)))) (first | (go_at_call 25; go_split_ands; refine Calls.mono (Table_any ba A _ (HRA6.out.below (by with_reducible assumption)) HLA.out.short) ?_; rintro e w7 ⟨⟨pv', sv2, uv', rfl, htab7⟩, hb7⟩; have HTAB7 := Lib.hid htab7; clear htab7; have q0 := cell_below (a := ⟨w5.heap.size, 0, none⟩) hb7 (by with_reducible assumption); have q1 := cell_below (a := ⟨w5.heap.size, 1, none⟩) hb7 (by with_reducible assumption); have q2 := cell_below (a := ⟨w5.heap.size, 2, none⟩) hb7 (by with_reducible assumption); have q3 : Below w6.heap.size w6 w7 := Below.trans (by with_reducible assumption) (hb7.mono (by simp))) | (go_at_call 26; go_split_ands; refine Calls.mono (SameTable_any _ _ _ _ _ _ (table A) (table A) _ (HTAB6.out.below (by with_reducible assumption)) HTAB7.out) ?_; rintro e w8 ⟨rfl, hb8⟩; have q0 := cell_below (a := ⟨w5.heap.size, 0, none⟩) hb8 (by with_reducible assumption); have q1 := cell_below (a := ⟨w5.heap.size, 1, none⟩) hb8 (by with_reducible assumption); have q2 := cell_below (a := ⟨w5.heap.size, 2, none⟩) hb8 (by with_reducible assumption); have q7 : Below w6.heap.size w6 w8 := Below.trans q3 (hb8.mono q3.size)))
          go_wp2
          go_ret
          exact ⟨rfl, HB6.out.trans (q7.mono HB6.out.size)⟩
        · by_cases ho : (A.src n).own = p
          · have hg := (HGY.out rfl ho (.slice none 0 0)).1
            have HGD := Lib.hid (fun sv => (HGY.out rfl ho sv).2)
            have hbq : (ow != p) = false := by rw [HOWN.out (by rw [HHAS.out]; exact HTH.out rfl), ho]; simp
            rw [hg] at htr hra6 ⊢
            have HGS := Lib.hid (slim_gone HLA.out n)
            clear hg ho
            obtain ⟨ta, tc, rfl, _⟩ := id htr
            have HTR6 := Lib.hid htr
            have HRA6 := Lib.hid hra6
            have CDB : Hid (Calls Tryd.prog 12 #[.pointer (some ⟨bb, 0, none⟩), .agg #[.int .i64 5, .int .i64 p, .int .i64 n, .int .i64 0, .string ⟨#[]⟩, .slice none 0 0, .slice none 0 0]] w6 (DoPost bb B ⟨5, p, n, 0, [], []⟩ w6)) :=
              Do_any bb B ⟨5, p, n, 0, [], []⟩ none none 0 0 0 w6 HRB6.out HIB.out (HT.out _ HB6.out) (by show List.length ([] : List UInt8) < 9223372036854775807; decide) (RRow.nil _)
            clear hra6 hfr6 htr
            go_wp2_with fail
            refine CDB.out.mono ?_
            rintro e w7 ⟨uv2, sv', rfl, htr7, hrb7, hfr7⟩
            have HE := doo_eqv HAB.out ⟨5, p, n, 0, [], []⟩ sv' sv'
            rw [HGD.out sv'] at HE
            obtain ⟨e1, e2, e3⟩ := HE
            have HLB7 := Lib.hid (slim_doo HLB.out ⟨5, p, n, 0, [], []⟩ sv')
            rw [← e1] at htr7
            rw [← e2]
            have HE3 := Lib.hid (table_eqv e3)
            have HRB7 := Lib.hid hrb7
            have HTR7 := Lib.hid htr7
            obtain ⟨tb, td, rfl, _⟩ := htr7
            have HTR67 := Lib.hid (HTR6.out.fr hfr7 (Nat.le_refl _) (HRB6.out.typ (by decide)))
            have HRA7 : Hid (RoomAt w7 ba (gone A n).2) := HRA6.out.fr hfr7 (Nat.le_refl _) (by show ¬ ba = bb; omega) HRB6.out.other
            have HB7 := Lib.hid (HB6.out.trans (fr_below hfr7 hbb HB6.out.size))
            clear e1 e2 e3 hrb7 hfr7
            go_wp2_with fail
            refine (SameTurns_any _ _ (gone A n).1 (gone A n).1 _ HTR67.out HTR7.out).mono ?_
            rintro e w8 ⟨rfl, hb8⟩
            rw [decide_eq_true rfl]
            go_wp2_with fail
            refine (Table_any ba (gone A n).2 _ (HRA7.out.below hb8) HGS.out.short).mono ?_
            rintro e w9 ⟨⟨p1, p2, p3, rfl, htab9⟩, hb9⟩
            have HTAB9 := Lib.hid htab9
            clear htab9
            go_wp2_with fail
            refine (Table_any bb _ _ ((HRB7.out.below hb8).below hb9) HLB7.out.short).mono ?_
            rintro e w10 ⟨⟨p4, p5, p6, rfl, htab10⟩, hb10⟩
            rw [← HE3.out] at htab10
            have HTAB10 := Lib.hid htab10
            clear htab10
            go_wp2_with fail
            refine (SameTable_any _ _ _ _ _ _ (table (gone A n).2) (table (gone A n).2) _ (HTAB9.out.below hb10) HTAB10.out).mono ?_
            rintro e w11 ⟨rfl, hb11⟩
            rw [decide_eq_true rfl]
            go_wp2_with fail
            go_ret
            exact ⟨rfl, HB7.out.trans (((hb8.trans (hb9.mono hb8.size)).trans ((hb10.trans (hb11.mono hb10.size)).mono (Nat.le_trans hb8.size hb9.size))).mono HB7.out.size)⟩
          · have hg := HGN.out (Or.inr ho)
            have hbq : (ow != p) = true := by rw [HOWN.out (by rw [HHAS.out]; exact HTH.out rfl), bne_iff_ne]; exact ho
            rw [hg] at htr hra6 ⊢
            clear hg ho
            obtain ⟨ta, tc, rfl, _⟩ := htr
            have HRA6 := Lib.hid hra6
            clear hra6 hfr6
            go_wp2
            go_region_held3 (fun w' => w'.cell? ⟨w5.heap.size, 0, none⟩ = some (.slice pa (table A).peers.length pc) ∧ w'.cell? ⟨w5.heap.size, 1, none⟩ = some (.slice qa ms.length qc) ∧ w'.cell? ⟨w5.heap.size, 2, none⟩ = some (.slice ua (table A).subs.length uc) ∧ Below w6.heap.size w6 w') ((go_split_ands; ((repeat' apply And.intro) <;> first | with_reducible assumption | ((with_reducible apply cell_drew); with_reducible assumption) | (exact (Below.refl _ _).drew)))) (first | (go_at_call 25; go_split_ands; refine Calls.mono (Table_any ba A _ (HRA6.out.below (by with_reducible assumption)) HLA.out.short) ?_; rintro e w7 ⟨⟨pv', sv2, uv', rfl, htab7⟩, hb7⟩; have HTAB7 := Lib.hid htab7; clear htab7; have q0 := cell_below (a := ⟨w5.heap.size, 0, none⟩) hb7 (by with_reducible assumption); have q1 := cell_below (a := ⟨w5.heap.size, 1, none⟩) hb7 (by with_reducible assumption); have q2 := cell_below (a := ⟨w5.heap.size, 2, none⟩) hb7 (by with_reducible assumption); have q3 : Below w6.heap.size w6 w7 := Below.trans (by with_reducible assumption) (hb7.mono (by simp))) | (go_at_call 26; go_split_ands; refine Calls.mono (SameTable_any _ _ _ _ _ _ (table A) (table A) _ (HTAB6.out.below (by with_reducible assumption)) HTAB7.out) ?_; rintro e w8 ⟨rfl, hb8⟩; have q0 := cell_below (a := ⟨w5.heap.size, 0, none⟩) hb8 (by with_reducible assumption); have q1 := cell_below (a := ⟨w5.heap.size, 1, none⟩) hb8 (by with_reducible assumption); have q2 := cell_below (a := ⟨w5.heap.size, 2, none⟩) hb8 (by with_reducible assumption); have q7 : Below w6.heap.size w6 w8 := Below.trans q3 (hb8.mono q3.size)))
            go_wp2
            go_ret
            exact ⟨rfl, HB6.out.trans (q7.mono HB6.out.size)⟩
end Go.Proofs.Rm
