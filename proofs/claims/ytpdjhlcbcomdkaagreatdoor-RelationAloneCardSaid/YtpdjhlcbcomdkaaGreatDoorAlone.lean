/- The law RelationAlone. -/
import Derived.Test.YtpdjhlcbcomdkaaGreatDoorW28
import Derived.Test.YtpdjhlcbcomdkaaGreatDoorAlonePlain
set_option linter.unusedSimpArgs false
namespace Go.Proofs.By
open Go.RowKit Go.Proofs.Heap Go.Proofs
open Go.Proofs.Rm (below_drewN own_le opvCells u32s elemInt)
open Go.Proofs.Lab (Tabs)
open Go.Proofs.Mem
def natV (l : List Nat) : List Value := l.map fun (i : Nat) => .int .i64 (i : Int)
theorem natV_app (l m : List Nat) : natV (l ++ m) = natV l ++ natV m := List.map_append
/-- What stays so far, and where it stood: two rows of the call's own. -/
structure AS (w w' : World) (iv : Value) (I : List OpB) (tv : Value) (T : List Nat) : Prop where
  bel : Below w.heap.size w w'
  iown : w'.ownsRow w.heap.size 32 7 iv I.length (I.flatMap fun y => opvCells y.x)
  town : w'.ownsRow w.heap.size 3 1 tv T.length (natV T)
theorem AS.below {w w1 w2 : World} {iv tv : Value} {I : List OpB} {T : List Nat} (h : AS w w1 iv I tv T) (hb : Below w1.heap.size w1 w2) : AS w w2 iv I tv T := ⟨h.bel.trans (hb.mono h.bel.size), owns_bel h.iown hb, owns_bel h.town hb⟩
theorem mem_ownOps {L : List OpB} {s : Int} {k : Nat} (hk : k ≤ L.length) {y : OpB} (h : y ∈ ownOps L s k) : y ∈ L := by
  unfold ownOps at h
  rw [List.mem_map] at h
  obtain ⟨i, hi, rfl⟩ := h
  have hi : i < k := by
    unfold kIdx at hi
    have := (List.mem_filter.1 hi).1
    exact List.mem_range.1 this
  rw [List.getD_eq_getElem?_getD, List.getElem?_eq_getElem (by omega)]
  exact List.getElem_mem _
theorem life_range2 {w : World} {a : Option Addr} {n c : Nat} {l : List Life} (h : Row w 59 (.slice a n c) n (l.flatMap lifeCells)) {j : Nat} {z : Life} (hz : l[j]? = some z) : ∃ g o, a = some ⟨g, o, none⟩ ∧ w.rangeAt g (o + j * 4) (lifeCells z) := by
  have hl : j < l.length := (List.getElem?_eq_some_iff.1 hz).1
  obtain ⟨g, o, e, h2⟩ := row_atB lifeCells 4 (fun _ => rfl) h (by omega)
  exact ⟨g, o, e, fun m v hm => (h2 j z hz m (by have h := (List.getElem?_eq_some_iff.1 hm).1; simpa [lifeCells] using h)).trans hm⟩
theorem emi_range2 {w : World} {a : Option Addr} {n c : Nat} {l : List Emi} (h : Row w 70 (.slice a n c) n (l.flatMap emiCells)) {j : Nat} {z : Emi} (hz : l[j]? = some z) : ∃ g o, a = some ⟨g, o, none⟩ ∧ w.rangeAt g (o + j * 6) (emiCells z) := by
  have hl : j < l.length := (List.getElem?_eq_some_iff.1 hz).1
  obtain ⟨g, o, e, h2⟩ := row_atB emiCells 6 (fun _ => rfl) h (by omega)
  exact ⟨g, o, e, fun m v hm => (h2 j z hz m (by have h := (List.getElem?_eq_some_iff.1 hm).1; simpa [emiCells] using h)).trans hm⟩
theorem nat_cell {w : World} {a : Option Addr} {n c : Nat} {l : List Nat} (h : Row w 3 (.slice a n c) n (natV l)) {j z : Nat} (hz : l[j]? = some z) : ∃ g o, a = some ⟨g, o, none⟩ ∧ w.cell? ⟨g, o + j, none⟩ = some (.int .i64 (z : Int)) := by
  have hl : j < l.length := (List.getElem?_eq_some_iff.1 hz).1
  obtain ⟨g, o, cap, h1, _, _, _, h5⟩ := Row.open h (by unfold natV; rw [List.length_map]; omega)
  injection h1 with e1 _ _
  refine ⟨g, o, e1, (h5 j (by unfold natV; rw [List.length_map]; exact hl)).trans ?_⟩
  unfold natV
  rw [List.getElem?_map, hz]
  rfl
theorem sentOf_le (L : List OpB) (z : Life) : (sentOf L z).length ≤ L.length := by
  unfold sentOf
  split
  · exact (sentTo_ok L z L.length).len
  · exact Nat.zero_le _
theorem alone_law {L : List OpB} {z : Life} (hz : z ∈ livesTo L L.length L.length) : sentOf (ownOps L z.source L.length) (renL L z.source z) = (sentOf L z).map (renE L z.source) ∧ ∀ e ∈ sentOf L z, 0 ≤ e.event ∧ e.event.toNat < L.length ∧ keepS L z.source e.event.toNat = true := by
  have h := alone_sent L hz
  have hm : renL L z.source z ∈ livesTo (ownOps L z.source L.length) (ownOps L z.source L.length).length (ownOps L z.source L.length).length := by rw [alone_lives]; exact List.mem_map_of_mem hz
  unfold sentOf
  rw [if_pos hz, if_pos hm]
  exact ⟨h.out, h.ev⟩
set_option maxRecDepth 100000 in
set_option maxHeartbeats 16000000 in
theorem RelationAlone_any (v : Value) (L0 : List OpB) (src : Int) (w : World) (hT : Tabs w) (hv : OpBsR w v L0) : Calls Tryz.prog 10 #[v, .int .i64 src] w fun e w' => e = .returned (.bool true) ∧ Below w.heap.size w w' := by
  have CS := Lib.hid (shown21_any w hT)
  have CF := Lib.hid (fun (w' : World) (h : Below w.heap.size w w') => few21_any v L0 w' (hv.below h))
  have HT : Hid (∀ w', Below w.heap.size w w' → Tabs w') := fun w' h => Utf8Tabs_below hT h
  have hL : (L0.take 60).length ≤ 60 := by rw [List.length_take]; omega
  generalize L0.take 60 = L at *
  have CA := Lib.hid (fun (v' : Value) (w' : World) (hT : Tabs w') (h : OpBsR w' v' L) => RAdmits_any v' L w' hT h (by omega))
  clear hT hv
  go_enter Tryz.func10, Tryz.ntmps10
  go_wp2_with (first | (go_at_call 25; refine CS.out.mono ?_; rintro e w1 ⟨rfl, hb1⟩; have HB1 := Lib.hid hb1; clear hb1) | (go_at_call 26; refine (CF.out _ HB1.out).mono ?_; rintro e w' ⟨⟨v', rfl, ho⟩, rfl⟩; obtain ⟨va, vc, hv', hvc, hmx⟩ := OpBsR.form ho; subst hv'; have HO := Lib.hid ho; clear ho) | (go_at_call 24; refine (CA.out _ _ (HT.out _ HB1.out) HO.out).mono ?_; rintro e w3 ⟨⟨av, rfl, hrow⟩, hb3⟩; obtain ⟨aa, ac, hav⟩ := Row.form hrow; subst hav; have HA := Lib.hid hrow; have HB3 := Lib.hid hb3; have HO3 := Lib.hid (HO.out.below hb3); clear hrow hb3))
  have HS0 : Hid (AS w3 w3 (.slice none 0 0) (ownOps L src 0) (.slice none 0 0) (kIdx L src 0)) := ⟨Below.refl _ _, World.ownsRow_nil _ _ _ _, World.ownsRow_nil _ _ _ _⟩
  have HB13 := Lib.hid (HB1.out.trans (HB3.out.mono HB1.out.size))
  clear CS CF CA HO
  go_loopw [5, 6, 22] (fun s5 s6 s22 w' => ∃ j : Nat, j ≤ L.length ∧ s22 = .int .i64 (j : Int) ∧ AS w3 w' s5 (ownOps L src j) s6 (kIdx L src j)) (fun _ _ s22 _ => L.length - (intOf s22).toNat)
  case atStart => exact ⟨0, by omega, rfl, HS0.out⟩
  case round =>
    obtain ⟨j, hj, rfl, has⟩ := hrel
    clear HS0
    have HAS := Lib.hid has
    clear has
    obtain ⟨ia, ic, rfl⟩ := Row.form (Row.of_owns HAS.out.iown)
    obtain ⟨ta, tc, rfl⟩ := Row.form (Row.of_owns HAS.out.town)
    have li : (ownOps L src j).length ≤ 60 := by rw [ownOps_len]; have := rk_le L src j; omega
    have lt : (kIdx L src j).length ≤ 60 := by have := rk_le L src j; unfold rk at this; omega
    by_cases hjl : j < L.length
    · have hOr := HO3.out.below HAS.out.bel
      obtain ⟨g', off', cap', e1, -, -, -, hat⟩ := Rm.row_atR (fun y : OpB => opvCells y.x) 7 (fun _ => rfl) (by omega) hOr.row (by omega)
      cases e1
      have hy : L[j]? = some L[j] := List.getElem?_eq_getElem hjl
      have hat := hat j _ hy
      have HGD : Hid (L.getD j noOpB = L[j]) := by show _ = _; rw [List.getD_eq_getElem?_getD, hy]; rfl
      generalize L[j] = y at *
      obtain ⟨⟨⟨kd, p, s, q, nm, ss⟩, sa, sc, ba, bl, bc⟩, bb⟩ := y
      have hrg0 : wr.rangeAt g' (off' + j * 7) [.int .i64 kd, .int .i64 p, .int .i64 s, .int .i64 q, .string (str nm), .slice sa ss.length sc, .slice ba bl bc] := fun m v hm => (hat m (by have h := (List.getElem?_eq_some_iff.1 hm).1; simpa using h)).trans hm
      have HRG := Lib.hid hrg0
      obtain ⟨ga, oa, ca, hga, hra3⟩ := adm_atV HA.out hjl
      cases hga
      have hks : keepS L src j = (!decide ((takenAt L j).adm.kind = 1) || decide ((takenAt L j).adm.source = src)) := rfl
      generalize (takenAt L j).adm = A at *
      obtain ⟨ak, as', ae, ar⟩ := A
      dsimp only at hra3 hks
      have hra : wr.rangeAt ga (oa + j * 4) [.int .i64 ak, .int .i64 as', .int .i64 ae, .int .i64 ar] := fun m v hm => cell_old (hra3 m v hm) HAS.out.bel
      have hjI : (j : Int) < (L.length : Int) := Int.ofNat_lt.2 hjl
      have dj : decide ((j : Int) < (L.length : Int)) = true := decide_eq_true hjI
      have dj2 : decide (j < L.length) = true := decide_eq_true hjl
      have HAS8 := Lib.hid (HAS.out.below (below_alloc wr (.cells #[.int .i64 ak, .int .i64 as', .int .i64 ae, .int .i64 ar] 35)))
      have HRG8 : Hid (∀ w', Below w3.heap.size w3 w' → Below wr.heap.size wr w' → w'.rangeAt g' (off' + j * 7) [.int .i64 kd, .int .i64 p, .int .i64 s, .int .i64 q, .string (str nm), .slice sa ss.length sc, .slice ba bl bc]) := fun w' _ hb m v hm => cell_old (HRG.out m v hm) hb
      have HBW8 := Lib.hid (below_alloc wr (.cells #[.int .i64 ak, .int .i64 as', .int .i64 ae, .int .i64 ar] 35))
      have HZB : Hid ((wr.alloc (.cells #[.int .i64 ak, .int .i64 as', .int .i64 ae, .int .i64 ar] 35)).heap[wr.heap.size]? = some (.cells #[.int .i64 ak, .int .i64 as', .int .i64 ae, .int .i64 ar] 35 (0, 0))) := heap_new wr _
      have HI := Lib.hid (ownOps_succ L src j)
      have HW := Lib.hid (kIdx_succ L src j)
      rw [hks, HGD.out] at HI
      rw [hks] at HW
      clear hat hOr hra3 hy hrg0 hks HAS HGD
      go_upto_region 9 with (with_reducible refine load_at 35 (.tmp 25) rfl ?_; refine wpList_load_mid rfl 35 (.tmp 25) rfl ga (oa + j * 4) rfl [.int .i64 ak, .int .i64 as', .int .i64 ae, .int .i64 ar] _ hra Tryz.underlying35 rfl (by kernel_rfl) ?_)
      clear hra
      have k0 : (wr.alloc (.cells #[.int .i64 ak, .int .i64 as', .int .i64 ae, .int .i64 ar] 35)).cell? ⟨wr.heap.size, 0, none⟩ = some (.int .i64 ak) := by rw [cell_of HZB.out 0]; rfl
      have k1 : (wr.alloc (.cells #[.int .i64 ak, .int .i64 as', .int .i64 ae, .int .i64 ar] 35)).cell? ⟨wr.heap.size, 1, none⟩ = some (.int .i64 as') := by rw [cell_of HZB.out 1]; rfl
      have hrg := HRG8.out _ HAS8.out.bel HBW8.out
      clear HRG8 HBW8 HZB HRG
      generalize (wr.alloc (.cells #[.int .i64 ak, .int .i64 as', .int .i64 ae, .int .i64 ar] 35)) = w8 at *
      rcases (show (ak ≠ 1 ∨ (ak = 1 ∧ as' = src)) ∨ (ak = 1 ∧ as' ≠ src) by omega) with hk | ⟨hk1, hk2⟩
      · have hc : (!decide (ak = 1) || decide (as' = src)) = true := by
          rcases hk with h | ⟨h1, h2⟩
          · rw [decide_eq_false h]; rfl
          · rw [decide_eq_true h2, Bool.or_true]
        rw [if_pos hc] at HI HW
        have HN1 : Hid (Row (w8.alloc (.cells #[.int .i64 kd, .int .i64 p, .int .i64 s, .int .i64 q, .string (str nm), .slice sa ss.length sc, .slice ba bl bc] 32)) 32 (.slice (some ⟨w8.heap.size, 0, none⟩) 1 1) 1 [.int .i64 kd, .int .i64 p, .int .i64 s, .int .i64 q, .string (str nm), .slice sa ss.length sc, .slice ba bl bc]) := rowNew w8 32 1 [.int .i64 kd, .int .i64 p, .int .i64 s, .int .i64 q, .string (str nm), .slice sa ss.length sc, .slice ba bl bc] (by decide)
        have HAS1 := Lib.hid (HAS8.out.below (below_alloc w8 (.cells #[.int .i64 kd, .int .i64 p, .int .i64 s, .int .i64 q, .string (str nm), .slice sa ss.length sc, .slice ba bl bc] 32)))
        have HONE1 : Hid (∀ u ∈ ([.int .i64 kd, .int .i64 p, .int .i64 s, .int .i64 q, .string (str nm), .slice sa ss.length sc, .slice ba bl bc] : List Value), u.oneCell' = true) := fun u hu => by
          simp only [List.mem_cons, List.mem_nil_iff, or_false] at hu
          rcases hu with rfl | rfl | rfl | rfl | rfl | rfl | rfl <;> rfl
        have HONE2 : Hid (∀ u ∈ ([.int .i64 (j : Int)] : List Value), u.oneCell' = true) := fun u hu => by
          rw [List.mem_singleton] at hu
          subst hu
          rfl
        clear hc
        rcases hk with hk | ⟨hk1, hk2⟩
        case' inl =>
          have b1 : (ak != 1) = true := by rw [bne_iff_ne]; exact hk
        case' inr =>
          subst hk1
          have b2 : (as' == src) = true := by rw [beq_iff_eq]; exact hk2
        all_goals
          go_upto_region 11 with (first | (with_reducible refine load_at 32 (.tmp 45) rfl ?_; refine wpList_load_mid rfl 32 (.tmp 45) rfl g' (off' + j * 7) rfl [.int .i64 kd, .int .i64 p, .int .i64 s, .int .i64 q, .string (str nm), .slice sa ss.length sc, .slice ba bl bc] _ hrg Tryz.underlying32 rfl (by kernel_rfl) ?_) | (at_builtin; refine wpList_app rfl (.tmp 42) (.tmp 47) 22 rfl w3.heap.size elemOp (.slice ia (ownOps L src j).length ic) (ownOps L src j).length ((ownOps L src j).flatMap fun y => opvCells y.x) rfl HAS1.out.iown _ 1 [.int .i64 kd, .int .i64 p, .int .i64 s, .int .i64 q, .string (str nm), .slice sa ss.length sc, .slice ba bl bc] rfl HN1.out rfl HONE1.out (by omega) (by omega) HAS1.out.bel.size (fun v4 w4 HO4 HG4 => ?_)))
          have HI4 : Hid (w4.ownsRow w3.heap.size 32 7 v4 (ownOps L src (j + 1)).length ((ownOps L src (j + 1)).flatMap fun y => opvCells y.x)) := (by rw [HI.out, List.length_append, List.flatMap_append]; exact HO4.out)
          have HAS4 : Hid (AS w3 w4 v4 (ownOps L src (j + 1)) (.slice ta (kIdx L src j).length tc) (kIdx L src j)) := ⟨((Fr.of_below NoB HAS1.out.bel).grown HG4.out HAS1.out.bel.size (own_le HAS1.out.iown)).below, HI4.out, owns_other HAS1.out.town HAS1.out.iown (by decide) HG4.out⟩
          clear hrg k0 k1 HI4 HO4 HG4 HAS1 HN1 HONE1
          have HN2 : Hid (Row (w4.alloc (.cells #[.int .i64 (j : Int)] 3)) 3 (.slice (some ⟨w4.heap.size, 0, none⟩) 1 1) 1 [.int .i64 (j : Int)]) := rowNew w4 3 1 [.int .i64 (j : Int)] (by decide)
          have HAS2 := Lib.hid (HAS4.out.below (below_alloc w4 (.cells #[.int .i64 (j : Int)] 3)))
          go_wp2_with (at_builtin; refine wpList_app rfl (.tmp 49) (.tmp 51) 72 rfl w3.heap.size elemInt (.slice ta (kIdx L src j).length tc) (kIdx L src j).length (natV (kIdx L src j)) rfl HAS2.out.town _ 1 [.int .i64 (j : Int)] rfl HN2.out rfl HONE2.out (by omega) (by omega) HAS2.out.bel.size (fun v5 w5 HO5 HG5 => ?_))
          have HW5 : Hid (w5.ownsRow w3.heap.size 3 1 v5 (kIdx L src (j + 1)).length (natV (kIdx L src (j + 1)))) := (by rw [HW.out, List.length_append, natV_app]; exact HO5.out)
          have HAS5 : Hid (AS w3 w5 v4 (ownOps L src (j + 1)) v5 (kIdx L src (j + 1))) := ⟨((Fr.of_below NoB HAS2.out.bel).grown HG5.out HAS2.out.bel.size (own_le HAS2.out.town)).below, owns_other HAS2.out.iown HAS2.out.town (by decide) HG5.out, HW5.out⟩
          go_roundw
          case rel => exact ⟨j + 1, by omega, by go_num, HAS5.out⟩
          case measure => simp [intOf]; omega
      · subst hk1
        have hc : (!decide ((1 : Int) = 1) || decide (as' = src)) = false := by rw [decide_eq_false hk2]; rfl
        rw [hc] at HI HW
        simp only [Bool.false_eq_true, if_false, List.append_nil] at HI HW
        have b2 : (as' == src) = false := by rw [beq_eq_false_iff_ne]; exact hk2
        have HAS6 : Hid (AS w3 w8 (.slice ia (ownOps L src j).length ic) (ownOps L src (j + 1)) (.slice ta (kIdx L src j).length tc) (kIdx L src (j + 1))) := by show AS _ _ _ _ _ _; rw [HI.out, HW.out]; exact HAS8.out
        clear hc HI HW hrg
        go_wp2_with fail
        go_roundw
        case rel => exact ⟨j + 1, by omega, by go_num, HAS6.out⟩
        case measure => simp [intOf]; omega
    · have hjj : j = L.length := by omega
      subst hjj
      have dj : decide ((L.length : Int) < (L.length : Int)) = false := decide_eq_false (by omega)
      have HOI : Hid (OpBsR wr (.slice ia (ownOps L src L.length).length ic) (ownOps L src L.length)) := ⟨(Row.of_owns HAS.out.iown).r, fun y hy => (HO3.out.below HAS.out.bel).each y (mem_ownOps (Nat.le_refl _) hy)⟩
      have HOL := Lib.hid (HO3.out.below HAS.out.bel)
      have HBW0 := Lib.hid (HB13.out.trans (HAS.out.bel.mono HB13.out.size))
      have HTW : Hid (∀ w', Below wr.heap.size wr w' → Tabs w') := fun w' h => HT.out _ (HBW0.out.trans (h.mono HBW0.out.size))
      have CL1 := Lib.hid (RLives_any _ _ wr (HTW.out _ (Below.refl _ _)) HOL.out (by omega))
      have CL2 := Lib.hid (fun (w' : World) (hb : Below wr.heap.size wr w') => RLives_any _ _ w' (HTW.out _ hb) (HOI.out.below hb) (by omega))
      rw [alone_lives] at CL2
      have CSX := Lib.hid (fun (z : Life) (w' : World) (hb : Below wr.heap.size wr w') => RSent_any _ L z w' (HTW.out _ hb) (HOL.out.below hb) (by omega))
      have CSY := Lib.hid (fun (z : Life) (w' : World) (hb : Below wr.heap.size wr w') => RSent_any _ _ z w' (HTW.out _ hb) (HOI.out.below hb) (by omega))
      have HLAW := Lib.hid (fun (z : Life) (hz : z ∈ livesTo L L.length L.length) => alone_law hz)
      have HTV := Lib.hid (Row.of_owns HAS.out.town)
      have HIX : Hid (∀ k, k < L.length → keepS L src k = true → (kIdx L src L.length)[rk L src k]? = some k) := fun k h1 h2 => kIdx_at h1 h2
      have HLL := Lib.hid (livesTo_len L L.length L.length)
      generalize livesTo L L.length L.length = LL at *
      rw [List.length_map] at CL2
      have hlm : LL.length ≤ 1440000 := by have := HLL.out; omega
      have HOWN : Hid (∀ z, sentOf (ownOps L src L.length) z = sentOf (ownOps L src L.length) z) := fun _ => rfl
      clear hjl li HLL HAS HOI HOL HTW HA HO3
      generalize hOP : ownOps L src L.length = OP at *
      have HOP := Lib.hid hOP
      clear hOP HOWN
      generalize kIdx L src L.length = KI at *
      go_wp2_with (first | (go_at_call 27; (with_reducible refine CL1.out.mono ?_); rintro e w6 ⟨⟨lv, rfl, hb⟩, hb6⟩; obtain ⟨la, lc, hlv⟩ := Row.form hb; subst hlv; have HLV := Lib.hid hb; have HB6 := Lib.hid hb6; clear hb hb6 CL1) | (go_at_call 27; (with_reducible refine (CL2.out _ HB6.out).mono ?_); rintro e w7 ⟨⟨mv, rfl, hl1⟩, hb7⟩; obtain ⟨ma, mc, hmv⟩ := Row.form hl1; subst hmv; have HMV := Lib.hid hl1; have HB7 := Lib.hid (HB6.out.trans (hb7.mono HB6.out.size)); have HLV7 := Lib.hid (Row.below HLV.out hb7); clear hl1 hb7))
      obtain ⟨wq, rfl⟩ : ∃ W : World, W = wr := ⟨_, rfl⟩
      clear CL2 HLV HB6
      go_loopw [65] (fun s65 w' => ∃ i : Nat, i ≤ LL.length ∧ s65 = .int .i64 (i : Int) ∧ Below w7.heap.size w7 w') (fun s65 _ => LL.length - (intOf s65).toNat)
      case atStart => exact ⟨0, by omega, rfl, Below.refl _ _⟩
      case round =>
        obtain ⟨i, hi, rfl, hbel⟩ := hrel
        have HBR := Lib.hid hbel
        have HBW := Lib.hid (HB7.out.trans (hbel.mono HB7.out.size))
        by_cases hil : i < LL.length
        rotate_left
        · have hii : i = LL.length := by omega
          clear hbel
          subst hii
          go_wp2
          go_ret
          exact ⟨rfl, HBW0.out.trans (HBW.out.mono HBW0.out.size)⟩
        have hz : LL[i]? = some LL[i] := List.getElem?_eq_getElem hil
        obtain ⟨g1, o1, e1, hr1⟩ := life_range2 (Row.below HLV7.out hbel) hz
        obtain ⟨g2, o2, e2, hr2⟩ := life_range2 (l := LL.map (renL L src)) (Row.below HMV.out hbel) (j := i) (z := renL L src LL[i]) (by rw [List.getElem?_map, hz]; rfl)
        subst e1
        subst e2
        have HLW := Lib.hid (HLAW.out LL[i] (List.getElem_mem hil))
        have hiI : (i : Int) < (LL.length : Int) := Int.ofNat_lt.2 hil
        generalize LL[i] = z at *
        obtain ⟨xp, xs, xb, xf⟩ := z
        dsimp only [lifeCells, renL] at hr1 hr2
        have c1 : wr.cell? ⟨g1, o1 + i * 4 + 1, none⟩ = some (.int .i64 xs) := hr1 1 _ rfl
        have HR1 := Lib.hid hr1
        have HR2 := Lib.hid hr2
        clear hz hr1 hr2 hbel
        by_cases hx : xs = src
        rotate_left
        · have b : (xs != src) = true := by rw [bne_iff_ne]; exact hx
          go_wp2_with fail
          go_roundw
          case rel => exact ⟨i + 1, by omega, by go_num, HBR.out⟩
          case measure => simp [intOf]; omega
        subst hx
        have CX0 := CSX.out ⟨xp, xs, xb, xf⟩
        have CY0 := CSY.out (renL L xs ⟨xp, xs, xb, xf⟩)
        have hlw := HLW.out
        dsimp only at hlw
        rw [HOP.out] at hlw
        rw [hlw.1, List.length_map] at CY0
        have hel : (sentOf L ⟨xp, xs, xb, xf⟩).length ≤ 60 := by have := sentOf_le L ⟨xp, xs, xb, xf⟩; omega
        have HEE := Lib.hid hlw.2
        generalize sentOf L ⟨xp, xs, xb, xf⟩ = E at *
        dsimp only [lifeCells, renL] at CX0 CY0
        have CX := Lib.hid CX0
        have CY := Lib.hid CY0
        have KEEP : Hid (∀ w', Below wr.heap.size wr w' → w'.rangeAt g1 (o1 + i * 4) [.int .i64 xp, .int .i64 xs, .int .i64 xb, .int .i64 xf] ∧ w'.rangeAt g2 (o2 + i * 4) [.int .i64 xp, .int .i64 xs, .int .i64 (ren L xs xb), .int .i64 (ren L xs xf)] ∧ Below wr.heap.size wr w') := fun w' hb => ⟨fun m v hm => cell_old (HR1.out m v hm) hb, fun m v hm => cell_old (HR2.out m v hm) hb, hb⟩
        clear CX0 CY0 hlw HLW
        go_upto_region 21 with fail
        clear c1
        refine wp_region_noPanic ?_
        refine AnyT.region_start (d := 11) (S := (fun w' => w'.rangeAt g1 (o1 + i * 4) [.int .i64 xp, .int .i64 xs, .int .i64 xb, .int .i64 xf] ∧ w'.rangeAt g2 (o2 + i * 4) [.int .i64 xp, .int .i64 xs, .int .i64 (ren L xs xb), .int .i64 (ren L xs xf)] ∧ Below wr.heap.size wr w')) (by kernel_rfl) ?_ (fun hHeld0 => ?_)
        · (try dsimp only)
          exact KEEP.out _ (Below.refl _ _).drew
        refine AnyT.tp 0 ?_ rfl ?_ <| AnyT.tp 1 ?_ rfl ?_ <| AnyT.tp 2 ?_ rfl ?_ <| AnyT.tp 3 ?_ rfl ?_ <| AnyT.tp 6 ?_ rfl ?_ <| AnyT.tp 7 ?_ rfl ?_ <| AnyT.tp 8 ?_ rfl ?_ <| AnyT.tp 9 ?_ rfl ?_ <| ?_
        any_goals (intro wS hSw; (try dsimp only at hSw); (try simp only [AnyT.pt]); go_simp; try with_reducible rfl)
        try simp only [AnyT.pt]
        refine AnyT.tk 4 ?_ rfl ?_ <| ?_
        rotate_left
        · intro wS hSw; (try dsimp only at hSw)
          refine (exec_load_mid 59 (.tmp 78) ?_ g1 (o1 + i * 4) ?_ [.int .i64 xp, .int .i64 xs, .int .i64 xb, .int .i64 xf] _ hSw.1 Tryz.underlying59 rfl (by kernel_rfl)).trans ?_
          all_goals rfl
        try simp only [AnyT.pt]
        refine AnyT.tk 10 ?_ rfl ?_ <| ?_
        rotate_left
        · intro wS hSw; (try dsimp only at hSw)
          refine (exec_load_mid 59 (.tmp 84) ?_ g2 (o2 + i * 4) ?_ [.int .i64 xp, .int .i64 xs, .int .i64 (ren L xs xb), .int .i64 (ren L xs xf)] _ hSw.2.1 Tryz.underlying59 rfl (by kernel_rfl)).trans ?_
          all_goals rfl
        try simp only [AnyT.pt]
        refine AnyT.till_ready (rs := [5]) (by kernel_rfl) (by simp) ?_
        refine AnyT.each_cons (i := 5) rfl (fun K hK => ?_) AnyT.each_nil
        go_simp
        refine (CX.out wr.drew (HBW.out.trans ((Below.refl wr.heap.size wr).drew.mono HBW.out.size))).mono ?_
        rintro e wA ⟨⟨ev, rfl, hev⟩, hbA⟩
        have HBA := Lib.hid ((Below.refl wr.heap.size wr).drew.trans hbA)
        have HEV := Lib.hid hev
        clear hev hbA
        go_wp2_with fail
        refine AnyT.go_on hK _ _ ?_ (fun hHeld1 => ?_)
        · (try dsimp only)
          exact KEEP.out _ (by first | with_reducible exact HBA.out | with_reducible exact (Below.refl _ _).drew)
        clear hK K
        try simp only [AnyT.pt]
        refine AnyT.till_ready (rs := [11]) (by kernel_rfl) (by simp) ?_
        refine AnyT.each_cons (i := 11) rfl (fun K hK => ?_) AnyT.each_nil
        go_simp
        refine (CY.out wA (HBW.out.trans (HBA.out.mono HBW.out.size))).mono ?_
        rintro e wB ⟨⟨ev2, rfl, hev2⟩, hbB⟩
        have HBB := Lib.hid (HBA.out.trans (hbB.mono HBA.out.size))
        have HEV2 := Lib.hid hev2
        have HEVB := Lib.hid (Row.below HEV.out hbB)
        clear hev2 hbB
        go_wp2_with fail
        refine AnyT.go_past hK _ _ (by kernel_rfl) ?_
        clear hK K
        try simp only [AnyT.pt]
        refine AnyT.tp 12 ?_ rfl ?_ <| AnyT.tp 13 ?_ rfl ?_ <| ?_
        any_goals (intro wS hSw; (try dsimp only at hSw); (try simp only [AnyT.pt]); go_simp; try with_reducible rfl)
        try simp only [AnyT.pt]
        refine AnyT.till_done (by kernel_rfl) ?_ _
        refine NoPanic.normal ?_
        obtain ⟨ea, ec, hev⟩ := Row.form HEVB.out
        subst hev
        obtain ⟨fa, fc, hev⟩ := Row.form HEV2.out
        subst hev
        clear KEEP CX CY HR1 HR2 HEV hHeld0 hHeld1
        go_wp2_with fail
        go_loopw [94] (fun s94 w' => ∃ k : Nat, k ≤ E.length ∧ s94 = .int .i64 (k : Int) ∧ Below wB.heap.size wB w') (fun s94 _ => E.length - (intOf s94).toNat)
        case atStart => exact ⟨0, by omega, rfl, Below.refl _ _⟩
        case round =>
          obtain ⟨k, hk, rfl, hb⟩ := hrel
          have HBK := Lib.hid hb
          by_cases hkl : k < E.length
          rotate_left
          · have hkk : k = E.length := by omega
            clear hb
            subst hkk
            go_wp2_with fail
            go_roundw
            case rel =>
              exact ⟨i + 1, by omega, by go_num, (HBR.out.trans (HBB.out.mono HBR.out.size)).trans (HBK.out.mono (HBR.out.trans (HBB.out.mono HBR.out.size)).size)⟩
            case measure => simp [intOf]; omega
          have he : E[k]? = some E[k] := List.getElem?_eq_getElem hkl
          have hkI : (k : Int) < (E.length : Int) := Int.ofNat_lt.2 hkl
          obtain ⟨g3, o3, e3, h3⟩ := emi_range2 (Row.below HEVB.out hb) he
          obtain ⟨g4, o4, e4, h4⟩ := emi_range2 (l := E.map (renE L xs)) (Row.below HEV2.out hb) (j := k) (z := renE L xs E[k]) (by rw [List.getElem?_map, he]; rfl)
          subst e3
          subst e4
          obtain ⟨v1, v2, v3⟩ := HEE.out E[k] (List.getElem_mem hkl)
          have hix := HIX.out _ v2 v3
          generalize E[k] = em at *
          obtain ⟨x1, x2, x3, x4, x5, x6⟩ := em
          dsimp only [emiCells, renE] at h3 h4 v1 v2 v3 hix
          obtain ⟨m, rfl⟩ : ∃ m : Nat, x1 = (m : Int) := ⟨x1.toNat, by omega⟩
          have hren : ren L xs (m : Int) = ((rk L xs m : Nat) : Int) := rfl
          rw [hren] at h4
          rw [Int.toNat_natCast] at hix v2 v3
          have hbq : Below wq.heap.size wq wr := HBW.out.trans ((HBB.out.trans (hb.mono HBB.out.size)).mono HBW.out.size)
          obtain ⟨g5, o5, e5, a0⟩ := nat_cell (Row.below HTV.out hbq) hix
          subst e5
          have hrl : rk L xs m < KI.length := (List.getElem?_eq_some_iff.1 hix).1
          generalize rk L xs m = r at *
          have hrI : (r : Int) < (KI.length : Int) := Int.ofNat_lt.2 hrl
          have hr0 : (0 : Int) ≤ (r : Int) := Int.natCast_nonneg r
          have dr1 : decide ((r : Int) < 0) = false := decide_eq_false (by omega)
          have dr2 : decide ((KI.length : Int) ≤ (r : Int)) = false := decide_eq_false (by omega)
          have dr3 : decide (KI.length ≤ r) = false := decide_eq_false (by omega)
          have p0 : wr.cell? ⟨g3, o3 + k * 6, none⟩ = some (.int .i64 (m : Int)) := h3 0 _ rfl
          have p1 : wr.cell? ⟨g3, o3 + k * 6 + 1, none⟩ = some (.int .u16 x2) := h3 1 _ rfl
          have p2 : wr.cell? ⟨g3, o3 + k * 6 + 2, none⟩ = some (.int .u32 x3) := h3 2 _ rfl
          have p3 : wr.cell? ⟨g3, o3 + k * 6 + 3, none⟩ = some (.int .u32 x4) := h3 3 _ rfl
          have p4 : wr.cell? ⟨g3, o3 + k * 6 + 4, none⟩ = some (.int .u16 x5) := h3 4 _ rfl
          have p5 : wr.cell? ⟨g3, o3 + k * 6 + 5, none⟩ = some (.bool x6) := h3 5 _ rfl
          have q0 : wr.cell? ⟨g4, o4 + k * 6, none⟩ = some (.int .i64 (r : Int)) := h4 0 _ rfl
          have q1 : wr.cell? ⟨g4, o4 + k * 6 + 1, none⟩ = some (.int .u16 x2) := h4 1 _ rfl
          have q2 : wr.cell? ⟨g4, o4 + k * 6 + 2, none⟩ = some (.int .u32 x3) := h4 2 _ rfl
          have q3 : wr.cell? ⟨g4, o4 + k * 6 + 3, none⟩ = some (.int .u32 x4) := h4 3 _ rfl
          have q4 : wr.cell? ⟨g4, o4 + k * 6 + 4, none⟩ = some (.int .u16 x5) := h4 4 _ rfl
          have q5 : wr.cell? ⟨g4, o4 + k * 6 + 5, none⟩ = some (.bool x6) := h4 5 _ rfl
          clear h3 h4 he hb hbq hix hren v1 v2 v3
          go_upto_region 27 with fail
          go_quiet (fail)
          have HB9 := Lib.hid (below_drewN HBK.out nq)
          go_wp2_with fail
          go_roundw
          case rel => exact ⟨k + 1, by omega, by go_num, HB9.out⟩
          case measure => simp [intOf]; omega
end Go.Proofs.By
