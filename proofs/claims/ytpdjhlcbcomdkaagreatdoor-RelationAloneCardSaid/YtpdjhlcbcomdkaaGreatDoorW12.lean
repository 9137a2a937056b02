/- Several texts in one: The walks of package desc: Get. The walk of sift.Of: a datagram that is no feedback. The walk of door.datagram: a datagram that is no feedback. -/
import Derived.Deep.RegionHeld3
import Derived.IntWalk
import Derived.Test.YtpdjhlcbcomdkaaGreatDoorW03
import Derived.Test.YtpdjhlcbcomdkaaGreatDoorW04
import Derived.Test.YtpdjhlcbcomdkaaGreatDoorW06
import Derived.Test.YtpdjhlcbcomdkaaGreatDoorW11
set_option linter.unusedVariables false
set_option linter.unusedSimpArgs false
set_option linter.unusedSimpArgs false
namespace Go.Proofs.By
open Go.RowKit Go.Proofs.Heap
theorem and_60_all : ∀ x : Fin 256, bits .and .u8 ((x.val : Nat) : Int) 60 = ((x.val / 4 % 16 * 4 : Nat) : Int) := by decide +kernel
theorem and_60 (n : Nat) (hn : n < 256) : bits .and .u8 (n : Int) 60 = ((n / 4 % 16 * 4 : Nat) : Int) := and_60_all ⟨n, hn⟩
set_option maxRecDepth 100000 in
set_option maxHeartbeats 2000000 in
theorem DescGet_any (v : Value) (b : List UInt8) (w : World) (hv : BRow w v b) :
    Calls Tryz.prog 126 #[v] w fun e w' => e = .returned (.tuple #[.agg #[.int .i64 (descGet b).1.layer, .bool (descGet b).1.key, .bool (descGet b).1.start, .int .u16 (descGet b).1.frame], .int .i64 (descGet b).2]) ∧ Below w.heap.size w w' := by
  have hlen := hv.len
  have HV : Hid (∀ w', Below w.heap.size w w' → BRow w' v b) := fun w' h => hv.below h
  have HE : Hid (descGet b = if b.length < 4 then (noDsc, 2) else if at8 b 0 / 4 % 16 ≠ 0 ∨ at8 b 0 % 4 = 3 ∨ at8 b 1 ≠ 90 then (noDsc, 1) else (⟨(at8 b 0 % 4 : Nat), decide (128 ≤ at8 b 0), decide (at8 b 0 / 64 % 2 = 1), get b 2 2⟩, 0)) := rfl
  obtain ⟨a, c, rfl, hcc, -⟩ := id hv
  clear hv
  have hba := below_alloc w (.cells #[.int .i64 0, .bool false, .bool false, .int .u16 0] 81)
  have HVA := Lib.hid (HV.out _ hba)
  generalize descGet b = X at *
  by_cases h1 : b.length < 4
  · obtain rfl : X = (noDsc, 2) := by rw [HE.out, if_pos h1]
    clear HE HV HVA
    go_enter Tryz.func126, Tryz.ntmps126
    go_wp2
    exact bodyPost_ret (v := .tuple #[.agg #[.int .i64 0, .bool false, .bool false, .int .u16 0], .int .i64 2]) (by simp [results, Tryz.results126, go_sem]) rfl ⟨rfl, hba⟩
  obtain ⟨g, off, cap, e1, _, _, hc⟩ := b_at (HV.out w (Below.refl _ _)) (by omega)
  cases e1
  obtain ⟨_, _, _, e2, _, _, hca⟩ := b_at HVA.out (by omega)
  cases e2
  have d0 : (w.alloc (.cells #[.int .i64 0, .bool false, .bool false, .int .u16 0] 81)).cell? ⟨g, off, none⟩ = some (.int .u8 (at8 b 0 : Int)) := hca 0 (by omega)
  have d1 := hca 1 (by omega)
  have l1 : decide ((b.length : Int) < 4) = false := decide_eq_false (by omega)
  have hx0 := at8_256 b 0
  have hx1 := at8_256 b 1
  have a60 := and_60 (at8 b 0) hx0
  have a3 := and_3 (at8 b 0) hx0
  clear hc hca
  by_cases h2 : at8 b 0 / 4 % 16 ≠ 0 ∨ at8 b 0 % 4 = 3 ∨ at8 b 1 ≠ 90
  · obtain rfl : X = (noDsc, 1) := by rw [HE.out, if_neg h1, if_pos h2]
    clear HE HV HVA
    by_cases h3 : at8 b 0 / 4 % 16 ≠ 0
    · have q3 : (((at8 b 0 / 4 % 16 * 4 : Nat) : Int) != 0) = true := by rw [bne_iff_ne]; omega
      clear h2 h3
      generalize at8 b 0 / 4 % 16 * 4 = y at *
      go_enter Tryz.func126, Tryz.ntmps126
      go_wp2
      exact bodyPost_ret (v := .tuple #[.agg #[.int .i64 0, .bool false, .bool false, .int .u16 0], .int .i64 1]) (by simp [results, Tryz.results126, go_sem]) rfl ⟨rfl, hba⟩
    · have hz : at8 b 0 / 4 % 16 * 4 = 0 := by omega
      rw [hz] at a60
      by_cases h4 : at8 b 0 % 4 = 3
      · rw [h4] at a3
        clear h2 h3 h4 hz
        go_enter Tryz.func126, Tryz.ntmps126
        go_wp2
        exact bodyPost_ret (v := .tuple #[.agg #[.int .i64 0, .bool false, .bool false, .int .u16 0], .int .i64 1]) (by simp [results, Tryz.results126, go_sem]) rfl ⟨rfl, hba⟩
      · have q4 : (((at8 b 0 % 4 : Nat) : Int) == 3) = false := by rw [beq_eq_false_iff_ne]; omega
        have q5 : (((at8 b 1 : Nat) : Int) != 90) = true := by rw [bne_iff_ne]; omega
        clear h2 h3 h4 hz
        generalize at8 b 0 % 4 = y at *
        go_enter Tryz.func126, Tryz.ntmps126
        go_wp2
        exact bodyPost_ret (v := .tuple #[.agg #[.int .i64 0, .bool false, .bool false, .int .u16 0], .int .i64 1]) (by simp [results, Tryz.results126, go_sem]) rfl ⟨rfl, hba⟩
  · have CG := Get_any _ b 2 2 _ HVA.out
    have hn : get b 2 2 < 65536 := get_lt b 2 2 2 (by decide)
    have hz : at8 b 0 / 4 % 16 * 4 = 0 := by omega
    rw [hz] at a60
    have q4 : (((at8 b 0 % 4 : Nat) : Int) == 3) = false := by rw [beq_eq_false_iff_ne]; omega
    have q5 : (((at8 b 1 : Nat) : Int) != 90) = false := by rw [bne_eq_false_iff_eq]; omega
    have a128 := and_128 (at8 b 0) hx0
    have a64 := and_64 (at8 b 0) hx0
    obtain rfl : X = (⟨(at8 b 0 % 4 : Nat), (((at8 b 0 / 128 % 2 * 128 : Nat) : Int) != 0), (((at8 b 0 / 64 % 2 * 64 : Nat) : Int) != 0), get b 2 2⟩, 0) := by
      rw [HE.out, if_neg h1, if_neg h2]
      congr 2
      · rw [Bool.eq_iff_iff, decide_eq_true_eq, bne_iff_ne]; omega
      · rw [Bool.eq_iff_iff, decide_eq_true_eq, bne_iff_ne]; omega
    dsimp only
    have HCG := Lib.hid CG
    have KEEP : Hid (∀ w', Below w.heap.size w w' → w'.cell? ⟨g, off, none⟩ = some (.int .u8 (at8 b 0 : Int)) ∧ Below w.heap.size w w') := fun w' h => by
      obtain ⟨_, _, _, e, _, _, hc⟩ := b_at (HV.out w' h) (by omega)
      cases e
      exact ⟨hc 0 (by omega), h⟩
    clear HE HV HVA h2 hz CG
    have hy4 : at8 b 0 % 4 < 4 := by omega
    have hbI : (0 : Int) < (b.length : Int) := by omega
    have hbN : 0 < b.length := by omega
    have hbZ : ¬ b.length = 0 := by omega
    generalize get b 2 2 = n at *
    generalize at8 b 0 / 128 % 2 * 128 = y1 at *
    generalize at8 b 0 / 64 % 2 * 64 = y2 at *
    generalize at8 b 0 % 4 = y at *
    generalize b.length = N at *
    have hnw : IntKind.u16.wrap (n : Int) = (n : Int) := by rw [IntKind.wrap_u16]; omega
    have hyw : IntKind.i64.wrap (y : Int) = (y : Int) := IntWalk.i64_in _ (by omega)
    go_enter Tryz.func126, Tryz.ntmps126
    go_wp2_with (go_at_call 155; refine HCG.out.mono ?_; rintro e w' ⟨rfl, rfl⟩)
    go_region_held3 (fun w' => w'.cell? ⟨g, off, none⟩ = some (.int .u8 (at8 b 0 : Int)) ∧ Below w.heap.size w w') (first | exact KEEP.out _ (by first | exact (below_alloc w _).drew | with_reducible assumption | exact Below.drew (by with_reducible assumption) | exact Below.setCell (by with_reducible assumption) (by simp) _ | exact Below.setCell (Below.drew (by with_reducible assumption)) (by simp) _) | go_keep) (first | fail)
    go_wp2
    exact bodyPost_ret (v := .tuple #[.agg #[.int .i64 y, .bool ((y1 : Int) != 0), .bool ((y2 : Int) != 0), .int .u16 n], .int .i64 0]) (by simp [results, Tryz.results126, go_sem, hnw]) rfl ⟨rfl, (below_alloc w _).drew⟩
end Go.Proofs.By
set_option linter.unusedSimpArgs false
namespace Go.Proofs.By
open Go.RowKit Go.Proofs.Heap
theorem rtpGet_any (v : Value) (b : List UInt8) (w : World) (hv : BRow w v b) :
    Calls Tryz.prog 125 #[v] w fun e w' => (∃ a, e = .returned (.tuple #[a, .int .i64 (rtpGet b).2]) ∧ PktIn w' a (rtpGet b).1) ∧ Below w.heap.size w w' := by
  by_cases h : (looks b).2 = 0
  · exact rtpGet_ok v b w hv h
  · exact rtpGet_err v b w hv h
def siftQ (b : List UInt8) : Ev × Int := if (rtpGet b).2 ≠ 0 then (.none, (rtpGet b).2) else if (descGet (rtpGet b).1.payload).2 ≠ 0 then (.none, (descGet (rtpGet b).1.payload).2) else (.media (rtpGet b).1 (descGet (rtpGet b).1.payload).1, 0)
theorem sift_plain {b : List UInt8} (h1 : ¬ 512 < b.length) (h2 : ¬ b.length < 2) (h3 : ¬ (192 ≤ at8 b 1 ∧ at8 b 1 ≤ 223)) : sift b = siftQ b := by
  unfold sift siftQ
  rw [if_neg h1, if_neg h2, if_neg h3]
set_option maxRecDepth 100000 in
set_option maxHeartbeats 2000000 in
theorem siftOf_plain (v : Value) (b : List UInt8) (w : World) (hv : BRow w v b) (h3 : ¬ (192 ≤ at8 b 1 ∧ at8 b 1 ≤ 223)) :
    Calls Tryz.prog 105 #[v] w fun e w' => (∃ a, e = .returned (.tuple #[a, .int .i64 (sift b).2]) ∧ EvIn w' a (sift b).1) ∧ Below w.heap.size w w' := by
  have hlen := hv.len
  by_cases h1 : 512 < b.length
  · have HX : Hid (sift b = (.none, 5)) := by show _ = _; unfold sift; rw [if_pos h1]
    obtain ⟨a, c, rfl, -⟩ := id hv
    clear hv h3
    generalize sift b = X at *
    go_enter Tryz.func105, Tryz.ntmps105
    go_wp2_with fail
    go_ret2
    exact ⟨⟨.nilIface, by rw [HX.out]; rfl, by rw [HX.out]; rfl⟩, Below.refl _ _⟩
  by_cases h2 : b.length < 2
  · have HX : Hid (sift b = (.none, 2)) := by show _ = _; unfold sift; rw [if_neg h1, if_pos h2]
    obtain ⟨a, c, rfl, -⟩ := id hv
    clear hv h3
    generalize sift b = X at *
    go_enter Tryz.func105, Tryz.ntmps105
    go_wp2_with fail
    go_ret2
    exact ⟨⟨.nilIface, by rw [HX.out]; rfl, by rw [HX.out]; rfl⟩, Below.refl _ _⟩
  rw [sift_plain h1 h2 h3]
  have HC := Lib.hid (rtpGet_any v b w hv)
  have HX : Hid (siftQ b = if (rtpGet b).2 ≠ 0 then (.none, (rtpGet b).2) else if (descGet (rtpGet b).1.payload).2 ≠ 0 then (.none, (descGet (rtpGet b).1.payload).2) else (.media (rtpGet b).1 (descGet (rtpGet b).1.payload).1, 0)) := rfl
  obtain ⟨g, off, c, rfl, hcc, hmx, hbl⟩ := b_at hv (by omega)
  have d1 := hbl 1 (by omega)
  clear hbl hv hcc hmx
  have hbI : (1 : Int) < (b.length : Int) := by omega
  have hbN : 1 < b.length := by omega
  generalize siftQ b = X at *
  generalize rtpGet b = Y at *
  obtain ⟨P, er⟩ := Y
  dsimp only at HC HX
  have hmk := fun (x : Value) (w : World) => run_makeInterface (P := Tryz.prog) w 97 x (by kernel_rfl)
  have hk : at8 b 1 < 192 ∨ 223 < at8 b 1 := by omega
  generalize at8 b 1 = kd at *
  go_enter Tryz.func105, Tryz.ntmps105
  rcases hk with hk | hk
  · have l1 : decide ((192 : Int) ≤ (kd : Int)) = false := decide_eq_false (by omega)
    go_upto_region 11 with (go_at_call 125; refine HC.out.mono ?_; rintro e w2 ⟨⟨a0, rfl, ⟨cv, ev, pv, ha0, q1, q2, q3⟩⟩, hb2⟩; obtain ⟨ca, cc, hcv, -⟩ := id q1; obtain ⟨ea, ec, hev, -⟩ := id q2; obtain ⟨pa, pc, hpv, -⟩ := id q3; subst hcv; subst hev; subst hpv; dsimp only [pktAgg] at ha0; subst ha0; have HR : Hid (PktR w2 P (.slice ca P.csrc.length cc) (.slice ea P.ext.length ec) (.slice pa P.payload.length pc)) := ⟨q1, q2, q3⟩; have HB2 := Lib.hid hb2; clear q1 q2 q3 hb2)
    clear HC
    have HBA : Hid (Below w.heap.size w (w2.alloc (.cells #[.bool P.marker, .int .i64 P.type, .int .u16 P.seq, .int .u32 P.time, .int .u32 P.ssrc, .slice ca P.csrc.length cc, .bool P.hasExt, .int .u16 P.profile, .slice ea P.ext.length ec, .slice pa P.payload.length pc, .int .i64 P.pad] 79))) := bel_alloc HB2.out (Nat.le_refl _) _
    by_cases her : er = 0
    · subst her
      have HD : Hid (∀ w1, Below w2.heap.size w2 w1 → Calls Tryz.prog 126 #[.slice pa P.payload.length pc] w1 fun e w' => e = .returned (.tuple #[.agg #[.int .i64 (descGet P.payload).1.layer, .bool (descGet P.payload).1.key, .bool (descGet P.payload).1.start, .int .u16 (descGet P.payload).1.frame], .int .i64 (descGet P.payload).2]) ∧ Below w1.heap.size w1 w') := fun w1 h => DescGet_any _ P.payload w1 (HR.out.p.below h).r
      rw [if_neg (by simp)] at HX
      generalize descGet P.payload = D at *
      obtain ⟨d, de⟩ := D
      dsimp only at HD HX
      have hs2 : w2.heap.size < (w2.alloc (.cells #[.bool P.marker, .int .i64 P.type, .int .u16 P.seq, .int .u32 P.time, .int .u32 P.ssrc, .slice ca P.csrc.length cc, .bool P.hasExt, .int .u16 P.profile, .slice ea P.ext.length ec, .slice pa P.payload.length pc, .int .i64 P.pad] 79)).heap.size := by show _ < (w2.heap.push _).size; rw [Array.size_push]; exact Nat.lt_succ_self _
      have hrow := heap_new w2 (.cells #[.bool P.marker, .int .i64 P.type, .int .u16 P.seq, .int .u32 P.time, .int .u32 P.ssrc, .slice ca P.csrc.length cc, .bool P.hasExt, .int .u16 P.profile, .slice ea P.ext.length ec, .slice pa P.payload.length pc, .int .i64 P.pad] 79)
      have HRA := Lib.hid (HR.out.below (below_alloc w2 (.cells #[.bool P.marker, .int .i64 P.type, .int .u16 P.seq, .int .u32 P.time, .int .u32 P.ssrc, .slice ca P.csrc.length cc, .bool P.hasExt, .int .u16 P.profile, .slice ea P.ext.length ec, .slice pa P.payload.length pc, .int .i64 P.pad] 79)))
      go_upto_region 14 with (go_at_call 126; refine (HD.out _ (below_alloc _ _)).mono ?_; rintro e w3 ⟨rfl, hb3⟩; have HB3 := Lib.hid hb3; have y0 := (hb3.block _ hs2).trans hrow; have hs3 : w2.heap.size < w3.heap.size := Nat.lt_of_lt_of_le hs2 hb3.size; clear hb3)
      have HR3 := Lib.hid (HRA.out.below HB3.out)
      have HBW : Hid (Below w.heap.size w w3) := HBA.out.trans (HB3.out.mono HBA.out.size)
      have HBV : Hid (Below w.heap.size w (w3.alloc (.cells #[.int .i64 d.layer, .bool d.key, .bool d.start, .int .u16 d.frame] 81))) := bel_alloc HBW.out (Nat.le_refl _) _
      have HRV := Lib.hid (HR3.out.below (below_alloc w3 (.cells #[.int .i64 d.layer, .bool d.key, .bool d.start, .int .u16 d.frame] 81)))
      have y1 := ((below_alloc w3 (.cells #[.int .i64 d.layer, .bool d.key, .bool d.start, .int .u16 d.frame] 81)).block _ hs3).trans y0
      clear hrow HRA HB3 HD
      by_cases hde : de = 0
      · subst hde
        rw [if_neg (by simp)] at HX
        go_wp2_with (with_reducible refine load_at 79 (.tmp 6) rfl ?_; refine load_rowTo2 rfl 79 (.tmp 6) rfl w2.heap.size rfl 79 #[.bool P.marker, .int .i64 P.type, .int .u16 P.seq, .int .u32 P.time, .int .u32 P.ssrc, .slice ca P.csrc.length cc, .bool P.hasExt, .int .u16 P.profile, .slice ea P.ext.length ec, .slice pa P.payload.length pc, .int .i64 P.pad] (0, 0) _ y1 Tryz.underlying79 rfl (by kernel_rfl) ?_)
        go_ret2
        exact ⟨⟨_, by rw [HX.out]; rfl, by rw [HX.out]; exact ⟨_, _, _, rfl, HRV.out⟩⟩, HBV.out⟩
      · have bl : (de != 0) = true := by rw [bne_iff_ne]; exact hde
        have bl2 : (de == 0) = false := by rw [beq_eq_false_iff_ne]; exact hde
        rw [if_pos hde] at HX
        go_wp2_with fail
        go_ret2
        exact ⟨⟨.nilIface, by rw [HX.out]; rfl, by rw [HX.out]; rfl⟩, HBV.out⟩
    · have bl : (er != 0) = true := by rw [bne_iff_ne]; exact her
      have bl2 : (er == 0) = false := by rw [beq_eq_false_iff_ne]; exact her
      rw [if_pos her] at HX
      go_wp2_with fail
      go_ret2
      exact ⟨⟨.nilIface, by rw [HX.out]; rfl, by rw [HX.out]; rfl⟩, HBA.out⟩
  · have l1 : decide ((192 : Int) ≤ (kd : Int)) = true := decide_eq_true (by omega)
    have l2 : decide ((kd : Int) ≤ 223) = false := decide_eq_false (by omega)
    go_upto_region 11 with (go_at_call 125; refine HC.out.mono ?_; rintro e w2 ⟨⟨a0, rfl, ⟨cv, ev, pv, ha0, q1, q2, q3⟩⟩, hb2⟩; obtain ⟨ca, cc, hcv, -⟩ := id q1; obtain ⟨ea, ec, hev, -⟩ := id q2; obtain ⟨pa, pc, hpv, -⟩ := id q3; subst hcv; subst hev; subst hpv; dsimp only [pktAgg] at ha0; subst ha0; have HR : Hid (PktR w2 P (.slice ca P.csrc.length cc) (.slice ea P.ext.length ec) (.slice pa P.payload.length pc)) := ⟨q1, q2, q3⟩; have HB2 := Lib.hid hb2; clear q1 q2 q3 hb2)
    clear HC
    have HBA : Hid (Below w.heap.size w (w2.alloc (.cells #[.bool P.marker, .int .i64 P.type, .int .u16 P.seq, .int .u32 P.time, .int .u32 P.ssrc, .slice ca P.csrc.length cc, .bool P.hasExt, .int .u16 P.profile, .slice ea P.ext.length ec, .slice pa P.payload.length pc, .int .i64 P.pad] 79))) := bel_alloc HB2.out (Nat.le_refl _) _
    by_cases her : er = 0
    · subst her
      have HD : Hid (∀ w1, Below w2.heap.size w2 w1 → Calls Tryz.prog 126 #[.slice pa P.payload.length pc] w1 fun e w' => e = .returned (.tuple #[.agg #[.int .i64 (descGet P.payload).1.layer, .bool (descGet P.payload).1.key, .bool (descGet P.payload).1.start, .int .u16 (descGet P.payload).1.frame], .int .i64 (descGet P.payload).2]) ∧ Below w1.heap.size w1 w') := fun w1 h => DescGet_any _ P.payload w1 (HR.out.p.below h).r
      rw [if_neg (by simp)] at HX
      generalize descGet P.payload = D at *
      obtain ⟨d, de⟩ := D
      dsimp only at HD HX
      have hs2 : w2.heap.size < (w2.alloc (.cells #[.bool P.marker, .int .i64 P.type, .int .u16 P.seq, .int .u32 P.time, .int .u32 P.ssrc, .slice ca P.csrc.length cc, .bool P.hasExt, .int .u16 P.profile, .slice ea P.ext.length ec, .slice pa P.payload.length pc, .int .i64 P.pad] 79)).heap.size := by show _ < (w2.heap.push _).size; rw [Array.size_push]; exact Nat.lt_succ_self _
      have hrow := heap_new w2 (.cells #[.bool P.marker, .int .i64 P.type, .int .u16 P.seq, .int .u32 P.time, .int .u32 P.ssrc, .slice ca P.csrc.length cc, .bool P.hasExt, .int .u16 P.profile, .slice ea P.ext.length ec, .slice pa P.payload.length pc, .int .i64 P.pad] 79)
      have HRA := Lib.hid (HR.out.below (below_alloc w2 (.cells #[.bool P.marker, .int .i64 P.type, .int .u16 P.seq, .int .u32 P.time, .int .u32 P.ssrc, .slice ca P.csrc.length cc, .bool P.hasExt, .int .u16 P.profile, .slice ea P.ext.length ec, .slice pa P.payload.length pc, .int .i64 P.pad] 79)))
      go_upto_region 14 with (go_at_call 126; refine (HD.out _ (below_alloc _ _)).mono ?_; rintro e w3 ⟨rfl, hb3⟩; have HB3 := Lib.hid hb3; have y0 := (hb3.block _ hs2).trans hrow; have hs3 : w2.heap.size < w3.heap.size := Nat.lt_of_lt_of_le hs2 hb3.size; clear hb3)
      have HR3 := Lib.hid (HRA.out.below HB3.out)
      have HBW : Hid (Below w.heap.size w w3) := HBA.out.trans (HB3.out.mono HBA.out.size)
      have HBV : Hid (Below w.heap.size w (w3.alloc (.cells #[.int .i64 d.layer, .bool d.key, .bool d.start, .int .u16 d.frame] 81))) := bel_alloc HBW.out (Nat.le_refl _) _
      have HRV := Lib.hid (HR3.out.below (below_alloc w3 (.cells #[.int .i64 d.layer, .bool d.key, .bool d.start, .int .u16 d.frame] 81)))
      have y1 := ((below_alloc w3 (.cells #[.int .i64 d.layer, .bool d.key, .bool d.start, .int .u16 d.frame] 81)).block _ hs3).trans y0
      clear hrow HRA HB3 HD
      by_cases hde : de = 0
      · subst hde
        rw [if_neg (by simp)] at HX
        go_wp2_with (with_reducible refine load_at 79 (.tmp 6) rfl ?_; refine load_rowTo2 rfl 79 (.tmp 6) rfl w2.heap.size rfl 79 #[.bool P.marker, .int .i64 P.type, .int .u16 P.seq, .int .u32 P.time, .int .u32 P.ssrc, .slice ca P.csrc.length cc, .bool P.hasExt, .int .u16 P.profile, .slice ea P.ext.length ec, .slice pa P.payload.length pc, .int .i64 P.pad] (0, 0) _ y1 Tryz.underlying79 rfl (by kernel_rfl) ?_)
        go_ret2
        exact ⟨⟨_, by rw [HX.out]; rfl, by rw [HX.out]; exact ⟨_, _, _, rfl, HRV.out⟩⟩, HBV.out⟩
      · have bl : (de != 0) = true := by rw [bne_iff_ne]; exact hde
        have bl2 : (de == 0) = false := by rw [beq_eq_false_iff_ne]; exact hde
        rw [if_pos hde] at HX
        go_wp2_with fail
        go_ret2
        exact ⟨⟨.nilIface, by rw [HX.out]; rfl, by rw [HX.out]; rfl⟩, HBV.out⟩
    · have bl : (er != 0) = true := by rw [bne_iff_ne]; exact her
      have bl2 : (er == 0) = false := by rw [beq_eq_false_iff_ne]; exact her
      rw [if_pos her] at HX
      go_wp2_with fail
      go_ret2
      exact ⟨⟨.nilIface, by rw [HX.out]; rfl, by rw [HX.out]; rfl⟩, HBA.out⟩
end Go.Proofs.By
set_option linter.unusedSimpArgs false
namespace Go.Proofs.By
open Go.RowKit Go.Proofs.Heap
open Go.Proofs.Rm (TurnRow Turn Room RoomAt Inv joined Joined_any)
theorem run_typeAssert_same {P : Program} (w : World) (t xt : TypeId) (v : Value) (d : TypeDesc) (hu : P.underlying t = some d) (hd : (match d with | .interface _ => false | _ => true) = true) : (Instr.typeAssert (.iface t v) xt t true).run P w = .ok (.tuple #[v, .bool true]) w := by
  unfold Instr.typeAssert
  simp only [Sem.run_bind, run_underlying hu w, Result.andThen_ok]
  cases d <;> simp_all
theorem sift_media {b : List UInt8} (h3 : ¬ (192 ≤ at8 b 1 ∧ at8 b 1 ≤ 223)) (h : (sift b).2 = 0) : ∃ p d, (sift b).1 = .media p d := by
  by_cases h1 : 512 < b.length
  · unfold sift at h; rw [if_pos h1] at h; cases h
  by_cases h2 : b.length < 2
  · unfold sift at h; rw [if_neg h1, if_pos h2] at h; cases h
  rw [sift_plain h1 h2 h3] at h ⊢
  unfold siftQ at h ⊢
  by_cases h4 : (rtpGet b).2 ≠ 0
  · rw [if_pos h4] at h; exact absurd h h4
  rw [if_neg h4] at h ⊢
  by_cases h5 : (descGet (rtpGet b).1.payload).2 ≠ 0
  · rw [if_pos h5] at h; exact absurd h h5
  rw [if_neg h5]
  exact ⟨_, _, rfl⟩
set_option maxRecDepth 100000 in
set_option maxHeartbeats 2000000 in
theorem datagram_plain (g b : Nat) (R : Room) (ep kd peer src ly : Int) (nm : ByteArray) (sa ba : Option Addr) (sl sc bl bc : Nat) (l : List UInt8) (w : World) (hD : DoorAt w g b R ep) (hI : Inv R) (hl : ∀ n, (R.src n).ss.length ≤ 1000000) (hv : BRow w (.slice ba bl bc) l) (h3 : ¬ (192 ≤ at8 l 1 ∧ at8 l 1 ≤ 223)) :
    Calls Tryz.prog 76 #[.pointer (some ⟨g, 0, none⟩), .agg #[.int .i64 kd, .int .i64 peer, .int .i64 src, .int .i64 ly, .string nm, .slice sa sl sc, .slice ba bl bc]] w fun e w' => (∃ cs : List Value, e = .returned (.agg cs.toArray) ∧ TakenIn w' cs (datagram R ep peer l).1.1) ∧ DoorAt w' g b (datagram R ep peer l).1.2 (datagram R ep peer l).2 ∧ Fr w.heap.size (fun k => k = b ∨ k = g) w w' := by
  have HX : Hid (datagram R ep peer l = if (sift l).2 ≠ 0 then ((refusedT 3 (sift l).2, R), ep) else if !joined R peer then ((refusedT 4 0, R), ep) else match (sift l).1 with
    | .media p d => ((mediaT R ep peer p d, R), ep)
    | .feedback l => ((feedT (ep + 1) l (itemsDo peer l R).1.1 (itemsDo peer l R).2, (itemsDo peer l R).1.2), ep + 1)
    | .none => ((feedT (ep + 1) [] [] 0, R), ep + 1)) := rfl
  have HSM := Lib.hid (sift_media (b := l) h3)
  have hgl := hD.cells.2.2.2
  have hxb : ((w.alloc (.cells #[.int .i64 kd, .int .i64 peer, .int .i64 src, .int .i64 ly, .string nm, .slice sa sl sc, .slice ba bl bc] 32)).alloc (.cells #[.int .i64 0, .int .i64 0, .int .i64 0, .int .i64 0, .bool false, .int .i64 0, .int .u16 0, .int .u32 0, .int .u32 0, .slice none 0 0, .bool false, .int .u16 0, .slice none 0 0, .slice none 0 0, .int .i64 0, .int .i64 0, .bool false, .bool false, .int .u16 0, .slice none 0 0, .slice none 0 0, .int .i64 0] 100)).heap[w.heap.size]? = some (.cells #[.int .i64 kd, .int .i64 peer, .int .i64 src, .int .i64 ly, .string nm, .slice sa sl sc, .slice ba bl bc] 32 (0, 0)) := by
    rw [(below_alloc _ _).block _ (by show _ < (w.heap.push _).size; rw [Array.size_push]; exact Nat.lt_succ_self _)]
    exact heap_new w _
  have hz : ((w.alloc (.cells #[.int .i64 kd, .int .i64 peer, .int .i64 src, .int .i64 ly, .string nm, .slice sa sl sc, .slice ba bl bc] 32)).alloc (.cells #[.int .i64 0, .int .i64 0, .int .i64 0, .int .i64 0, .bool false, .int .i64 0, .int .u16 0, .int .u32 0, .int .u32 0, .slice none 0 0, .bool false, .int .u16 0, .slice none 0 0, .slice none 0 0, .int .i64 0, .int .i64 0, .bool false, .bool false, .int .u16 0, .slice none 0 0, .slice none 0 0, .int .i64 0] 100)).heap[w.heap.size + 1]? = some (.cells #[.int .i64 0, .int .i64 0, .int .i64 0, .int .i64 0, .bool false, .int .i64 0, .int .u16 0, .int .u32 0, .int .u32 0, .slice none 0 0, .bool false, .int .u16 0, .slice none 0 0, .slice none 0 0, .int .i64 0, .int .i64 0, .bool false, .bool false, .int .u16 0, .slice none 0 0, .slice none 0 0, .int .i64 0] 100 (0, 0)) := by
    have h := heap_new (w.alloc (.cells #[.int .i64 kd, .int .i64 peer, .int .i64 src, .int .i64 ly, .string nm, .slice sa sl sc, .slice ba bl bc] 32)) (.cells #[.int .i64 0, .int .i64 0, .int .i64 0, .int .i64 0, .bool false, .int .i64 0, .int .u16 0, .int .u32 0, .int .u32 0, .slice none 0 0, .bool false, .int .u16 0, .slice none 0 0, .slice none 0 0, .int .i64 0, .int .i64 0, .bool false, .bool false, .int .u16 0, .slice none 0 0, .slice none 0 0, .int .i64 0] 100)
    have e : (w.alloc (.cells #[.int .i64 kd, .int .i64 peer, .int .i64 src, .int .i64 ly, .string nm, .slice sa sl sc, .slice ba bl bc] 32)).heap.size = w.heap.size + 1 := by show (w.heap.push _).size = _; rw [Array.size_push]
    rw [e] at h
    exact h
  have hbw : Below w.heap.size w ((w.alloc (.cells #[.int .i64 kd, .int .i64 peer, .int .i64 src, .int .i64 ly, .string nm, .slice sa sl sc, .slice ba bl bc] 32)).alloc (.cells #[.int .i64 0, .int .i64 0, .int .i64 0, .int .i64 0, .bool false, .int .i64 0, .int .u16 0, .int .u32 0, .int .u32 0, .slice none 0 0, .bool false, .int .u16 0, .slice none 0 0, .slice none 0 0, .int .i64 0, .int .i64 0, .bool false, .bool false, .int .u16 0, .slice none 0 0, .slice none 0 0, .int .i64 0] 100)) := bel_alloc (below_alloc w _) (Nat.le_refl _) _
  have HD0 := Lib.hid hD
  have HD1 : Hid (DoorAt ((w.alloc (.cells #[.int .i64 kd, .int .i64 peer, .int .i64 src, .int .i64 ly, .string nm, .slice sa sl sc, .slice ba bl bc] 32)).alloc (.cells #[.int .i64 0, .int .i64 0, .int .i64 0, .int .i64 0, .bool false, .int .i64 0, .int .u16 0, .int .u32 0, .int .u32 0, .slice none 0 0, .bool false, .int .u16 0, .slice none 0 0, .slice none 0 0, .int .i64 0, .int .i64 0, .bool false, .bool false, .int .u16 0, .slice none 0 0, .slice none 0 0, .int .i64 0] 100)) g b R ep) := hD.below hbw
  have CS := Lib.hid (siftOf_plain _ l ((w.alloc (.cells #[.int .i64 kd, .int .i64 peer, .int .i64 src, .int .i64 ly, .string nm, .slice sa sl sc, .slice ba bl bc] 32)).alloc (.cells #[.int .i64 0, .int .i64 0, .int .i64 0, .int .i64 0, .bool false, .int .i64 0, .int .u16 0, .int .u32 0, .int .u32 0, .slice none 0 0, .bool false, .int .u16 0, .slice none 0 0, .slice none 0 0, .int .i64 0, .int .i64 0, .bool false, .bool false, .int .u16 0, .slice none 0 0, .slice none 0 0, .int .i64 0] 100)) (hv.below hbw) h3)
  have HXB := Lib.hid hxb
  have HZ := Lib.hid hz
  have HBW := Lib.hid hbw
  clear hD hv hxb hz hbw h3
  generalize datagram R ep peer l = X at *
  generalize sift l = Y at *
  obtain ⟨ev, er⟩ := Y
  dsimp only at HX HSM CS
  go_enter Tryz.func76, Tryz.ntmps76
  go_upto_region 2 with (go_at_call 105; refine CS.out.mono ?_; rintro e w2 ⟨⟨a, rfl, hev⟩, hb2⟩; have HEV := Lib.hid hev; have HB2 := Lib.hid hb2; clear hev hb2)
  clear CS
  generalize ((w.alloc (.cells #[.int .i64 kd, .int .i64 peer, .int .i64 src, .int .i64 ly, .string nm, .slice sa sl sc, .slice ba bl bc] 32)).alloc (.cells #[.int .i64 0, .int .i64 0, .int .i64 0, .int .i64 0, .bool false, .int .i64 0, .int .u16 0, .int .u32 0, .int .u32 0, .slice none 0 0, .bool false, .int .u16 0, .slice none 0 0, .slice none 0 0, .int .i64 0, .int .i64 0, .bool false, .bool false, .int .u16 0, .slice none 0 0, .slice none 0 0, .int .i64 0] 100)) = w1 at *
  have KEEP : Hid (∀ w', Below w1.heap.size w1 w' → w'.cell? ⟨g, 0, none⟩ = some (.pointer (some ⟨b, 0, none⟩)) ∧ w'.cell? ⟨w.heap.size, 1, none⟩ = some (.int .i64 peer)) := fun w' h =>
    ⟨(HD1.out.below h).cells.1, by rw [cell_of ((h.block w.heap.size (hp_lt HXB.out)).trans HXB.out) 1]; rfl⟩
  have HEND : Hid (∀ w' cs T, Below w.heap.size w w' → TakenIn w' cs T → X = ((T, R), ep) → (∃ cs' : List Value, Ending.returned (.agg cs.toArray) = .returned (.agg cs'.toArray) ∧ TakenIn w' cs' X.1.1) ∧ DoorAt w' g b X.1.2 X.2 ∧ Fr w.heap.size (fun k => k = b ∨ k = g) w w') := fun w' cs T h1 h2 h3 => by
    rw [h3]; exact ⟨⟨cs, rfl, h2⟩, HD0.out.below h1, Fr.of_below _ h1⟩
  by_cases her : er = 0
  · subst her
    rw [if_neg (by simp)] at HX
    obtain ⟨p, d, hpd⟩ := HSM.out rfl
    subst hpd
    dsimp only at HX
    have HJ := Lib.hid (Joined_any b R peer w2.drew ((HD1.out.room.below HB2.out).below (Below.refl _ _).drew))
    go_upto_region 4 with fail
    refine wp_region_noPanic ?_
    refine wp_region_held_drew (S := (fun w' => w'.cell? ⟨g, 0, none⟩ = some (.pointer (some ⟨b, 0, none⟩)) ∧ w'.cell? ⟨w.heap.size, 1, none⟩ = some (.int .i64 peer))) (by kernel_rfl) ?_ (fun hHeld0 => ?_)
    · (try dsimp only)
      exact KEEP.out _ HB2.out.drew
    refine wpAnyH_take (i := 0) (v := ?_) rfl (by kernel_rfl) (by kernel_rfl) (by kernel_rfl) (fun _ _ _ h => h) (Or.inl ⟨by rfl, ?_⟩) (by assumption) ?_
    rotate_left
    · intro w hSw
      (try dsimp only at hSw)
      go_simp
      try with_reducible rfl
    try simp only [List.getElem_toArray, List.getElem_cons_succ, List.getElem_cons_zero, Act.put, List.setIfInBounds_toArray, List.set_cons_zero, List.set_cons_succ]
    refine wpAnyH_take (i := 1) (v := ?_) rfl (by kernel_rfl) (by kernel_rfl) (by kernel_rfl) (fun _ _ _ h => h) (Or.inl ⟨by rfl, ?_⟩) (by assumption) ?_
    rotate_left
    · intro w hSw
      (try dsimp only at hSw)
      go_simp
      try with_reducible rfl
    try simp only [List.getElem_toArray, List.getElem_cons_succ, List.getElem_cons_zero, Act.put, List.setIfInBounds_toArray, List.set_cons_zero, List.set_cons_succ]
    refine wpAnyH_take (i := 2) (v := ?_) rfl (by kernel_rfl) (by kernel_rfl) (by kernel_rfl) (fun _ _ _ h => h) (Or.inl ⟨by rfl, ?_⟩) (by assumption) ?_
    rotate_left
    · intro w hSw
      (try dsimp only at hSw)
      go_simp
      try with_reducible rfl
    try simp only [List.getElem_toArray, List.getElem_cons_succ, List.getElem_cons_zero, Act.put, List.setIfInBounds_toArray, List.set_cons_zero, List.set_cons_succ]
    refine wpAnyH_take (i := 3) (v := ?_) rfl (by kernel_rfl) (by kernel_rfl) (by kernel_rfl) (fun _ _ _ h => h) (Or.inl ⟨by rfl, ?_⟩) (by assumption) ?_
    rotate_left
    · intro w hSw
      (try dsimp only at hSw)
      go_simp
      try with_reducible rfl
    try simp only [List.getElem_toArray, List.getElem_cons_succ, List.getElem_cons_zero, Act.put, List.setIfInBounds_toArray, List.set_cons_zero, List.set_cons_succ]
    refine wpAnyH_take (i := 4) (v := ?_) rfl (by kernel_rfl) (by kernel_rfl) (by kernel_rfl) (fun _ _ _ h => h) (Or.inl ⟨by rfl, ?_⟩) (by assumption) ?_
    rotate_left
    · intro w hSw
      (try dsimp only at hSw)
      go_simp
      try with_reducible rfl
    try simp only [List.getElem_toArray, List.getElem_cons_succ, List.getElem_cons_zero, Act.put, List.setIfInBounds_toArray, List.set_cons_zero, List.set_cons_succ]
    refine wpAnyH_take (i := 5) (v := ?_) rfl (by kernel_rfl) (by kernel_rfl) (by kernel_rfl) (fun _ _ _ h => h) (Or.inl ⟨by rfl, ?_⟩) (by assumption) ?_
    rotate_left
    · intro w hSw
      (try dsimp only at hSw)
      go_simp
      try with_reducible rfl
    try simp only [List.getElem_toArray, List.getElem_cons_succ, List.getElem_cons_zero, Act.put, List.setIfInBounds_toArray, List.set_cons_zero, List.set_cons_succ]
    refine wpAnyH_ready (rs := [6]) (by kernel_rfl) (by simp) ?_
    refine AllReadyH.cons (i := 6) rfl (fun K hK => ?_) AllReadyH.nil
    go_simp
    refine HJ.out.mono ?_
    rintro e w' ⟨rfl, rfl⟩
    go_wp2_with fail
    refine hK.out _ _ ?_ (fun hHeld1 => ?_)
    · (try dsimp only)
      exact KEEP.out _ HB2.out.drew
    clear hK K
    try simp only [List.getElem_toArray, List.getElem_cons_succ, List.getElem_cons_zero, Act.put, List.setIfInBounds_toArray, List.set_cons_zero, List.set_cons_succ]
    refine wpAnyH_take (i := 7) (v := ?_) rfl (by kernel_rfl) (by kernel_rfl) (by kernel_rfl) (fun _ _ _ h => h) (Or.inl ⟨by rfl, ?_⟩) (by assumption) ?_
    rotate_left
    · intro w hSw
      (try dsimp only at hSw)
      go_simp
      try with_reducible rfl
    try simp only [List.getElem_toArray, List.getElem_cons_succ, List.getElem_cons_zero, Act.put, List.setIfInBounds_toArray, List.set_cons_zero, List.set_cons_succ]
    refine wpAnyH_done (by kernel_rfl) ?_ _
    refine NoPanic.normal ?_
    clear hHeld0 hHeld1 KEEP
    have HB3 : Hid (Below w1.heap.size w1 w2.drew) := HB2.out.drew
    have HEV3 : Hid (EvIn w2.drew a (.media p d)) := HEV.out.below (Below.refl _ _).drew
    clear HB2 HEV HJ
    generalize w2.drew = w3 at *
    clear w2
    by_cases hj : joined R peer = true
    · rw [hj, if_neg (by simp)] at HX
      rw [hj]
      have hta := fun (w : World) (v : Value) => run_typeAssert_same (P := Tryz.prog) w 97 188 v _ Tryz.underlying97 rfl
      obtain ⟨cv, ev, pv, ha, hP⟩ := HEV3.out
      obtain ⟨⟨ca, cc, hcv⟩, ⟨ea, ec, hevv⟩, ⟨pa, pc, hpv⟩⟩ := hP.form
      subst hcv; subst hevv; subst hpv
      dsimp only [medCells] at ha
      subst ha
      have hxr := heap_new w3 (.cells #[.bool p.marker, .int .i64 p.type, .int .u16 p.seq, .int .u32 p.time, .int .u32 p.ssrc, .slice ca p.csrc.length cc, .bool p.hasExt, .int .u16 p.profile, .slice ea p.ext.length ec, .slice pa p.payload.length pc, .int .i64 p.pad, .int .i64 d.layer, .bool d.key, .bool d.start, .int .u16 d.frame] 97)
      have HB4 : Hid (Below w1.heap.size w1 (w3.alloc (.cells #[.bool p.marker, .int .i64 p.type, .int .u16 p.seq, .int .u32 p.time, .int .u32 p.ssrc, .slice ca p.csrc.length cc, .bool p.hasExt, .int .u16 p.profile, .slice ea p.ext.length ec, .slice pa p.payload.length pc, .int .i64 p.pad, .int .i64 d.layer, .bool d.key, .bool d.start, .int .u16 d.frame] 97))) := bel_alloc HB3.out (Nat.le_refl _) _
      have CM := Lib.hid (media_any g b R ep peer p d _ _ _ (w3.alloc (.cells #[.bool p.marker, .int .i64 p.type, .int .u16 p.seq, .int .u32 p.time, .int .u32 p.ssrc, .slice ca p.csrc.length cc, .bool p.hasExt, .int .u16 p.profile, .slice ea p.ext.length ec, .slice pa p.payload.length pc, .int .i64 p.pad, .int .i64 d.layer, .bool d.key, .bool d.start, .int .u16 d.frame] 97)) (HD1.out.below HB4.out) hI hl (hP.below (below_alloc _ _)))
      have hx4 := cell_of ((HB3.out.block w.heap.size (hp_lt HXB.out)).trans HXB.out) 1
      simp only [List.getElem?_toArray, List.getElem?_cons_zero, List.getElem?_cons_succ] at hx4
      have hxl : w.heap.size < w3.heap.size := Nat.lt_of_lt_of_le (hp_lt HXB.out) HB3.out.size
      clear HEV3 hP
      dsimp only [medCells] at CM
      go_wp2_with (first | (with_reducible refine load_at 97 (.tmp 7) rfl ?_; refine load_rowTo2 rfl 97 (.tmp 7) rfl w3.heap.size rfl 97 #[.bool p.marker, .int .i64 p.type, .int .u16 p.seq, .int .u32 p.time, .int .u32 p.ssrc, .slice ca p.csrc.length cc, .bool p.hasExt, .int .u16 p.profile, .slice ea p.ext.length ec, .slice pa p.payload.length pc, .int .i64 p.pad, .int .i64 d.layer, .bool d.key, .bool d.start, .int .u16 d.frame] (0, 0) _ hxr Tryz.underlying97 rfl (by kernel_rfl) ?_) | (go_at_call 106; refine CM.out.mono ?_; rintro e w5 ⟨⟨cs, rfl, htk⟩, hb5⟩; have HB5 := Lib.hid (HB4.out.trans (hb5.mono HB4.out.size)); have hz5 := (HB5.out.block (w.heap.size + 1) (hp_lt HZ.out)).trans HZ.out; have hi := tk_info htk; have hold := tk_hold htk; have hone := htk.one; have HTK := Lib.hid htk; clear htk hb5) | (with_reducible refine store_at 100 (.tmp 4) (.tmp 46) rfl ?_; refine store_rowTo2 rfl 100 (.tmp 4) (.tmp 46) rfl rfl (w.heap.size + 1) cs.toArray rfl rfl 100 #[.int .i64 0, .int .i64 0, .int .i64 0, .int .i64 0, .bool false, .int .i64 0, .int .u16 0, .int .u32 0, .int .u32 0, .slice none 0 0, .bool false, .int .u16 0, .slice none 0 0, .slice none 0 0, .int .i64 0, .int .i64 0, .bool false, .bool false, .int .u16 0, .slice none 0 0, .slice none 0 0, .int .i64 0] hz5 hi hold hone ?_))
      refine bodyPost_ret (v := .agg cs.toArray) ?_ rfl ?_
      · exact results_cell_row (by rfl) _ _ (w.heap.size + 1) 100 cs.toArray (0, 0) _ (by rfl) (setRow_heap _ _ _ _ _ _ hz5) Tryz.underlying100 rfl hi
      exact HEND.out _ cs _ (below_setRow (HBW.out.trans (HB5.out.mono HBW.out.size)) (Nat.le_succ _) _) (HTK.out.setRow hz5 _) HX.out
    · rw [if_pos (by simp [hj])] at HX
      rw [Bool.not_eq_true] at hj
      rw [hj]
      go_wp2_with (first | (go_at_call 78; refine (refused_any 4 0 _).mono ?_; rintro e w5 ⟨⟨cs, rfl, htk⟩, hb5⟩; have HB5 := Lib.hid (HB3.out.trans (hb5.mono HB3.out.size)); have hz5 := (HB5.out.block (w.heap.size + 1) (hp_lt HZ.out)).trans HZ.out; have hi := tk_info htk; have hold := tk_hold htk; have hone := htk.one; have HTK := Lib.hid htk; clear htk hb5) | (with_reducible refine store_at 100 (.tmp 4) (.tmp 35) rfl ?_; refine store_rowTo2 rfl 100 (.tmp 4) (.tmp 35) rfl rfl (w.heap.size + 1) cs.toArray rfl rfl 100 #[.int .i64 0, .int .i64 0, .int .i64 0, .int .i64 0, .bool false, .int .i64 0, .int .u16 0, .int .u32 0, .int .u32 0, .slice none 0 0, .bool false, .int .u16 0, .slice none 0 0, .slice none 0 0, .int .i64 0, .int .i64 0, .bool false, .bool false, .int .u16 0, .slice none 0 0, .slice none 0 0, .int .i64 0] hz5 hi hold hone ?_))
      refine bodyPost_ret (v := .agg cs.toArray) ?_ rfl ?_
      · exact results_cell_row (by rfl) _ _ (w.heap.size + 1) 100 cs.toArray (0, 0) _ (by rfl) (setRow_heap _ _ _ _ _ _ hz5) Tryz.underlying100 rfl hi
      exact HEND.out _ cs _ (below_setRow (HBW.out.trans (HB5.out.mono HBW.out.size)) (Nat.le_succ _) _) (HTK.out.setRow hz5 _) HX.out
  · have hb : (er != 0) = true := by rw [bne_iff_ne]; exact her
    have hb2 : (er == 0) = false := by rw [beq_eq_false_iff_ne]; exact her
    rw [if_pos her] at HX
    go_wp2_with (first | (go_at_call 78; refine (refused_any 3 er _).mono ?_; rintro e w5 ⟨⟨cs, rfl, htk⟩, hb5⟩; have HB5 := Lib.hid (HB2.out.trans (hb5.mono HB2.out.size)); have hz5 := (HB5.out.block (w.heap.size + 1) (hp_lt HZ.out)).trans HZ.out; have hi := tk_info htk; have hold := tk_hold htk; have hone := htk.one; have HTK := Lib.hid htk; clear htk hb5) | (with_reducible refine store_at 100 (.tmp 4) (.tmp 26) rfl ?_; refine store_rowTo2 rfl 100 (.tmp 4) (.tmp 26) rfl rfl (w.heap.size + 1) cs.toArray rfl rfl 100 #[.int .i64 0, .int .i64 0, .int .i64 0, .int .i64 0, .bool false, .int .i64 0, .int .u16 0, .int .u32 0, .int .u32 0, .slice none 0 0, .bool false, .int .u16 0, .slice none 0 0, .slice none 0 0, .int .i64 0, .int .i64 0, .bool false, .bool false, .int .u16 0, .slice none 0 0, .slice none 0 0, .int .i64 0] hz5 hi hold hone ?_))
    refine bodyPost_ret (v := .agg cs.toArray) ?_ rfl ?_
    · exact results_cell_row (by rfl) _ _ (w.heap.size + 1) 100 cs.toArray (0, 0) _ (by rfl) (setRow_heap _ _ _ _ _ _ hz5) Tryz.underlying100 rfl hi
    exact HEND.out _ cs _ (below_setRow (HBW.out.trans (HB5.out.mono HBW.out.size)) (Nat.le_succ _) _) (HTK.out.setRow hz5 _) HX.out
end Go.Proofs.By
