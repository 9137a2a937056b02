/- Several texts in one: The walks of package rtp: look. What packages report, rtcp, sift compute of bytes. Plain. The walks of packages report and rtcp: the small ones; desc.Get. slices.Clone of bytes; the walks of package report's reader. The walks of package rtcp: length; desc.Get. The walk of rtcp.parts. The walk of rtcp.parts: the walk. -/
import Derived.BigQuiet
import Derived.Deep.QuietTactic
import Derived.Lib.Walk
import Derived.WalkSpells
import Derived.StillTailTactics
import Derived.Test.YtpdjhlcbcomdkaaGreatDoorW02
set_option linter.unusedVariables false
set_option linter.unusedSimpArgs false
set_option linter.unusedSimpArgs false
namespace Go.Proofs.By
open Go.RowKit Go.Proofs.Heap
theorem extn_le (b : List UInt8) (p : Nat) : (extn b p).1.1 ≤ p + 4 ∧ (extn b p).1.2 ≤ p + 4 + 4 * 65535 := by
  have h := get_lt b ((p : Int) + 2) 2 2 (by decide)
  have h : get b ((p : Int) + 2) 2 < 65536 := h
  unfold extn
  split
  · exact ⟨by show p ≤ _; omega, by show p ≤ _; omega⟩
  · exact ⟨by show p + 4 ≤ _; omega, by show p + 4 + 4 * get b ((p : Int) + 2) 2 ≤ _; omega⟩
theorem extn_ok {b : List UInt8} {p : Nat} (h : (extn b p).2 = true) : (extn b p).1.2 ≤ b.length ∧ (extn b p).1.1 ≤ (extn b p).1.2 := by
  unfold extn at h ⊢
  split
  · rename_i h0
    rw [if_pos h0] at h
    exact ⟨of_decide_eq_true h, Nat.le_refl _⟩
  · rename_i h0
    rw [if_neg h0, Bool.and_eq_true] at h
    exact ⟨of_decide_eq_true h.2, by show p + 4 ≤ p + 4 + _; omega⟩
theorem padd_le {b r : List UInt8} (h : (padd b r).2 = true) : (padd b r).1 ≤ r.length := by
  unfold padd at h ⊢
  by_cases h0 : at8 b 0 / 32 % 2 = 0
  · rw [if_pos h0]; exact Nat.zero_le _
  rw [if_neg h0] at h ⊢
  by_cases h1 : r.length = 0
  · rw [if_pos h1] at h; cases h
  rw [if_neg h1] at h ⊢
  dsimp only at h ⊢
  by_cases h2 : at8 r (r.length - 1) = 0 ∨ r.length < at8 r (r.length - 1)
  · rw [if_pos h2] at h; cases h
  rw [if_neg h2] at h ⊢
  split
  · show at8 r (r.length - 1) ≤ _; omega
  · exact Nat.zero_le _
set_option maxHeartbeats 2000000 in
theorem look_any (v : Value) (b : List UInt8) (w : World) (hv : BRow w v b) :
    Calls Tryz.prog 152 #[v] w fun e w' => e = .returned (.tuple #[.agg #[.int .i64 ((looks b).1.1 : Nat), .int .i64 ((looks b).1.2.1 : Nat), .int .i64 ((looks b).1.2.2 : Nat)], .int .i64 (looks b).2]) ∧ Below w.heap.size w w' := by
  have hlen := hv.len
  have HV : Hid (∀ w', Below w.heap.size w w' → BRow w' v b) := fun w' h => hv.below h
  have HE : Hid (looks b = if 512 < b.length then ((0, 0, 0), 5) else if b.length < 12 then ((0, 0, 0), 2) else if at8 b 0 / 64 ≠ 2 then ((0, 0, 0), 1) else if 192 ≤ at8 b 1 ∧ at8 b 1 ≤ 223 then ((0, 0, 0), 4) else if (extn b (12 + 4 * (at8 b 0 % 16))).2 = false then ((0, 0, 0), 2) else if (padd b (b.drop (extn b (12 + 4 * (at8 b 0 % 16))).1.2)).2 = false then ((0, 0, 0), 1) else (((extn b (12 + 4 * (at8 b 0 % 16))).1.1, (extn b (12 + 4 * (at8 b 0 % 16))).1.2, b.length - (padd b (b.drop (extn b (12 + 4 * (at8 b 0 % 16))).1.2)).1), 0)) := rfl
  obtain ⟨a, c, rfl, hcc, -⟩ := id hv
  clear hv
  generalize looks b = X at *
  by_cases h1 : 512 < b.length
  · obtain rfl : X = ((0, 0, 0), 5) := by rw [HE.out, if_pos h1]
    clear HE HV
    go_enter Tryz.func152, Tryz.ntmps152
    go_wp2
    exact bodyPost_ret (v := .tuple #[.agg #[.int .i64 0, .int .i64 0, .int .i64 0], .int .i64 5]) (by simp [results, Tryz.results152, go_sem]) rfl ⟨rfl, below_alloc _ _⟩
  by_cases h2 : b.length < 12
  · obtain rfl : X = ((0, 0, 0), 2) := by rw [HE.out, if_neg h1, if_pos h2]
    clear HE HV
    go_enter Tryz.func152, Tryz.ntmps152
    go_wp2
    exact bodyPost_ret (v := .tuple #[.agg #[.int .i64 0, .int .i64 0, .int .i64 0], .int .i64 2]) (by simp [results, Tryz.results152, go_sem]) rfl ⟨rfl, below_alloc _ _⟩
  have hx0 := at8_256 b 0
  have hx1 := at8_256 b 1
  have hba := below_alloc w (.cells #[.int .i64 0, .int .i64 0, .int .i64 0] 238)
  have HVA := Lib.hid (HV.out _ hba)
  obtain ⟨g, off, cap, e1, _, _, hc⟩ := b_at (HV.out w (Below.refl _ _)) (by omega)
  cases e1
  obtain ⟨_, _, _, e2, _, _, hca⟩ := b_at HVA.out (by omega)
  cases e2
  have d0 : (w.alloc (.cells #[.int .i64 0, .int .i64 0, .int .i64 0] 238)).cell? ⟨g, off, none⟩ = some (.int .u8 (at8 b 0 : Int)) := hca 0 (by omega)
  have d1 := hca 1 (by omega)
  have HBEL := Lib.hid hba
  clear hc hca hba
  have l1 : decide ((512 : Int) < (b.length : Int)) = false := decide_eq_false (by omega)
  have l2 : decide ((b.length : Int) < 12) = false := decide_eq_false (by omega)
  by_cases h3 : at8 b 0 / 64 ≠ 2
  · obtain rfl : X = ((0, 0, 0), 1) := by rw [HE.out, if_neg h1, if_neg h2, if_pos h3]
    have q : (((at8 b 0 : Nat) : Int) / 64 != 2) = true := by rw [bne_iff_ne]; omega
    clear HE HV h3
    go_enter Tryz.func152, Tryz.ntmps152
    go_wp2
    exact bodyPost_ret (v := .tuple #[.agg #[.int .i64 0, .int .i64 0, .int .i64 0], .int .i64 1]) (by simp [results, Tryz.results152, go_sem]) rfl ⟨rfl, below_alloc _ _⟩
  have q3 : (((at8 b 0 : Nat) : Int) / 64 != 2) = false := by rw [bne_eq_false_iff_eq]; omega
  have CF := feedback_any (at8 b 1) (w.alloc (.cells #[.int .i64 0, .int .i64 0, .int .i64 0] 238)) hx1
  by_cases h4 : 192 ≤ at8 b 1 ∧ at8 b 1 ≤ 223
  · obtain rfl : X = ((0, 0, 0), 4) := by rw [HE.out, if_neg h1, if_neg h2, if_neg h3, if_pos h4]
    rw [decide_eq_true h4] at CF
    have HCF := Lib.hid CF
    clear HE HV h3 h4 CF
    go_enter Tryz.func152, Tryz.ntmps152
    go_wp2_with (go_at_call 173; refine HCF.out.mono ?_; rintro e w' ⟨rfl, rfl⟩)
    exact bodyPost_ret (v := .tuple #[.agg #[.int .i64 0, .int .i64 0, .int .i64 0], .int .i64 4]) (by simp [results, Tryz.results152, go_sem]) rfl ⟨rfl, below_alloc _ _⟩
  rw [decide_eq_false h4] at CF
  have HCF := Lib.hid CF
  have ha := and_15 (at8 b 0) hx0
  have hk16 : at8 b 0 % 16 < 16 := by omega
  have HE5 : Hid (X = if (extn b (12 + 4 * (at8 b 0 % 16))).2 = false then ((0, 0, 0), 2) else if (padd b (b.drop (extn b (12 + 4 * (at8 b 0 % 16))).1.2)).2 = false then ((0, 0, 0), 1) else (((extn b (12 + 4 * (at8 b 0 % 16))).1.1, (extn b (12 + 4 * (at8 b 0 % 16))).1.2, b.length - (padd b (b.drop (extn b (12 + 4 * (at8 b 0 % 16))).1.2)).1), 0)) := by
    show _ = _; rw [HE.out, if_neg h1, if_neg h2, if_neg h3, if_neg h4]
  have CE := extension_any _ b (12 + 4 * (at8 b 0 % 16)) _ HVA.out (by omega) (by omega)
  have hle := extn_le b (12 + 4 * (at8 b 0 % 16))
  have HOK : Hid ((extn b (12 + 4 * (at8 b 0 % 16))).2 = true → (extn b (12 + 4 * (at8 b 0 % 16))).1.2 ≤ b.length ∧ (extn b (12 + 4 * (at8 b 0 % 16))).1.1 ≤ (extn b (12 + 4 * (at8 b 0 % 16))).1.2) := extn_ok
  rw [show ((12 + 4 * (at8 b 0 % 16) : Nat) : Int) = 12 + 4 * ((at8 b 0 % 16 : Nat) : Int) by omega] at CE
  clear HE h3 h4 CF
  generalize extn b (12 + 4 * (at8 b 0 % 16)) = E at *
  generalize at8 b 0 % 16 = k at *
  obtain ⟨⟨xe, xf⟩, xo⟩ := E
  dsimp only at *
  have HCE := Lib.hid CE
  clear CE
  cases xo
  · obtain rfl : X = ((0, 0, 0), 2) := by rw [HE5.out, if_pos rfl]
    clear HE5 HV HOK
    go_enter Tryz.func152, Tryz.ntmps152
    go_wp2_with (first | (go_at_call 173; refine HCF.out.mono ?_; rintro e w' ⟨rfl, rfl⟩) | (go_at_call 174; refine HCE.out.mono ?_; rintro e w' ⟨rfl, rfl⟩))
    exact bodyPost_ret (v := .tuple #[.agg #[.int .i64 0, .int .i64 0, .int .i64 0], .int .i64 2]) (by simp [results, Tryz.results152, go_sem]) rfl ⟨rfl, below_alloc _ _⟩
  obtain ⟨hf1, hf2⟩ := HOK.out rfl
  obtain ⟨a', hsl, -, hrow⟩ := slice_from elemU8 (some ⟨g, off, none⟩) b.length c xf hf1 hcc
  have hrow := hrow _ (bys b) (by rw [bys_length]; omega) HVA.out
  rw [Nat.mul_one, bys_drop] at hrow
  have hdl : (b.drop xf).length = b.length - xf := List.length_drop
  rw [← hdl] at hrow hsl
  have CP := padding_any _ _ b (b.drop xf) _ HVA.out hrow (by omega)
  have HPL : Hid ((padd b (b.drop xf)).2 = true → (padd b (b.drop xf)).1 ≤ (b.drop xf).length) := padd_le
  have HE6 : Hid (X = if (padd b (b.drop xf)).2 = false then ((0, 0, 0), 1) else ((xe, xf, b.length - (padd b (b.drop xf)).1), 0)) := by show _ = _; rw [HE5.out, if_neg (by decide)]
  have HCP := Lib.hid CP
  have hdl2 : (b.drop xf).length ≤ b.length := by omega
  clear HE5 HOK hrow CP hdl
  generalize padd b (b.drop xf) = Y at *
  generalize (b.drop xf).length = dl at *
  obtain ⟨yn, yo⟩ := Y
  dsimp only at *
  cases yo
  · obtain rfl : X = ((0, 0, 0), 1) := by rw [HE6.out, if_pos rfl]
    clear HE6 HV HPL
    go_enter Tryz.func152, Tryz.ntmps152
    go_wp2_with (first | (go_at_call 173; refine HCF.out.mono ?_; rintro e w' ⟨rfl, rfl⟩) | (go_at_call 174; refine HCE.out.mono ?_; rintro e w' ⟨rfl, rfl⟩) | (go_at_call 175; refine HCP.out.mono ?_; rintro e w' ⟨rfl, rfl⟩))
    exact bodyPost_ret (v := .tuple #[.agg #[.int .i64 0, .int .i64 0, .int .i64 0], .int .i64 1]) (by simp [results, Tryz.results152, go_sem]) rfl ⟨rfl, below_alloc _ _⟩
  have hyl := HPL.out rfl
  obtain rfl : X = ((xe, xf, b.length - yn), 0) := by rw [HE6.out, if_neg (by decide)]
  dsimp only
  rw [show ((b.length - yn : Nat) : Int) = (b.length : Int) - (yn : Int) by omega]
  have hyn : (yn : Int) ≤ (b.length : Int) := by omega
  clear HE6 HV HPL
  go_enter Tryz.func152, Tryz.ntmps152
  go_wp2_with (first | (go_at_call 173; refine HCF.out.mono ?_; rintro e w' ⟨rfl, rfl⟩) | (go_at_call 174; refine HCE.out.mono ?_; rintro e w' ⟨rfl, rfl⟩) | (go_at_call 175; refine HCP.out.mono ?_; rintro e w' ⟨rfl, rfl⟩))
  exact bodyPost_ret (v := .tuple #[.agg #[.int .i64 xe, .int .i64 xf, .int .i64 ((b.length : Int) - (yn : Int))], .int .i64 0]) (by simp [results, Tryz.results152, go_sem]) rfl ⟨rfl, below_alloc _ _⟩
end Go.Proofs.By
namespace Go.Proofs.By
structure Blk where
  ssrc : Int
  lost : Int
  total : Int
  high : Int
  jitter : Int
  last : Int
  delay : Int
structure Itm where
  kind : Int
  ssrc : Int
  ntp : Int
  time : Int
  packets : Int
  octets : Int
  blocks : List Blk
  gone : List Int
  media : Int
  pairs : List (Int × Int)
def noItm : Itm := ⟨0, 0, 0, 0, 0, 0, [], [], 0, []⟩
def blkAt (b : List UInt8) (p : Nat) : Blk := ⟨get b p 4, get b (p + 4 : Nat) 1, get b (p + 5 : Nat) 3, get b (p + 8 : Nat) 4, get b (p + 12 : Nat) 4, get b (p + 16 : Nat) 4, get b (p + 20 : Nat) 4⟩
/-- How many bytes a report of a kind with so many blocks has. -/
def rsize (k n : Nat) : Nat := 8 + 24 * n + if k = 200 then 20 else 0
def right (b : List UInt8) : Nat × Int :=
  if b.length < 4 then (0, 2)
  else if at8 b 0 / 32 ≠ 4 then (0, 1)
  else if at8 b 1 ≠ 200 ∧ at8 b 1 ≠ 201 then (0, 4)
  else if 15 < at8 b 0 % 32 ∨ (get b 2 2 + 1) * 4 ≠ rsize (at8 b 1) (at8 b 0 % 32) then (0, 1)
  else if b.length < rsize (at8 b 1) (at8 b 0 % 32) then (0, 2)
  else (rsize (at8 b 1) (at8 b 0 % 32), 0)
def report (b : List UInt8) : Itm where
  kind := at8 b 1
  ssrc := get b 4 4
  ntp := if at8 b 1 = 200 then (get b 8 8 : Int) else 0
  time := if at8 b 1 = 200 then (get b 16 4 : Int) else 0
  packets := if at8 b 1 = 200 then (get b 20 4 : Int) else 0
  octets := if at8 b 1 = 200 then (get b 24 4 : Int) else 0
  blocks := (List.range (at8 b 0 % 32)).map fun (i : Nat) => blkAt b ((if at8 b 1 = 200 then 28 else 8) + 24 * i)
  gone := []
  media := 0
  pairs := []
def reportGet (b : List UInt8) : (Itm × Nat) × Int := if (right b).2 ≠ 0 then ((noItm, 0), (right b).2) else ((report b, (right b).1), 0)
/-- The kind of an item by its first two bytes. -/
def ikind (b : List UInt8) : Nat × Bool :=
  if at8 b 1 = 200 ∨ at8 b 1 = 201 ∨ at8 b 1 = 203 then (at8 b 1, true)
  else if at8 b 1 = 205 ∨ at8 b 1 = 206 then (at8 b 1, decide (at8 b 0 % 32 = 1)) else (0, false)
def ilength (b : List UInt8) (k : Nat) : Nat × Bool :=
  let n := (get b 2 2 + 1) * 4
  if k = 203 then (n, decide (1 ≤ at8 b 0 % 32) && decide (at8 b 0 % 32 ≤ 15) && decide (n = 4 + 4 * (at8 b 0 % 32)))
  else if k = 205 then (n, decide (16 ≤ n) && decide (n ≤ 76)) else (n, decide (n = 12))
/-- The words of an item from a place on. -/
def iwords (b : List UInt8) (p : Nat) : List Nat := (List.range ((b.length - p) / 4)).map fun (i : Nat) => get b (p + 4 * i : Nat) 4
def parts (b : List UInt8) (k : Nat) : Itm :=
  if k = 203 then { noItm with kind := 203, gone := (iwords b 4).map fun (n : Nat) => (n : Int) }
  else { noItm with kind := k, ssrc := get b 4 4, media := get b 8 4, pairs := (iwords b 12).map fun (n : Nat) => (((n / 65536 : Nat) : Int), ((n % 65536 : Nat) : Int)) }
def itemGet (b : List UInt8) : (Itm × Nat) × Int :=
  if b.length < 4 then ((noItm, 0), 2)
  else if at8 b 0 / 32 ≠ 4 then ((noItm, 0), 1)
  else if (ikind b).2 = false then ((noItm, 0), 4)
  else if (ikind b).1 = 200 ∨ (ikind b).1 = 201 then reportGet b
  else
    let n := ilength b (ikind b).1
    if n.2 = false then ((noItm, 0), 1)
    else if b.length < n.1 then ((noItm, 0), 2)
    else ((parts (b.take n.1) (ikind b).1, n.1), 0)
/-- Items, one behind the other; so many may still come. -/
def itemsGo : Nat → List UInt8 → List Itm × Int
  | 0, _ => ([], 3)
  | k + 1, b =>
    if (itemGet b).2 ≠ 0 then ([], (itemGet b).2)
    else if b.length - (itemGet b).1.2 = 0 then ([(itemGet b).1.1], 0)
    else
      let r := itemsGo k (b.drop (itemGet b).1.2)
      if r.2 ≠ 0 then ([], r.2) else ((itemGet b).1.1 :: r.1, 0)
def itemsGet (b : List UInt8) : List Itm × Int := if 512 < b.length then ([], 5) else itemsGo 8 b
/-- What a datagram is. -/
inductive Ev
  | none
  | media (p : Pkt) (d : Dsc)
  | feedback (l : List Itm)
def sift (b : List UInt8) : Ev × Int :=
  if 512 < b.length then (.none, 5)
  else if b.length < 2 then (.none, 2)
  else if 192 ≤ at8 b 1 ∧ at8 b 1 ≤ 223 then (if (itemsGet b).2 ≠ 0 then (.none, (itemsGet b).2) else (.feedback (itemsGet b).1, 0))
  else if (rtpGet b).2 ≠ 0 then (.none, (rtpGet b).2)
  else if (descGet (rtpGet b).1.payload).2 ≠ 0 then (.none, (descGet (rtpGet b).1.payload).2)
  else (.media (rtpGet b).1 (descGet (rtpGet b).1.payload).1, 0)
end Go.Proofs.By
set_option linter.unusedSimpArgs false
namespace Go.Proofs.By
open Go.RowKit Go.Proofs.Heap
theorem bel_drewN {B : Nat} {a w : World} (h : Below B a w) : ∀ q, Below B a (w.drewN q)
  | 0 => h
  | q + 1 => (bel_drewN h q).drew
theorem known_any (k : Int) (w : World) : Calls Tryz.prog 191 #[.int .i64 k] w fun e w' => e = .returned (.bool (decide (k = 200 ∨ k = 201))) ∧ w = w' := by
  by_cases h0 : k = 200
  · subst h0
    go_enter Tryz.func191, Tryz.ntmps191
    go_wp2
    go_ret
    exact ⟨rfl, rfl⟩
  · by_cases h1 : k = 201
    · subst h1
      go_enter Tryz.func191, Tryz.ntmps191
      go_wp2
      go_ret
      exact ⟨rfl, rfl⟩
    · have HF : Hid (decide (k = 200 ∨ k = 201) = false) := decide_eq_false (by omega)
      have b0 : (k == 200) = false := by rw [beq_eq_false_iff_ne]; exact h0
      have b1 : (k == 201) = false := by rw [beq_eq_false_iff_ne]; exact h1
      rw [HF.out]
      clear HF h0 h1
      go_enter Tryz.func191, Tryz.ntmps191
      go_wp2
      go_ret
      exact ⟨rfl, rfl⟩
theorem rsize_any (k n : Nat) (w : World) (hn : n ≤ 1000) : Calls Tryz.prog 192 #[.int .i64 (k : Int), .int .i64 (n : Int)] w fun e w' => e = .returned (.int .i64 (rsize k n : Nat)) ∧ w = w' := by
  by_cases h0 : k = 200
  · subst h0
    have HF : Hid (((rsize 200 n : Nat) : Int) = 8 + 24 * (n : Int) + 20) := by show _ = _; unfold rsize; rw [if_pos rfl]; omega
    rw [HF.out]
    clear HF
    go_enter Tryz.func192, Tryz.ntmps192
    go_wp2
    go_ret
    exact ⟨rfl, rfl⟩
  · have HF : Hid (((rsize k n : Nat) : Int) = 8 + 24 * (n : Int)) := by show _ = _; unfold rsize; rw [if_neg h0]; omega
    have b0 : ((k : Int) == 200) = false := by rw [beq_eq_false_iff_ne]; omega
    rw [HF.out]
    clear HF h0
    go_enter Tryz.func192, Tryz.ntmps192
    go_wp2
    go_ret
    exact ⟨rfl, rfl⟩
def csize (k n : Nat) : Nat := if k = 203 then 4 + 4 * n else if k = 205 then 12 + 4 * n else 12
theorem csize_any (k n : Nat) (w : World) (hn : n ≤ 1000) : Calls Tryz.prog 182 #[.int .i64 (k : Int), .int .i64 (n : Int)] w fun e w' => e = .returned (.int .i64 (csize k n : Nat)) ∧ w = w' := by
  by_cases h0 : k = 203
  · subst h0
    have HF : Hid (((csize 203 n : Nat) : Int) = 4 + 4 * (n : Int)) := by show _ = _; unfold csize; rw [if_pos rfl]; omega
    rw [HF.out]
    clear HF
    go_enter Tryz.func182, Tryz.ntmps182
    go_wp2
    go_ret
    exact ⟨rfl, rfl⟩
  · have b0 : ((k : Int) == 203) = false := by rw [beq_eq_false_iff_ne]; omega
    by_cases h1 : k = 205
    · subst h1
      have HF : Hid (((csize 205 n : Nat) : Int) = 12 + 4 * (n : Int)) := by show _ = _; unfold csize; rw [if_neg (by decide), if_pos rfl]; omega
      rw [HF.out]
      clear HF
      go_enter Tryz.func182, Tryz.ntmps182
      go_wp2
      go_ret
      exact ⟨rfl, rfl⟩
    · have HF : Hid (((csize k n : Nat) : Int) = 12) := by show _ = _; unfold csize; rw [if_neg h0, if_neg h1]; rfl
      have b1 : ((k : Int) == 205) = false := by rw [beq_eq_false_iff_ne]; omega
      rw [HF.out]
      clear HF h0 h1
      go_enter Tryz.func182, Tryz.ntmps182
      go_wp2
      go_ret
      exact ⟨rfl, rfl⟩
theorem cnumber_any (v : Value) (b : List UInt8) (p : Int) (w : World) (hv : BRow w v b) :
    Calls Tryz.prog 183 #[v, .int .i64 p] w fun e w' => e = .returned (.int .u32 (get b p 4 : Nat)) ∧ w = w' := by
  have CG := Lib.hid (Get_any v b p 4 w hv)
  have hn : get b p 4 < 4294967296 := get_lt b p 4 4 (by decide)
  clear hv
  generalize get b p 4 = n at *
  go_enter Tryz.func183, Tryz.ntmps183
  go_wp2_with (go_at_call 155; refine CG.out.mono ?_; rintro e w' ⟨rfl, rfl⟩)
  go_ret
  exact ⟨rfl, rfl⟩
theorem ikind_any (v : Value) (b : List UInt8) (w : World) (hv : BRow w v b) (hb : 2 ≤ b.length) :
    Calls Tryz.prog 169 #[v] w fun e w' => e = .returned (.tuple #[.int .i64 ((ikind b).1 : Nat), .bool (ikind b).2]) ∧ Below w.heap.size w w' := by
  have hlen := hv.len
  have HE : Hid (ikind b = if at8 b 1 = 200 ∨ at8 b 1 = 201 ∨ at8 b 1 = 203 then (at8 b 1, true) else if at8 b 1 = 205 ∨ at8 b 1 = 206 then (at8 b 1, decide (at8 b 0 % 32 = 1)) else (0, false)) := rfl
  obtain ⟨g, off, cap, rfl, _, _, hc⟩ := b_at hv (by omega)
  have d0 : w.cell? ⟨g, off, none⟩ = some (.int .u8 (at8 b 0 : Int)) := hc 0 (by omega)
  have d1 := hc 1 (by omega)
  have ha := and_31 (at8 b 0) (at8_256 b 0)
  have hx1 := at8_256 b 1
  have hbel := Below.refl w.heap.size w
  clear hc hv
  generalize ikind b = X at *
  generalize at8 b 0 % 32 = m at *
  generalize at8 b 1 = k at *
  by_cases h1 : k = 200 ∨ k = 201 ∨ k = 203
  · obtain rfl : X = (k, true) := by rw [HE.out, if_pos h1]
    clear HE
    rcases h1 with rfl | rfl | rfl
    all_goals
      go_enter Tryz.func169, Tryz.ntmps169
      go_wp2
      go_ret2
      exact ⟨rfl, hbel⟩
  · by_cases h2 : k = 205 ∨ k = 206
    · obtain rfl : X = (k, decide (m = 1)) := by rw [HE.out, if_neg h1, if_pos h2]
      clear HE h1
      have HM : Hid (decide (m = 1) = ((m : Int) == 1)) := by show _ = _; rw [Bool.eq_iff_iff]; simp; omega
      dsimp only
      rw [HM.out]
      rcases h2 with rfl | rfl
      all_goals
        go_enter Tryz.func169, Tryz.ntmps169
        go_wp2
        go_quiet (fail)
        go_wp2
        go_ret2
        exact ⟨rfl, bel_drewN hbel _⟩
    · obtain rfl : X = (0, false) := by rw [HE.out, if_neg h1, if_neg h2]
      have b0 : ((k : Int) == 200) = false := by rw [beq_eq_false_iff_ne]; omega
      have b1 : ((k : Int) == 201) = false := by rw [beq_eq_false_iff_ne]; omega
      have b3 : ((k : Int) == 203) = false := by rw [beq_eq_false_iff_ne]; omega
      have b5 : ((k : Int) == 205) = false := by rw [beq_eq_false_iff_ne]; omega
      have b6 : ((k : Int) == 206) = false := by rw [beq_eq_false_iff_ne]; omega
      clear HE h1 h2
      go_enter Tryz.func169, Tryz.ntmps169
      go_wp2
      go_ret2
      exact ⟨rfl, hbel⟩
set_option maxHeartbeats 1000000 in
theorem right_any (v : Value) (b : List UInt8) (w : World) (hv : BRow w v b) :
    Calls Tryz.prog 179 #[v] w fun e w' => e = .returned (.tuple #[.int .i64 ((right b).1 : Nat), .int .i64 (right b).2]) ∧ Below w.heap.size w w' := by
  have hlen := hv.len
  have HE : Hid (right b = if b.length < 4 then (0, 2) else if at8 b 0 / 32 ≠ 4 then (0, 1) else if at8 b 1 ≠ 200 ∧ at8 b 1 ≠ 201 then (0, 4) else if 15 < at8 b 0 % 32 ∨ (get b 2 2 + 1) * 4 ≠ rsize (at8 b 1) (at8 b 0 % 32) then (0, 1) else if b.length < rsize (at8 b 1) (at8 b 0 % 32) then (0, 2) else (rsize (at8 b 1) (at8 b 0 % 32), 0)) := rfl
  have CG := Get_any v b 2 2 w hv
  obtain ⟨a, c, rfl, hcc, -⟩ := id hv
  have hbel := Below.refl w.heap.size w
  generalize right b = X at *
  by_cases h1 : b.length < 4
  · obtain rfl : X = (0, 2) := by rw [HE.out, if_pos h1]
    clear HE CG hv
    go_enter Tryz.func179, Tryz.ntmps179
    go_wp2
    go_ret2
    exact ⟨rfl, hbel⟩
  obtain ⟨g, off, cap, e1, _, _, hc⟩ := b_at hv (by omega)
  cases e1
  have d0 : w.cell? ⟨g, off, none⟩ = some (.int .u8 (at8 b 0 : Int)) := hc 0 (by omega)
  have d1 := hc 1 (by omega)
  have hx0 := at8_256 b 0
  have hx1 := at8_256 b 1
  have ha := and_31 (at8 b 0) hx0
  have hn : get b 2 2 < 65536 := get_lt b 2 2 2 (by decide)
  have l1 : decide ((b.length : Int) < 4) = false := decide_eq_false (by omega)
  have HCG := Lib.hid CG
  clear hc hv CG
  by_cases h2 : at8 b 0 / 32 ≠ 4
  · obtain rfl : X = (0, 1) := by rw [HE.out, if_neg h1, if_pos h2]
    have q : (((at8 b 0 : Nat) : Int) / 32 != 4) = true := by rw [bne_iff_ne]; omega
    clear HE h2
    go_enter Tryz.func179, Tryz.ntmps179
    go_wp2
    go_ret2
    exact ⟨rfl, hbel⟩
  have q2 : (((at8 b 0 : Nat) : Int) / 32 != 4) = false := by rw [bne_eq_false_iff_eq]; omega
  have CK := known_any (at8 b 1 : Nat) w
  by_cases h3 : at8 b 1 ≠ 200 ∧ at8 b 1 ≠ 201
  · obtain rfl : X = (0, 4) := by rw [HE.out, if_neg h1, if_neg h2, if_pos h3]
    rw [decide_eq_false (show ¬ (((at8 b 1 : Nat) : Int) = 200 ∨ ((at8 b 1 : Nat) : Int) = 201) by omega)] at CK
    have HCK := Lib.hid CK
    clear HE h2 h3 CK
    go_enter Tryz.func179, Tryz.ntmps179
    go_wp2_with (go_at_call 191; refine HCK.out.mono ?_; rintro e w' ⟨rfl, rfl⟩)
    go_ret2
    exact ⟨rfl, hbel⟩
  rw [decide_eq_true (show (((at8 b 1 : Nat) : Int) = 200 ∨ ((at8 b 1 : Nat) : Int) = 201) by omega)] at CK
  have HCK := Lib.hid CK
  have CS : Hid (∀ w, Calls Tryz.prog 192 #[.int .i64 ((at8 b 1 : Nat) : Int), .int .i64 ((at8 b 0 % 32 : Nat) : Int)] w fun e w' => e = .returned (.int .i64 (rsize (at8 b 1) (at8 b 0 % 32) : Nat)) ∧ w = w') := fun w => rsize_any _ _ w (by omega)
  have hrs : rsize (at8 b 1) (at8 b 0 % 32) ≤ 1000 := by unfold rsize; split <;> omega
  have hm : at8 b 0 % 32 < 32 := by omega
  have HE4 : Hid (X = if 15 < at8 b 0 % 32 ∨ (get b 2 2 + 1) * 4 ≠ rsize (at8 b 1) (at8 b 0 % 32) then (0, 1) else if b.length < rsize (at8 b 1) (at8 b 0 % 32) then (0, 2) else (rsize (at8 b 1) (at8 b 0 % 32), 0)) := by show _ = _; rw [HE.out, if_neg h1, if_neg h2, if_neg h3]
  clear HE h2 h3 CK
  generalize rsize (at8 b 1) (at8 b 0 % 32) = z at *
  generalize at8 b 0 % 32 = m at *
  generalize get b 2 2 = n at *
  by_cases h4 : 15 < m ∨ (n + 1) * 4 ≠ z
  · obtain rfl : X = (0, 1) := by rw [HE4.out, if_pos h4]
    clear HE4
    by_cases h5 : 15 < m
    · have q5 : decide ((15 : Int) < (m : Int)) = true := decide_eq_true (by omega)
      clear h4
      go_enter Tryz.func179, Tryz.ntmps179
      go_wp2_with (first | (go_at_call 191; refine HCK.out.mono ?_; rintro e w' ⟨rfl, rfl⟩) | (go_at_call 155; refine HCG.out.mono ?_; rintro e w' ⟨rfl, rfl⟩))
      go_quiet ((go_at_call 192; exact Calls.quiet_of_same ((CS.out _).mono fun e w' h => ⟨h.1, h.2.symm⟩)))
      go_wp2
      go_ret2
      exact ⟨rfl, bel_drewN hbel _⟩
    · have q5 : decide ((15 : Int) < (m : Int)) = false := decide_eq_false (by omega)
      have q6 : (((n : Int) + 1) * 4 != (z : Int)) = true := by rw [bne_iff_ne]; omega
      clear h4
      go_enter Tryz.func179, Tryz.ntmps179
      go_wp2_with (first | (go_at_call 191; refine HCK.out.mono ?_; rintro e w' ⟨rfl, rfl⟩) | (go_at_call 155; refine HCG.out.mono ?_; rintro e w' ⟨rfl, rfl⟩))
      go_quiet ((go_at_call 192; exact Calls.quiet_of_same ((CS.out _).mono fun e w' h => ⟨h.1, h.2.symm⟩)))
      go_wp2
      go_ret2
      exact ⟨rfl, bel_drewN hbel _⟩
  · have q5 : decide ((15 : Int) < (m : Int)) = false := decide_eq_false (by omega)
    have q6 : (((n : Int) + 1) * 4 != (z : Int)) = false := by rw [bne_eq_false_iff_eq]; omega
    have HE5 : Hid (X = if b.length < z then (0, 2) else (z, 0)) := by show _ = _; rw [HE4.out, if_neg h4]
    clear HE4 h4
    by_cases h5 : b.length < z
    · obtain rfl : X = (0, 2) := by rw [HE5.out, if_pos h5]
      have q7 : decide ((b.length : Int) < (z : Int)) = true := decide_eq_true (by omega)
      clear HE5
      go_enter Tryz.func179, Tryz.ntmps179
      go_wp2_with (first | (go_at_call 191; refine HCK.out.mono ?_; rintro e w' ⟨rfl, rfl⟩) | (go_at_call 155; refine HCG.out.mono ?_; rintro e w' ⟨rfl, rfl⟩))
      go_quiet ((go_at_call 192; exact Calls.quiet_of_same ((CS.out _).mono fun e w' h => ⟨h.1, h.2.symm⟩)))
      go_wp2
      go_ret2
      exact ⟨rfl, bel_drewN hbel _⟩
    · obtain rfl : X = (z, 0) := by rw [HE5.out, if_neg h5]
      have q7 : decide ((b.length : Int) < (z : Int)) = false := decide_eq_false (by omega)
      clear HE5
      go_enter Tryz.func179, Tryz.ntmps179
      go_wp2_with (first | (go_at_call 191; refine HCK.out.mono ?_; rintro e w' ⟨rfl, rfl⟩) | (go_at_call 155; refine HCG.out.mono ?_; rintro e w' ⟨rfl, rfl⟩))
      go_quiet ((go_at_call 192; exact Calls.quiet_of_same ((CS.out _).mono fun e w' h => ⟨h.1, h.2.symm⟩)))
      go_wp2
      go_ret2
      exact ⟨rfl, bel_drewN hbel _⟩
end Go.Proofs.By
set_option linter.unusedSimpArgs false
namespace Go.Proofs.By
open Go.RowKit Go.Proofs.Heap
set_option maxHeartbeats 1000000 in
theorem BClone_any (v : Value) (l : List UInt8) (w : World) (hv : BRow w v l) (hl : l.length ≤ 1000000) :
    Calls Tryz.prog 154 #[v] w fun e w' => (∃ v', e = .returned v' ∧ Row w' 5 v' l.length (bys l)) ∧ Below w.heap.size w w' := by
  obtain ⟨a, cap, rfl, hx1, hx2, hx3, hx4⟩ := id hv
  have HV := Lib.hid hv
  have HN := Lib.hid hx3
  clear hv hx4 hx1 hx2 hx3
  cases a with
  | none =>
    obtain ⟨h1, h2⟩ := HN.out rfl
    have HL : Hid (l = []) := List.eq_nil_of_length_eq_zero h1
    have he := fun w => Lib.run_eql_slice_nil (P := Tryz.prog) w 30 5 none l.length cap 0 0 Tryz.underlying30
    clear h1 h2
    go_enter Tryz.func154, Tryz.ntmps154
    go_wp2
    go_ret
    exact ⟨⟨_, rfl, by rw [HL.out]; exact Row.nil _ _⟩, Below.refl _ _⟩
  | some a =>
    have he := fun w => Lib.run_eql_slice_nil (P := Tryz.prog) w 30 5 (some a) l.length cap 0 0 Tryz.underlying30
    clear HN
    go_enter Tryz.func154, Tryz.ntmps154
    go_wp2_with (at_builtin; refine wpList_appR rfl (.tmp 5) (.tmp 6) 30 rfl w.heap.size elemU8 _ 0 [] rfl (owns_empty w 5 1) _ l.length (bys l) rfl (HV.out.below (below_alloc _ _)) (by rw [bys_length]; omega) (bys_one l) (by omega) (by omega) (by simp) (fun v' w1 HO HG => ?_))
    go_ret
    have hb := ((Fr.refl w.heap.size NoB w).alloc (Nat.le_refl _) (.cells #[] 5)).grown HG.out (by simp) (by
      intro k hk
      have hk : some w.heap.size = some k := hk
      cases hk
      exact Nat.le_refl _)
    refine ⟨⟨_, rfl, ?_⟩, hb.below⟩
    have := Row.of_owns HO.out
    rwa [Nat.zero_add, List.nil_append] at this
/-- Block k holds a reader, at a place. -/
def EyeAt (w : World) (k : Nat) (v : Value) (p : Nat) : Prop := w.heap[k]? = some (.cells #[v, .int .i64 (p : Int)] 264)
theorem EyeAt.lt {w : World} {k : Nat} {v : Value} {p : Nat} (h : EyeAt w k v p) : k < w.heap.size := by
  rcases Nat.lt_or_ge k w.heap.size with h1 | h1
  · exact h1
  · unfold EyeAt at h; rw [Array.getElem?_eq_none h1] at h; cases h
theorem EyeAt.cells {w : World} {k : Nat} {v : Value} {p : Nat} (h : EyeAt w k v p) : w.cell? ⟨k, 0, none⟩ = some v ∧ w.cell? ⟨k, 1, none⟩ = some (.int .i64 (p : Int)) ∧ w.frozen? ⟨k, 1, none⟩ = false := by
  unfold EyeAt at h
  refine ⟨?_, ?_, ?_⟩
  · simp only [World.cell?, h]; rfl
  · simp only [World.cell?, h]; rfl
  · simp [World.frozen?, h]
theorem EyeAt.set {w : World} {k : Nat} {v : Value} {p : Nat} (h : EyeAt w k v p) (q : Nat) : EyeAt (w.setCell ⟨k, 1, none⟩ (.int .i64 (q : Int))) k v q := by
  unfold EyeAt at h ⊢
  simp [World.setCell, Array.getElem?_modify, h]
theorem heap_drewN (w : World) : ∀ n, (w.drewN n).heap = w.heap
  | 0 => rfl
  | n + 1 => heap_drewN w n
set_option maxHeartbeats 1000000 in
theorem eget_any (k : Nat) (v : Value) (b : List UInt8) (p q : Nat) (w : World) (hE : EyeAt w k v p) (hv : BRow w v b) (hp : p ≤ 100000) (hq : q ≤ 100) :
    Calls Tryz.prog 181 #[.pointer (some ⟨k, 0, none⟩), .int .i64 (q : Int)] w fun e w' => e = .returned (.int .u64 (get b p q : Nat)) ∧ EyeAt w' k v (p + q) ∧ Fr w.heap.size (· = k) w w' := by
  have CG : Hid (∀ n, Calls Tryz.prog 155 #[v, .int .i64 (p : Int), .int .i64 (q : Int)] (w.drewN n) fun e w' => e = .returned (.tuple #[.int .u64 (get b p q : Nat), .bool (within b.length p q)]) ∧ w' = w.drewN n) :=
    fun n => (Get_any v b p q (w.drewN n) (hv.below (bel_drewN (Below.refl _ _) n))).mono fun _ _ h => ⟨h.1, h.2.symm⟩
  obtain ⟨c0, c1, f1⟩ := hE.cells
  have HE := Lib.hid hE
  clear hv hE
  generalize get b p q = n at *
  generalize within b.length p q = x at *
  go_enter Tryz.func181, Tryz.ntmps181
  go_wp2
  go_quiet ((go_at_call 155; exact Calls.quiet_of_same (CG.out _)))
  go_wp2
  go_ret
  refine ⟨rfl, ?_, ?_⟩
  · refine EyeAt.set (p := p) ?_ (p + q)
    unfold EyeAt
    rw [heap_drewN]
    exact HE.out
  · exact (Fr.of_below _ (bel_drewN (Below.refl _ _) _)).setAt 1 _
theorem eword_any (k : Nat) (v : Value) (b : List UInt8) (p : Nat) (w : World) (hE : EyeAt w k v p) (hv : BRow w v b) (hp : p ≤ 100000) :
    Calls Tryz.prog 180 #[.pointer (some ⟨k, 0, none⟩)] w fun e w' => e = .returned (.int .u32 (get b p 4 : Nat)) ∧ EyeAt w' k v (p + 4) ∧ Fr w.heap.size (· = k) w w' := by
  have CG := Lib.hid (eget_any k v b p 4 w hE hv hp (by omega))
  have hn : get b p 4 < 4294967296 := get_lt b p 4 4 (by decide)
  clear hv hE
  have CG : Hid (Calls Tryz.prog 181 #[.pointer (some ⟨k, 0, none⟩), .int .i64 4] w fun e w' => e = .returned (.int .u64 (get b p 4 : Nat)) ∧ EyeAt w' k v (p + 4) ∧ Fr w.heap.size (· = k) w w') := CG.out
  generalize get b p 4 = n at *
  go_enter Tryz.func180, Tryz.ntmps180
  go_wp2_with (go_at_call 181; refine CG.out.mono ?_; rintro e w' ⟨rfl, he, hf⟩)
  go_ret
  exact ⟨rfl, he, hf⟩
end Go.Proofs.By
set_option linter.unusedSimpArgs false
namespace Go.Proofs.By
open Go.RowKit Go.Proofs.Heap
set_option maxHeartbeats 1000000 in
theorem ilength_any (v : Value) (b : List UInt8) (k : Nat) (w : World) (hv : BRow w v b) (hb : 4 ≤ b.length) :
    Calls Tryz.prog 171 #[v, .int .i64 (k : Int)] w fun e w' => e = .returned (.tuple #[.int .i64 ((ilength b k).1 : Nat), .bool (ilength b k).2]) ∧ w = w' := by
  have hlen := hv.len
  have CG := Lib.hid (Get_any v b 2 2 w hv)
  have hn : get b 2 2 < 65536 := get_lt b 2 2 2 (by decide)
  obtain ⟨g, off, cap, rfl, _, _, hc⟩ := b_at hv (by omega)
  have d0 : w.cell? ⟨g, off, none⟩ = some (.int .u8 (at8 b 0 : Int)) := hc 0 (by omega)
  have ha := and_31 (at8 b 0) (at8_256 b 0)
  have hm : at8 b 0 % 32 < 32 := by omega
  have HE : Hid (ilength b k = if k = 203 then ((get b 2 2 + 1) * 4, decide (1 ≤ at8 b 0 % 32) && decide (at8 b 0 % 32 ≤ 15) && decide ((get b 2 2 + 1) * 4 = 4 + 4 * (at8 b 0 % 32))) else if k = 205 then ((get b 2 2 + 1) * 4, decide (16 ≤ (get b 2 2 + 1) * 4) && decide ((get b 2 2 + 1) * 4 ≤ 76)) else ((get b 2 2 + 1) * 4, decide ((get b 2 2 + 1) * 4 = 12))) := rfl
  have hcs : ∀ n, csize 203 n = 4 + 4 * n := fun n => by unfold csize; rw [if_pos rfl]
  clear hc hv
  generalize ilength b k = X at *
  generalize at8 b 0 % 32 = m at *
  generalize get b 2 2 = n at *
  have en : (((n + 1) * 4 : Nat) : Int) = ((n : Int) + 1) * 4 := by omega
  by_cases h0 : k = 203
  · subst h0
    have CZ := csize_any 203 m w (by omega)
    rw [hcs, show ((4 + 4 * m : Nat) : Int) = 4 + 4 * (m : Int) by omega] at CZ
    have HCZ := Lib.hid CZ
    have HF : Hid (X = ((n + 1) * 4, decide (1 ≤ m) && decide (m ≤ 15) && decide ((n + 1) * 4 = 4 + 4 * m))) := by show _ = _; rw [HE.out, if_pos rfl]
    clear HE CZ hcs
    by_cases h1 : 1 ≤ m
    · have q1 : decide ((1 : Int) ≤ (m : Int)) = true := decide_eq_true (by omega)
      by_cases h2 : m ≤ 15
      · have q2 : decide ((m : Int) ≤ 15) = true := decide_eq_true (by omega)
        have HX : Hid (X = ((n + 1) * 4, (((n : Int) + 1) * 4 == 4 + 4 * (m : Int)))) := by
          show _ = _; rw [HF.out, decide_eq_true h1, decide_eq_true h2]; simp only [Bool.true_and]; congr 1
          rw [Bool.eq_iff_iff, decide_eq_true_eq, beq_iff_eq]; omega
        rw [HX.out]
        dsimp only
        rw [en]
        clear HF HX h1 h2 en
        go_enter Tryz.func171, Tryz.ntmps171
        go_wp2_with (first | (go_at_call 155; refine CG.out.mono ?_; rintro e w' ⟨rfl, rfl⟩) | (go_at_call 182; refine HCZ.out.mono ?_; rintro e w' ⟨rfl, rfl⟩))
        go_ret2
        exact ⟨rfl, rfl⟩
      · have q2 : decide ((m : Int) ≤ 15) = false := decide_eq_false (by omega)
        have HX : Hid (X = ((n + 1) * 4, false)) := by show _ = _; rw [HF.out, decide_eq_false h2]; simp
        rw [HX.out]
        dsimp only
        rw [en]
        clear HF HX h1 h2 en HCZ
        go_enter Tryz.func171, Tryz.ntmps171
        go_wp2_with (go_at_call 155; refine CG.out.mono ?_; rintro e w' ⟨rfl, rfl⟩)
        go_ret2
        exact ⟨rfl, rfl⟩
    · have q1 : decide ((1 : Int) ≤ (m : Int)) = false := decide_eq_false (by omega)
      have HX : Hid (X = ((n + 1) * 4, false)) := by show _ = _; rw [HF.out, decide_eq_false h1]; simp
      rw [HX.out]
      dsimp only
      rw [en]
      clear HF HX h1 en HCZ
      go_enter Tryz.func171, Tryz.ntmps171
      go_wp2_with (go_at_call 155; refine CG.out.mono ?_; rintro e w' ⟨rfl, rfl⟩)
      go_ret2
      exact ⟨rfl, rfl⟩
  · have b0 : ((k : Int) == 203) = false := by rw [beq_eq_false_iff_ne]; omega
    by_cases h1 : k = 205
    · subst h1
      have C1 := csize_any 205 1 w (by omega)
      have C2 := csize_any 205 16 w (by omega)
      rw [show csize 205 1 = 16 from rfl] at C1
      rw [show csize 205 16 = 76 from rfl] at C2
      have HC1 := Lib.hid C1
      have HC2 := Lib.hid C2
      have HF : Hid (X = ((n + 1) * 4, decide (16 ≤ (n + 1) * 4) && decide ((n + 1) * 4 ≤ 76))) := by show _ = _; rw [HE.out, if_neg (by decide), if_pos rfl]
      clear HE C1 C2 hcs
      by_cases h2 : 16 ≤ (n + 1) * 4
      · have q1 : decide ((16 : Int) ≤ ((n : Int) + 1) * 4) = true := decide_eq_true (by omega)
        have HX : Hid (X = ((n + 1) * 4, decide (((n : Int) + 1) * 4 ≤ 76))) := by
          show _ = _; rw [HF.out, decide_eq_true h2]; simp only [Bool.true_and]; congr 1; exact decide_eq_decide.2 (by omega)
        rw [HX.out]
        dsimp only
        rw [en]
        clear HF HX h2 en
        go_enter Tryz.func171, Tryz.ntmps171
        go_wp2_with fail
        refine CG.out.mono ?_
        rintro e w' ⟨rfl, rfl⟩
        go_wp2_with fail
        refine HC1.out.mono ?_
        rintro e w' ⟨rfl, rfl⟩
        go_wp2_with fail
        refine HC2.out.mono ?_
        rintro e w' ⟨rfl, rfl⟩
        go_wp2_with fail
        go_ret2
        exact ⟨rfl, rfl⟩
      · have q1 : decide ((16 : Int) ≤ ((n : Int) + 1) * 4) = false := decide_eq_false (by omega)
        have HX : Hid (X = ((n + 1) * 4, false)) := by show _ = _; rw [HF.out, decide_eq_false h2]; simp
        rw [HX.out]
        dsimp only
        rw [en]
        clear HF HX h2 en HC2
        go_enter Tryz.func171, Tryz.ntmps171
        go_wp2_with fail
        refine CG.out.mono ?_
        rintro e w' ⟨rfl, rfl⟩
        go_wp2_with fail
        refine HC1.out.mono ?_
        rintro e w' ⟨rfl, rfl⟩
        go_wp2_with fail
        go_ret2
        exact ⟨rfl, rfl⟩
    · have b1 : ((k : Int) == 205) = false := by rw [beq_eq_false_iff_ne]; omega
      have CZ := csize_any k 0 w (by omega)
      rw [show csize k 0 = 12 by unfold csize; rw [if_neg h0, if_neg h1]] at CZ
      have HCZ := Lib.hid CZ
      have HX : Hid (X = ((n + 1) * 4, (((n : Int) + 1) * 4 == 12))) := by
        show _ = _; rw [HE.out, if_neg h0, if_neg h1]; congr 1
        rw [Bool.eq_iff_iff, decide_eq_true_eq, beq_iff_eq]; omega
      rw [HX.out]
      dsimp only
      rw [en]
      clear HE HX h0 h1 en CZ hcs
      go_enter Tryz.func171, Tryz.ntmps171
      go_wp2_with (first | (go_at_call 155; refine CG.out.mono ?_; rintro e w' ⟨rfl, rfl⟩) | (go_at_call 182; refine HCZ.out.mono ?_; rintro e w' ⟨rfl, rfl⟩))
      go_ret2
      exact ⟨rfl, rfl⟩
end Go.Proofs.By
set_option linter.unusedSimpArgs false
namespace Go.Proofs.By
open Go.RowKit Go.Proofs.Heap
def u32s (l : List Int) : List Value := l.map (Value.int .u32)
def pairCells (p : Int × Int) : List Value := [.int .u16 p.1, .int .u16 p.2]
def blkCells (x : Blk) : List Value := [.int .u32 x.ssrc, .int .u8 x.lost, .int .u32 x.total, .int .u32 x.high, .int .u32 x.jitter, .int .u32 x.last, .int .u32 x.delay]
theorem elemU32 : Elem Tryz.prog 29 66 1 4 := ⟨Tryz.underlying29, ⟨.int .u32 0, by kernel_rfl, rfl⟩, by decide⟩
theorem elemPair : Elem Tryz.prog 171 226 2 4 := ⟨Tryz.underlying171, ⟨.agg #[.int .u16 0, .int .u16 0], by kernel_rfl, rfl⟩, by decide⟩
/-- The value of an item, its slices apart. -/
def itmAgg (i : Itm) (bv gv pv : Value) : Value := .agg #[.int .i64 i.kind, .int .u32 i.ssrc, .int .u64 i.ntp, .int .u32 i.time, .int .u32 i.packets, .int .u32 i.octets, bv, gv, .int .u32 i.media, pv]
structure ItmIn (w : World) (v : Value) (i : Itm) : Prop where
  ex : ∃ bv gv pv, v = itmAgg i bv gv pv ∧ Row w 228 bv i.blocks.length (i.blocks.flatMap blkCells) ∧ Row w 66 gv i.gone.length (u32s i.gone) ∧ Row w 226 pv i.pairs.length (i.pairs.flatMap pairCells)
abbrev itmCells (k s m : Int) (gv pv : Value) : Array Value := #[.int .i64 k, .int .u32 s, .int .u64 0, .int .u32 0, .int .u32 0, .int .u32 0, .slice none 0 0, gv, .int .u32 m, pv]
/-- What the walk of parts keeps: the result's block, the item's. -/
structure PB (w w' : World) (k s m : Int) (gv pv : Value) : Prop where
  bel : Below w.heap.size w w'
  blk0 : w'.heap[w.heap.size]? = some (.cells (itmCells 0 0 0 (.slice none 0 0) (.slice none 0 0)) 173)
  blk : w'.heap[w.heap.size + 1]? = some (.cells (itmCells k s m gv pv) 173)
theorem PB.size {w w' : World} {k s m : Int} {gv pv : Value} (h : PB w w' k s m gv pv) : w.heap.size + 1 < w'.heap.size := by
  rcases Nat.lt_or_ge (w.heap.size + 1) w'.heap.size with h1 | h1
  · exact h1
  · have := h.blk
    rw [Array.getElem?_eq_none h1] at this; cases this
theorem PB.below {w w1 w' : World} {k s m : Int} {gv pv : Value} (h : PB w w1 k s m gv pv) (hb : Below w1.heap.size w1 w') : PB w w' k s m gv pv := by
  have hs := h.size
  exact ⟨h.bel.trans (hb.mono (by omega)), by rw [hb.block _ (by omega)]; exact h.blk0, by rw [hb.block _ hs]; exact h.blk⟩
theorem PB.grown {w w1 w' : World} {k s m : Int} {gv pv : Value} (h : PB w w1 k s m gv pv) {row : Option Nat} (hg : w1.grownBy w' row) (hr : ∀ j, row = some j → w.heap.size + 2 ≤ j) : PB w w' k s m gv pv := by
  have hs := h.size
  refine ⟨h.bel.trans ⟨hg.os, hg.tape, hg.output, hg.size, fun j hj => hg.block j (by omega) (fun e => by have := hr j e.symm; omega)⟩, ?_, ?_⟩
  · rw [hg.block _ (by omega) (fun e => by have := hr _ e.symm; omega)]; exact h.blk0
  · rw [hg.block _ hs (fun e => by have := hr _ e.symm; omega)]; exact h.blk
theorem PB.cell {w w' : World} {k s m : Int} {gv pv : Value} (h : PB w w' k s m gv pv) (j : Nat) : w'.cell? ⟨w.heap.size + 1, j, none⟩ = (itmCells k s m gv pv)[j]? := by
  have := h.blk
  simp only [World.cell?, this]
  rfl
theorem PB.frozen {w w' : World} {k s m : Int} {gv pv : Value} (h : PB w w' k s m gv pv) (j : Nat) : w'.frozen? ⟨w.heap.size + 1, j, none⟩ = false := by
  have := h.blk
  simp [World.frozen?, this]
theorem PB.setG {w w' : World} {k s m : Int} {gv pv : Value} (h : PB w w' k s m gv pv) (v : Value) : PB w (w'.setCell ⟨w.heap.size + 1, 7, none⟩ v) k s m v pv := by
  refine ⟨h.bel.setCell (by simp) _, ?_, ?_⟩
  · have := h.blk0
    simp [World.setCell, Array.getElem?_modify, this]
  · have := h.blk
    simp [World.setCell, Array.getElem?_modify, this]
theorem PB.setP {w w' : World} {k s m : Int} {gv pv : Value} (h : PB w w' k s m gv pv) (v : Value) : PB w (w'.setCell ⟨w.heap.size + 1, 9, none⟩ v) k s m gv v := by
  refine ⟨h.bel.setCell (by simp) _, ?_, ?_⟩
  · have := h.blk0
    simp [World.setCell, Array.getElem?_modify, this]
  · have := h.blk
    simp [World.setCell, Array.getElem?_modify, this]
theorem PB.start (w : World) (k s m : Int) : PB w ((w.alloc (.cells (itmCells 0 0 0 (.slice none 0 0) (.slice none 0 0)) 173)).alloc (.cells (itmCells k s m (.slice none 0 0) (.slice none 0 0)) 173)) k s m (.slice none 0 0) (.slice none 0 0) :=
  ⟨((Below.refl _ _).alloc (Nat.le_refl _) _).alloc (by simp) _, (two_new w _ _).1, (two_new w _ _).2⟩
theorem iwords_at (b : List UInt8) (p j : Nat) (hj : j < (b.length - p) / 4) : (iwords b p).take (j + 1) = (iwords b p).take j ++ [get b (p + 4 * j : Nat) 4] := by
  have hl : j < (iwords b p).length := by unfold iwords; simpa using hj
  rw [List.take_succ_eq_append_getElem hl]
  congr 2
  simp [iwords]
theorem iwords_len (b : List UInt8) (p : Nat) : (iwords b p).length = (b.length - p) / 4 := by unfold iwords; simp
end Go.Proofs.By
set_option linter.unusedSimpArgs false
namespace Go.Proofs.By
open Go.RowKit Go.Proofs.Heap
theorem owns_at {w w' : World} {base : Nat} {e : TypeId} {size : Nat} {v : Value} {n : Nat} {xs : List Value} (h : w.ownsRow base e size v n xs) (hb : ∀ k, base ≤ k → k < w.heap.size → w'.heap[k]? = w.heap[k]?) : w'.ownsRow base e size v n xs := by
  obtain ⟨h1, h2⟩ := h
  refine ⟨h1, ?_⟩
  rcases h2 with h2 | ⟨g, cap, cur, hv, hg, hh, r⟩
  · exact Or.inl h2
  · have hlt : g < w.heap.size := by
      rcases Nat.lt_or_ge g w.heap.size with h | h
      · exact h
      · rw [Array.getElem?_eq_none h] at hh; cases hh
    exact Or.inr ⟨g, cap, cur, hv, hg, by rw [hb g hg hlt]; exact hh, r⟩
theorem owns_set {w : World} {base : Nat} {e : TypeId} {size : Nat} {v : Value} {n : Nat} {xs : List Value} (h : w.ownsRow base e size v n xs) {b o : Nat} (hp : b < base) (u : Value) : (w.setCell ⟨b, o, none⟩ u).ownsRow base e size v n xs :=
  owns_at h fun k hk _ => RowKit.Below.heap_setCell _ _ _ _ (by show k ≠ b; omega)
theorem owns_bel {w w' : World} {base : Nat} {e : TypeId} {size : Nat} {v : Value} {n : Nat} {xs : List Value} (h : w.ownsRow base e size v n xs) (hb : Below w.heap.size w w') : w'.ownsRow base e size v n xs := owns_at h fun k _ hk => hb.block k hk
theorem owns_ge {base : Nat} {e : TypeId} {size : Nat} {v : Value} {n : Nat} {xs : List Value} {w : World} (h : w.ownsRow base e size v n xs) : ∀ k, v.ownBlock = some k → base ≤ k := by
  intro k hk
  obtain ⟨_, h⟩ := h
  rcases h with ⟨rfl, _⟩ | ⟨g, cap, cur, rfl, hg, _⟩
  · cases hk
  · have hk : some g = some k := hk
    cases hk; exact hg
theorem rowNew (w : World) (e : TypeId) (n : Nat) (xs : List Value) (hn : n ≤ maxLen) : Row (w.alloc (.cells xs.toArray e)) e (.slice (some ⟨w.heap.size, 0, none⟩) n n) n xs :=
  ⟨_, n, rfl, Nat.le_refl _, hn, (fun h => by cases h), Or.inr ⟨_, 0, xs.toArray, (0, 0), rfl, heap_new _ _, fun j _ => by simp⟩⟩
theorem PB.frozen0 {w w' : World} {k s m : Int} {gv pv : Value} (h : PB w w' k s m gv pv) (j : Nat) : w'.frozen? ⟨w.heap.size, j, none⟩ = false := by
  have := h.blk0
  simp [World.frozen?, this]
theorem PB.cell0 {w w' : World} {k s m : Int} {gv pv : Value} (h : PB w w' k s m gv pv) (j : Nat) : w'.cell? ⟨w.heap.size, j, none⟩ = (itmCells 0 0 0 (.slice none 0 0) (.slice none 0 0))[j]? := by
  have := h.blk0
  simp only [World.cell?, this]
  rfl
theorem fr10 (w : World) (k : Nat) (v0 v1 v2 v3 v4 v5 v6 v7 v8 v9 : Value) : Fr w.heap.size (· = k) w ((((((((((w.setCell ⟨k, 0, none⟩ v0).setCell ⟨k, 1, none⟩ v1).setCell ⟨k, 2, none⟩ v2).setCell ⟨k, 3, none⟩ v3).setCell ⟨k, 4, none⟩ v4).setCell ⟨k, 5, none⟩ v5).setCell ⟨k, 6, none⟩ v6).setCell ⟨k, 7, none⟩ v7).setCell ⟨k, 8, none⟩ v8).setCell ⟨k, 9, none⟩ v9) := ((((((((((Fr.refl _ _ _).setAt 0 v0).setAt 1 v1).setAt 2 v2).setAt 3 v3).setAt 4 v4).setAt 5 v5).setAt 6 v6).setAt 7 v7).setAt 8 v8).setAt 9 v9
theorem nat_add (a b : Nat) : ((a + 4 * b : Nat) : Int) = (a : Int) + 4 * (b : Int) := by omega
set_option maxRecDepth 100000 in
set_option maxHeartbeats 2000000 in
theorem parts_bye (v : Value) (b : List UInt8) (w : World) (hv : BRow w v b) (h4 : b.length % 4 = 0) (hb : b.length ≤ 1000) (hb4 : 4 ≤ b.length) :
    Calls Tryz.prog 172 #[v, .int .i64 203] w fun e w' => (∃ a, e = .returned a ∧ ItmIn w' a (parts b 203)) ∧ Below w.heap.size w w' := by
  have HV : Hid (∀ w', Below w.heap.size w w' → BRow w' v b) := fun w' h => hv.below h
  have hlen := hv.len
  obtain ⟨a, c, rfl, hcc, -⟩ := id hv
  obtain ⟨m, hm⟩ : ∃ m, b.length = 4 + 4 * m := ⟨(b.length - 4) / 4, by omega⟩
  have HW : Hid (∀ j, j < m → ((iwords b 4).take (j + 1)).map (fun n : Nat => (n : Int)) = ((iwords b 4).take j).map (fun n : Nat => (n : Int)) ++ [(get b (4 + 4 * (j : Int)) 4 : Int)]) := fun j hj => by
    rw [iwords_at b 4 j (by omega), List.map_append, nat_add]; rfl
  have HWL : Hid ((iwords b 4).length = m) := by show _ = _; rw [iwords_len]; omega
  have HWT : Hid (∀ j, j ≤ m → (((iwords b 4).take j).map (fun n : Nat => (n : Int))).length = j) := fun j hj => by rw [List.length_map, List.length_take, HWL.out]; omega
  have HE : Hid (parts b 203 = { noItm with kind := 203, gone := (iwords b 4).map fun (n : Nat) => (n : Int) }) := rfl
  have CN : Hid (∀ w' (j : Nat), Below w.heap.size w w' → Calls Tryz.prog 183 #[.slice a b.length c, .int .i64 (4 + 4 * (j : Int))] w' fun e w1 => e = .returned (.int .u32 (get b (4 + 4 * (j : Int)) 4 : Nat)) ∧ w' = w1) := fun w' j h => cnumber_any _ b _ w' (HV.out w' h)
  have HP0 := Lib.hid (PB.start w 203 0 0)
  clear hv HV
  rw [hm]
  rw [hm] at CN
  have hm1000 : m ≤ 250 := by omega
  generalize parts b 203 = X at *
  clear hm hlen h4 hb hb4 hcc
  go_enter Tryz.func172, Tryz.ntmps172
  go_wp2
  go_loopw [6] (fun i w' => ∃ (j : Nat) (gv : Value), j ≤ m ∧ i = .int .i64 (4 + 4 * (j : Int)) ∧ PB w w' 203 0 0 gv (.slice none 0 0) ∧ w'.ownsRow (w.heap.size + 2) 66 1 gv j (u32s (((iwords b 4).take j).map (fun n : Nat => (n : Int))))) (fun i _ => 4 + 4 * m - (intOf i).toNat)
  case atStart => exact ⟨0, .slice none 0 0, Nat.zero_le _, rfl, HP0.out, World.ownsRow_nil _ _ _ _⟩
  case round =>
    clear HP0
    obtain ⟨j, gv, hj, rfl, hpb, hown⟩ := hrel
    have HPB := Lib.hid hpb
    have HOWN := Lib.hid hown
    have hsz := hpb.size
    have c7 : wr.cell? ⟨w.heap.size + 1, 7, none⟩ = some gv := hpb.cell 7
    have c5 := hpb.blk
    clear hpb hown
    by_cases hjm : j < m
    · have CN1 := Lib.hid (CN.out wr j HPB.out.bel)
      have HW1 := Lib.hid (HW.out j hjm)
      have hn : get b (4 + 4 * (j : Int)) 4 < 4294967296 := get_lt b _ 4 4 (by decide)
      clear c5
      generalize get b (4 + 4 * (j : Int)) 4 = n at *
      go_wp2_with (first | (go_at_call 183; refine CN1.out.mono ?_; rintro e w' ⟨rfl, rfl⟩) | (at_builtin; refine wpList_app rfl (.tmp 30) (.tmp 32) 29 rfl (w.heap.size + 2) elemU32 gv j _ rfl (HOWN.out.alloc _) _ 1 [.int .u32 (n : Int)] rfl (rowNew wr 66 1 [.int .u32 (n : Int)] (by decide)) rfl (by intro u hu; simp at hu; subst hu; rfl) (by omega) (by omega) (by simp; omega) (fun v' w5 HO HG => ?_); have HPB5 := Lib.hid ((HPB.out.below (below_alloc wr (.cells #[.int .u32 (n : Int)] 66))).grown HG.out (owns_ge HOWN.out)); have hz5 := HPB5.out.size; have f7 := HPB5.out.frozen 7; have c75 : w5.cell? ⟨w.heap.size + 1, 7, none⟩ = some gv := HPB5.out.cell 7; obtain ⟨va, vc, hva, -, -⟩ := Row.of_owns HO.out; subst hva))
      go_roundw
      case rel => exact ⟨j + 1, _, by omega, by go_num, HPB5.out.setG _, by rw [HW1.out]; exact owns_set (by have := HO.out; unfold u32s at this ⊢; rw [List.map_append]; exact this) (by omega) _⟩
      case measure => simp [intOf]; omega
    · obtain rfl : j = m := by omega
      have hrow := Row.of_owns HOWN.out
      obtain ⟨va, vc, rfl, -, -⟩ := id hrow
      have e0 := HPB.out.cell 0
      have e1 := HPB.out.cell 1
      have e2 := HPB.out.cell 2
      have e3 := HPB.out.cell 3
      have e4 := HPB.out.cell 4
      have e5 := HPB.out.cell 5
      have e6 := HPB.out.cell 6
      have e8 := HPB.out.cell 8
      have e9 := HPB.out.cell 9
      simp only [itmCells, List.getElem?_toArray, List.getElem?_cons_zero, List.getElem?_cons_succ] at e0 e1 e2 e3 e4 e5 e6 e8 e9
      have HROW := Lib.hid hrow
      have g0 := fun k => HPB.out.frozen0 k
      have g00 := g0 0
      have z0 := HPB.out.cell0 0
      have g10 := g0 1
      have z1 := HPB.out.cell0 1
      have g20 := g0 2
      have z2 := HPB.out.cell0 2
      have g30 := g0 3
      have z3 := HPB.out.cell0 3
      have g40 := g0 4
      have z4 := HPB.out.cell0 4
      have g50 := g0 5
      have z5 := HPB.out.cell0 5
      have g60 := g0 6
      have z6 := HPB.out.cell0 6
      have g70 := g0 7
      have z7 := HPB.out.cell0 7
      have g80 := g0 8
      have z8 := HPB.out.cell0 8
      have g90 := g0 9
      have z9 := HPB.out.cell0 9
      simp only [itmCells, List.getElem?_toArray, List.getElem?_cons_zero, List.getElem?_cons_succ] at z0 z1 z2 z3 z4 z5 z6 z7 z8 z9
      clear hrow c5 g0
      have HT : Hid ((iwords b 4).take j = iwords b 4) := List.take_of_length_le (by rw [HWL.out]; exact Nat.le_refl _)
      have HGL : Hid (((iwords b 4).map (fun n : Nat => (n : Int))).length = j) := by show _ = _; rw [List.length_map]; exact HWL.out
      have HK : Hid (∀ w', Fr wr.heap.size (· = w.heap.size) wr w' → (Row w' 66 (.slice va j vc) j (u32s (((iwords b 4).take j).map (fun n : Nat => (n : Int)))) ∧ Below w.heap.size w w')) := fun w' hf =>
        ⟨HROW.out.fr hf (Nat.le_refl _) (fun k c' fr hk e => by subst hk; rw [HPB.out.blk0] at e; injection e with e; injection e with _ e _; exact absurd e (by decide)), HPB.out.bel.trans (Fr.below (hf.mono (Nat.le_of_lt (Nat.lt_trans (Nat.lt_succ_self _) hsz)) (fun k hk hs => by have hs : k = w.heap.size := hs; omega)))⟩
      go_wp2
      refine bodyPost_ret (v := .agg #[.int .i64 203, .int .u32 0, .int .u64 0, .int .u32 0, .int .u32 0, .int .u32 0, .slice none 0 0, .slice va j vc, .int .u32 0, .slice none 0 0]) (by simp [results, Tryz.results172, go_sem, z0, z1, z2, z3, z4, z5, z6, z7, z8, z9]) rfl ⟨⟨_, rfl, ?_⟩, ?_⟩
      · have h := HK.out _ (fr10 wr w.heap.size (.int .i64 203) (.int .u32 0) (.int .u64 0) (.int .u32 0) (.int .u32 0) (.int .u32 0) (.slice none 0 0) (.slice va j vc) (.int .u32 0) (.slice none 0 0))
        rw [HT.out] at h
        refine ⟨.slice none 0 0, .slice va j vc, .slice none 0 0, by rw [HE.out]; rfl, by rw [HE.out]; exact Row.nil _ _, ?_, by rw [HE.out]; exact Row.nil _ _⟩
        rw [HE.out]
        show Row _ _ _ ((iwords b 4).map (fun n : Nat => (n : Int))).length _
        rw [HGL.out]
        with_reducible exact h.1
      · have h := HK.out _ (fr10 wr w.heap.size (.int .i64 203) (.int .u32 0) (.int .u64 0) (.int .u32 0) (.int .u32 0) (.int .u32 0) (.slice none 0 0) (.slice va j vc) (.int .u32 0) (.slice none 0 0))
        with_reducible exact h.2
end Go.Proofs.By
