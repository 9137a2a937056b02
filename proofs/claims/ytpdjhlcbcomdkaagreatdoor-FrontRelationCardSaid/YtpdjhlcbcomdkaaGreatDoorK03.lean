/- Several texts in one: The walks of package field, and of the reference's numbers in bytes: within, Get. What package rtp, package desc compute of bytes. Plain. The walks of package rtp: feedback, number, extension, padding. The walks of package rtp: look. What packages report, rtcp, sift compute of bytes. Plain. The walks of packages report and rtcp: the small ones; desc.Get. -/
import Derived.Test.YtpdjhlcbcomdkaaGreatDoorChecked
import Derived.Lib.Walk
import Derived.LoopTactic
import Derived.BigQuiet
import Derived.Deep.QuietTactic
import Derived.Test.YtpdjhlcbcomdkaaGreatDoorK02
set_option linter.unusedSimpArgs false
namespace Go.Proofs.By
open Go.RowKit Go.Proofs.Heap
theorem ret_bool {a b : Bool} (h : a = b) : Ending.returned (.bool a) = .returned (.bool b) := by rw [h]
theorem elemU8 : Elem Tryz.prog 30 5 1 1 := ⟨Tryz.underlying30, ⟨.int .u8 0, by kernel_rfl, rfl⟩, by decide⟩
/-- A slice value reads as bytes. -/
abbrev BRow (w : World) (v : Value) (l : List UInt8) : Prop := RRow w v l.length (bys l)
theorem b_open {w : World} {v : Value} {l : List UInt8} (h : BRow w v l) (hl : 0 < l.length) : ∃ g off cap, v = .slice (some ⟨g, off, none⟩) l.length cap ∧ l.length ≤ cap ∧ cap ≤ maxLen ∧
    ∀ (j : Nat) (hj : j < l.length), w.cell? ⟨g, off + j, none⟩ = some (.int .u8 (l[j].toNat : Int)) := by
  obtain ⟨g, off, cap, h1, h2, h3, _, h5⟩ := h.open (by rw [bys_length]; exact hl)
  refine ⟨g, off, cap, h1, h2, h3, fun j hj => ?_⟩
  rw [h5 j (by rw [bys_length]; exact hj)]
  simp [bys, hj]
theorem within_any (a : Option Addr) (n c : Nat) (p q : Int) (w : World) (hn : n ≤ 9223372036854775807) :
    Calls Tryz.prog 176 #[.slice a n c, .int .i64 p, .int .i64 q] w fun e w' => e = .returned (.bool (within n p q)) ∧ w = w' := by
  have HW : Hid (within n p q = (decide (1 ≤ q) && decide (q ≤ 8) && decide (0 ≤ p) && decide (p ≤ (n : Int) - q))) := rfl
  generalize within n p q = x at *
  by_cases h1 : 1 ≤ q
  · by_cases h2 : q ≤ 8
    · by_cases h3 : 0 ≤ p
      · have HF : Hid (x = decide (p ≤ (n : Int) - q)) := by show _ = _; rw [HW.out, decide_eq_true h1, decide_eq_true h2, decide_eq_true h3]; simp
        have d1 : decide (1 ≤ q) = true := decide_eq_true h1
        have d2 : decide (q ≤ 8) = true := decide_eq_true h2
        have d3 : decide (0 ≤ p) = true := decide_eq_true h3
        clear HW
        go_enter Tryz.func176, Tryz.ntmps176
        go_wp2
        go_ret
        exact ⟨ret_bool HF.out.symm, rfl⟩
      · have HF : Hid (x = false) := by show _ = _; rw [HW.out, decide_eq_false h3]; simp
        have d1 : decide (1 ≤ q) = true := decide_eq_true h1
        have d2 : decide (q ≤ 8) = true := decide_eq_true h2
        have d3 : decide (0 ≤ p) = false := decide_eq_false h3
        clear HW
        go_enter Tryz.func176, Tryz.ntmps176
        go_wp2
        go_ret
        exact ⟨ret_bool HF.out.symm, rfl⟩
    · have HF : Hid (x = false) := by show _ = _; rw [HW.out, decide_eq_false h2]; simp
      have d1 : decide (1 ≤ q) = true := decide_eq_true h1
      have d2 : decide (q ≤ 8) = false := decide_eq_false h2
      clear HW
      go_enter Tryz.func176, Tryz.ntmps176
      go_wp2
      go_ret
      exact ⟨ret_bool HF.out.symm, rfl⟩
  · have HF : Hid (x = false) := by show _ = _; rw [HW.out, decide_eq_false h1]; simp
    have d1 : decide (1 ≤ q) = false := decide_eq_false h1
    clear HW
    go_enter Tryz.func176, Tryz.ntmps176
    go_wp2
    go_ret
    exact ⟨ret_bool HF.out.symm, rfl⟩
set_option maxHeartbeats 1000000 in
theorem Get_any (v : Value) (b : List UInt8) (p q : Int) (w : World) (hv : BRow w v b) :
    Calls Tryz.prog 155 #[v, .int .i64 p, .int .i64 q] w fun e w' => e = .returned (.tuple #[.int .u64 (get b p q : Nat), .bool (within b.length p q)]) ∧ w = w' := by
  have hlen := hv.len
  obtain ⟨a, c, rfl, hc, -⟩ := id hv
  have CW := Lib.hid (within_any a b.length c p q w hlen)
  cases hw : within b.length p q
  · have HG : Hid (get b p q = 0) := by show _ = _; unfold get; rw [hw]; rfl
    rw [hw] at CW
    rw [HG.out]
    clear hw HG
    go_enter Tryz.func155, Tryz.ntmps155
    go_wp2_with (go_at_call 176; refine CW.out.mono ?_; rintro e w' ⟨rfl, rfl⟩)
    go_ret2
    exact ⟨rfl, rfl⟩
  · obtain ⟨h1, h2, h3, h4⟩ := within_iff.1 hw
    have HG : Hid (get b p q = be ((b.drop p.toNat).take q.toNat)) := by show _ = _; unfold get; rw [hw]; rfl
    rw [hw] at CW
    obtain ⟨p, rfl⟩ := Int.eq_ofNat_of_zero_le h3
    obtain ⟨q, rfl⟩ := Int.eq_ofNat_of_zero_le (show 0 ≤ q by omega)
    rw [Int.toNat_natCast, Int.toNat_natCast] at HG
    obtain ⟨a', hsl, hrow⟩ := slice_mid elemU8 a b.length c p (p + q) (by omega) (by omega) hc
    have hrow := hrow w (bys b) (by rw [bys_length]; omega) hv
    rw [Nat.mul_one, Nat.mul_one, Nat.add_sub_cancel_left, bys_drop, bys_take] at hrow
    rw [Nat.add_sub_cancel_left] at hsl
    have hql : ((b.drop p).take q).length = q := by rw [List.length_take, List.length_drop]; omega
    have hpq : ((p + q : Nat) : Int) = (p : Int) + (q : Int) := by omega
    rw [hpq] at hsl
    rw [HG.out]
    have HROW := Lib.hid hrow
    clear hw HG hrow hv hpq
    generalize (b.drop p).take q = s at *
    subst hql
    go_enter Tryz.func155, Tryz.ntmps155
    go_wp2_with (go_at_call 176; refine CW.out.mono ?_; rintro e w' ⟨rfl, rfl⟩)
    go_loop [8, 23] (fun n i => ∃ k : Nat, k ≤ s.length ∧ i = .int .i64 k ∧ n = .int .u64 (be (s.take k) : Nat)) (fun _ i => s.length - (intOf i).toNat)
    case atStart => exact ⟨0, Nat.zero_le _, rfl, rfl⟩
    case round =>
      obtain ⟨k, hk, rfl, rfl⟩ := hrel
      by_cases hkq : k < s.length
      · obtain ⟨g, off, cap, e1, _, _, hc⟩ := b_open (l := s) HROW.out (by omega)
        cases e1
        have d := hc k (by omega)
        have HB : Hid (be (s.take (k + 1)) = be (s.take k) * 256 + s[k].toNat) := by
          show _ = _
          rw [List.take_succ_eq_append_getElem (by omega), be_snoc]
        have hlt : be (s.take k) < 72057594037927936 := be_lt7 (by rw [List.length_take]; omega)
        have hor := or_byte (be (s.take k)) s[k] hlt
        have hb8 := s[k].toNat_lt
        clear hc
        generalize s[k] = x at *
        generalize be (s.take k) = m at *
        go_wp2
        go_round
        case rel => exact ⟨k + 1, by omega, by go_num, by rw [HB.out]; go_num⟩
        case measure => simp [intOf]; omega
      · obtain rfl : k = s.length := by omega
        go_wp2
        go_ret2
        exact ⟨rfl, rfl⟩
theorem rwithin_any (a : Option Addr) (n c : Nat) (p q : Int) (w : World) (hn : n ≤ 9223372036854775807) :
    Calls Tryz.prog 167 #[.slice a n c, .int .i64 p, .int .i64 q] w fun e w' => e = .returned (.bool (within n p q)) ∧ w = w' := by
  have HW : Hid (within n p q = (decide (1 ≤ q) && decide (q ≤ 8) && decide (0 ≤ p) && decide (p ≤ (n : Int) - q))) := rfl
  generalize within n p q = x at *
  by_cases h1 : 1 ≤ q
  · by_cases h2 : q ≤ 8
    · by_cases h3 : 0 ≤ p
      · have d1 : decide (1 ≤ q) = true := decide_eq_true h1
        have d2 : decide (q ≤ 8) = true := decide_eq_true h2
        have d3 : decide (0 ≤ p) = true := decide_eq_true h3
        by_cases h4 : p ≤ (n : Int)
        · have HF : Hid (x = decide (q ≤ (n : Int) - p)) := by
            show _ = _
            rw [HW.out, d1, d2, d3]
            simp only [Bool.true_and]
            exact decide_eq_decide.2 (by omega)
          have d4 : decide (p ≤ (n : Int)) = true := decide_eq_true h4
          clear HW
          go_enter Tryz.func167, Tryz.ntmps167
          go_wp2
          go_ret
          exact ⟨ret_bool HF.out.symm, rfl⟩
        · have HF : Hid (x = false) := by show _ = _; rw [HW.out, decide_eq_false (show ¬ p ≤ (n : Int) - q by omega), Bool.and_false]
          have d4 : decide (p ≤ (n : Int)) = false := decide_eq_false h4
          clear HW
          go_enter Tryz.func167, Tryz.ntmps167
          go_wp2
          go_ret
          exact ⟨ret_bool HF.out.symm, rfl⟩
      · have HF : Hid (x = false) := by show _ = _; rw [HW.out, decide_eq_false h3]; simp
        have d1 : decide (1 ≤ q) = true := decide_eq_true h1
        have d2 : decide (q ≤ 8) = true := decide_eq_true h2
        have d3 : decide (0 ≤ p) = false := decide_eq_false h3
        clear HW
        go_enter Tryz.func167, Tryz.ntmps167
        go_wp2
        go_ret
        exact ⟨ret_bool HF.out.symm, rfl⟩
    · have HF : Hid (x = false) := by show _ = _; rw [HW.out, decide_eq_false h2]; simp
      have d1 : decide (1 ≤ q) = true := decide_eq_true h1
      have d2 : decide (q ≤ 8) = false := decide_eq_false h2
      clear HW
      go_enter Tryz.func167, Tryz.ntmps167
      go_wp2
      go_ret
      exact ⟨ret_bool HF.out.symm, rfl⟩
  · have HF : Hid (x = false) := by show _ = _; rw [HW.out, decide_eq_false h1]; simp
    have d1 : decide (1 ≤ q) = false := decide_eq_false h1
    clear HW
    go_enter Tryz.func167, Tryz.ntmps167
    go_wp2
    go_ret
    exact ⟨ret_bool HF.out.symm, rfl⟩
set_option maxHeartbeats 1000000 in
theorem rGet_any (v : Value) (b : List UInt8) (p q : Int) (w : World) (hv : BRow w v b) :
    Calls Tryz.prog 145 #[v, .int .i64 p, .int .i64 q] w fun e w' => e = .returned (.tuple #[.int .u64 (get b p q : Nat), .bool (within b.length p q)]) ∧ w = w' := by
  have hlen := hv.len
  obtain ⟨a, c, rfl, hc, -⟩ := id hv
  have CW := Lib.hid (rwithin_any a b.length c p q w hlen)
  cases hw : within b.length p q
  · have HG : Hid (get b p q = 0) := by show _ = _; unfold get; rw [hw]; rfl
    rw [hw] at CW
    rw [HG.out]
    clear hw HG
    go_enter Tryz.func145, Tryz.ntmps145
    go_wp2_with (go_at_call 167; refine CW.out.mono ?_; rintro e w' ⟨rfl, rfl⟩)
    go_ret2
    exact ⟨rfl, rfl⟩
  · obtain ⟨h1, h2, h3, h4⟩ := within_iff.1 hw
    have HG : Hid (get b p q = be ((b.drop p.toNat).take q.toNat)) := by show _ = _; unfold get; rw [hw]; rfl
    rw [hw] at CW
    obtain ⟨p, rfl⟩ := Int.eq_ofNat_of_zero_le h3
    obtain ⟨q, rfl⟩ := Int.eq_ofNat_of_zero_le (show 0 ≤ q by omega)
    rw [Int.toNat_natCast, Int.toNat_natCast] at HG
    obtain ⟨a', hsl, hrow⟩ := slice_mid elemU8 a b.length c p (p + q) (by omega) (by omega) hc
    have hrow := hrow w (bys b) (by rw [bys_length]; omega) hv
    rw [Nat.mul_one, Nat.mul_one, Nat.add_sub_cancel_left, bys_drop, bys_take] at hrow
    rw [Nat.add_sub_cancel_left] at hsl
    have hql : ((b.drop p).take q).length = q := by rw [List.length_take, List.length_drop]; omega
    have hpq : ((p + q : Nat) : Int) = (p : Int) + (q : Int) := by omega
    rw [hpq] at hsl
    rw [HG.out]
    have HROW := Lib.hid hrow
    clear hw HG hrow hv hpq
    generalize (b.drop p).take q = s at *
    subst hql
    go_enter Tryz.func145, Tryz.ntmps145
    go_wp2_with (go_at_call 167; refine CW.out.mono ?_; rintro e w' ⟨rfl, rfl⟩)
    go_loop [8, 23] (fun n i => ∃ k : Nat, k ≤ s.length ∧ i = .int .i64 k ∧ n = .int .u64 (be (s.take k) : Nat)) (fun _ i => s.length - (intOf i).toNat)
    case atStart => exact ⟨0, Nat.zero_le _, rfl, rfl⟩
    case round =>
      obtain ⟨k, hk, rfl, rfl⟩ := hrel
      by_cases hkq : k < s.length
      · obtain ⟨g, off, cap, e1, _, _, hc⟩ := b_open (l := s) HROW.out (by omega)
        cases e1
        have d := hc k (by omega)
        have HB : Hid (be (s.take (k + 1)) = be (s.take k) * 256 + s[k].toNat) := by
          show _ = _
          rw [List.take_succ_eq_append_getElem (by omega), be_snoc]
        have hlt : be (s.take k) < 72057594037927936 := be_lt7 (by rw [List.length_take]; omega)
        have hor := or_byte (be (s.take k)) s[k] hlt
        have hb8 := s[k].toNat_lt
        clear hc
        generalize s[k] = x at *
        generalize be (s.take k) = m at *
        go_wp2
        go_round
        case rel => exact ⟨k + 1, by omega, by go_num, by rw [HB.out]; go_num⟩
        case measure => simp [intOf]; omega
      · obtain rfl : k = s.length := by omega
        go_wp2
        go_ret2
        exact ⟨rfl, rfl⟩
end Go.Proofs.By
namespace Go.Proofs.By
/-- A byte; 0: it is not there. -/
def at8 (b : List UInt8) (i : Nat) : Nat := (b.getD i 0).toNat
structure Pkt where
  marker : Bool
  type : Int
  seq : Int
  time : Int
  ssrc : Int
  csrc : List Int
  hasExt : Bool
  profile : Int
  ext : List UInt8
  payload : List UInt8
  pad : Int
def noPkt : Pkt := ⟨false, 0, 0, 0, 0, [], false, 0, [], [], 0⟩
/-- Where the payload begins, and the extension's words do. -/
def extn (b : List UInt8) (p : Nat) : (Nat × Nat) × Bool :=
  if at8 b 0 / 16 % 2 = 0 then ((p, p), decide (p ≤ b.length))
  else ((p + 4, p + 4 + 4 * get b ((p : Int) + 2) 2), within b.length ((p : Int) + 2) 2 && decide (p + 4 + 4 * get b ((p : Int) + 2) 2 ≤ b.length))
/-- How many bytes of padding the rest of a packet has. -/
def padd (b rest : List UInt8) : Nat × Bool :=
  if at8 b 0 / 32 % 2 = 0 then (0, true)
  else if rest.length = 0 then (0, false)
  else
    let n := at8 rest (rest.length - 1)
    if n = 0 ∨ rest.length < n then (0, false)
    else if ((rest.drop (rest.length - n)).take (n - 1)).all (fun x => decide (x = 0)) then (n, true) else (0, false)
def looks (b : List UInt8) : (Nat × Nat × Nat) × Int :=
  if 512 < b.length then ((0, 0, 0), 5)
  else if b.length < 12 then ((0, 0, 0), 2)
  else if at8 b 0 / 64 ≠ 2 then ((0, 0, 0), 1)
  else if 192 ≤ at8 b 1 ∧ at8 b 1 ≤ 223 then ((0, 0, 0), 4)
  else
    let x := extn b (12 + 4 * (at8 b 0 % 16))
    if x.2 = false then ((0, 0, 0), 2)
    else
      let y := padd b (b.drop x.1.2)
      if y.2 = false then ((0, 0, 0), 1) else ((x.1.1, x.1.2, b.length - y.1), 0)
/-- What a packet is, of bytes that may be one. -/
def packet (b : List UInt8) (s : Nat × Nat × Nat) : Pkt where
  marker := decide (128 ≤ at8 b 1)
  type := (at8 b 1 % 128 : Nat)
  seq := get b 2 2
  time := get b 4 4
  ssrc := get b 8 4
  csrc := (List.range (at8 b 0 % 16)).map fun (i : Nat) => ((get b (12 + 4 * (i : Int)) 4 : Nat) : Int)
  hasExt := decide (at8 b 0 / 16 % 2 = 1)
  profile := if at8 b 0 / 16 % 2 = 1 then (get b ((s.1 : Int) - 4) 2 : Int) else 0
  ext := if at8 b 0 / 16 % 2 = 1 then (b.drop s.1).take (s.2.1 - s.1) else []
  payload := (b.drop s.2.1).take (s.2.2 - s.2.1)
  pad := (b.length : Int) - s.2.2
def rtpGet (b : List UInt8) : Pkt × Int := if (looks b).2 ≠ 0 then (noPkt, (looks b).2) else (packet b (looks b).1, 0)
structure Dsc where
  layer : Int
  key : Bool
  start : Bool
  frame : Int
def noDsc : Dsc := ⟨0, false, false, 0⟩
def descGet (b : List UInt8) : Dsc × Int :=
  if b.length < 4 then (noDsc, 2)
  else if at8 b 0 / 4 % 16 ≠ 0 ∨ at8 b 0 % 4 = 3 ∨ at8 b 1 ≠ 90 then (noDsc, 1)
  else (⟨(at8 b 0 % 4 : Nat), decide (128 ≤ at8 b 0), decide (at8 b 0 / 64 % 2 = 1), get b 2 2⟩, 0)
end Go.Proofs.By
set_option linter.unusedSimpArgs false
namespace Go.Proofs.By
open Go.RowKit Go.Proofs.Heap
theorem at8_lt {b : List UInt8} {i : Nat} (h : i < b.length) : at8 b i = b[i].toNat := by
  unfold at8
  rw [List.getD_eq_getElem?_getD, List.getElem?_eq_getElem h]; rfl
theorem at8_256 (b : List UInt8) (i : Nat) : at8 b i < 256 := by unfold at8; exact (b.getD i 0).toNat_lt
theorem b_at {w : World} {v : Value} {l : List UInt8} (h : BRow w v l) (hl : 0 < l.length) : ∃ g off cap, v = .slice (some ⟨g, off, none⟩) l.length cap ∧ l.length ≤ cap ∧ cap ≤ maxLen ∧
    ∀ (j : Nat) (_ : j < l.length), w.cell? ⟨g, off + j, none⟩ = some (.int .u8 (at8 l j : Int)) := by
  obtain ⟨g, off, cap, h1, h2, h3, h4⟩ := b_open h hl
  exact ⟨g, off, cap, h1, h2, h3, fun j hj => by rw [h4 j hj, at8_lt hj]⟩
theorem and_bit (k n : Nat) (hn : n < 256) (hk : 2 ^ k < 256) : bits .and .u8 (n : Int) ((2 ^ k : Nat) : Int) = ((n / 2 ^ k % 2 * 2 ^ k : Nat) : Int) := by
  rw [u8_and_nat n (2 ^ k) hn hk, nat_bit]
theorem and_16 (n : Nat) (hn : n < 256) : bits .and .u8 (n : Int) 16 = ((n / 16 % 2 * 16 : Nat) : Int) := and_bit 4 n hn (by decide)
theorem and_32 (n : Nat) (hn : n < 256) : bits .and .u8 (n : Int) 32 = ((n / 32 % 2 * 32 : Nat) : Int) := and_bit 5 n hn (by decide)
theorem and_64 (n : Nat) (hn : n < 256) : bits .and .u8 (n : Int) 64 = ((n / 64 % 2 * 64 : Nat) : Int) := and_bit 6 n hn (by decide)
theorem and_128 (n : Nat) (hn : n < 256) : bits .and .u8 (n : Int) 128 = ((n / 128 % 2 * 128 : Nat) : Int) := and_bit 7 n hn (by decide)
theorem and_15 (n : Nat) (hn : n < 256) : bits .and .u8 (n : Int) 15 = ((n % 16 : Nat) : Int) := by
  rw [show (15 : Int) = ((15 : Nat) : Int) from rfl, u8_and_nat n 15 hn (by decide), nat_mask4]
theorem and_31 (n : Nat) (hn : n < 256) : bits .and .u8 (n : Int) 31 = ((n % 32 : Nat) : Int) := by
  rw [show (31 : Int) = ((31 : Nat) : Int) from rfl, u8_and_nat n 31 hn (by decide), nat_mask5]
theorem and_127 (n : Nat) (hn : n < 256) : bits .and .u8 (n : Int) 127 = ((n % 128 : Nat) : Int) := by
  rw [show (127 : Int) = ((127 : Nat) : Int) from rfl, u8_and_nat n 127 hn (by decide), nat_mask7]
theorem and_3 (n : Nat) (hn : n < 256) : bits .and .u8 (n : Int) 3 = ((n % 4 : Nat) : Int) := by
  rw [show (3 : Int) = ((3 : Nat) : Int) from rfl, u8_and_nat n 3 hn (by decide), nat_mask2]
theorem get_lt (b : List UInt8) (p q : Int) (k : Nat) (hk : q.toNat ≤ k) : get b p q < 256 ^ k := by
  unfold get
  split
  · refine Nat.lt_of_lt_of_le (be_lt _) (Nat.pow_le_pow_right (by decide) ?_)
    rw [List.length_take]; omega
  · exact Nat.pow_pos (by decide)
theorem feedback_any (n : Nat) (w : World) (hn : n < 256) :
    Calls Tryz.prog 173 #[.int .u8 (n : Int)] w fun e w' => e = .returned (.bool (decide (192 ≤ n ∧ n ≤ 223))) ∧ w = w' := by
  by_cases h1 : 192 ≤ n
  · have HF : Hid (decide (192 ≤ n ∧ n ≤ 223) = decide ((n : Int) ≤ 223)) := decide_eq_decide.2 (by omega)
    have d1 : decide ((192 : Int) ≤ (n : Int)) = true := decide_eq_true (by omega)
    rw [HF.out]
    clear HF
    go_enter Tryz.func173, Tryz.ntmps173
    go_wp2
    go_ret
    exact ⟨rfl, rfl⟩
  · have HF : Hid (decide (192 ≤ n ∧ n ≤ 223) = false) := decide_eq_false (by omega)
    have d1 : decide ((192 : Int) ≤ (n : Int)) = false := decide_eq_false (by omega)
    rw [HF.out]
    clear HF
    go_enter Tryz.func173, Tryz.ntmps173
    go_wp2
    go_ret
    exact ⟨rfl, rfl⟩
theorem number_any (v : Value) (b : List UInt8) (p q : Int) (w : World) (hv : BRow w v b) :
    Calls Tryz.prog 153 #[v, .int .i64 p, .int .i64 q] w fun e w' => e = .returned (.int .u64 (get b p q : Nat)) ∧ w = w' := by
  have CG := Lib.hid (Get_any v b p q w hv)
  clear hv
  go_enter Tryz.func153, Tryz.ntmps153
  go_wp2_with (go_at_call 155; refine CG.out.mono ?_; rintro e w' ⟨rfl, rfl⟩)
  go_ret
  exact ⟨rfl, rfl⟩
theorem extension_any (v : Value) (b : List UInt8) (p : Nat) (w : World) (hv : BRow w v b) (hb : 0 < b.length) (hp : p ≤ 1000) :
    Calls Tryz.prog 174 #[v, .int .i64 p] w fun e w' => e = .returned (.tuple #[.int .i64 ((extn b p).1.1 : Nat), .int .i64 ((extn b p).1.2 : Nat), .bool (extn b p).2]) ∧ w = w' := by
  have hlen := hv.len
  have CG := Lib.hid (Get_any v b ((p : Int) + 2) 2 w hv)
  obtain ⟨g, off, cap, rfl, _, _, hc⟩ := b_at hv hb
  have d0 := hc 0 hb
  have d0' : w.cell? ⟨g, off, none⟩ = some (.int .u8 (at8 b 0 : Int)) := d0
  have hx := at8_256 b 0
  have ha := and_16 (at8 b 0) hx
  have HE : Hid (extn b p = if at8 b 0 / 16 % 2 = 0 then ((p, p), decide (p ≤ b.length)) else ((p + 4, p + 4 + 4 * get b ((p : Int) + 2) 2), within b.length ((p : Int) + 2) 2 && decide (p + 4 + 4 * get b ((p : Int) + 2) 2 ≤ b.length))) := rfl
  have hn := get_lt b ((p : Int) + 2) 2 2 (by decide)
  have hn : get b ((p : Int) + 2) 2 < 65536 := hn
  generalize extn b p = X at *
  generalize get b ((p : Int) + 2) 2 = n at *
  clear hc hv
  by_cases h0 : at8 b 0 / 16 % 2 = 0
  · have HF : Hid (X = ((p, p), decide (p ≤ b.length))) := by show _ = _; rw [HE.out, if_pos h0]
    rw [h0] at ha
    rw [HF.out]
    dsimp only at ha ⊢
    clear HE HF h0 CG
    generalize at8 b 0 = x at *
    go_enter Tryz.func174, Tryz.ntmps174
    go_wp2
    go_ret3
    exact ⟨rfl, rfl⟩
  · have h1 : at8 b 0 / 16 % 2 = 1 := by omega
    have HF : Hid (X = ((p + 4, p + 4 + 4 * n), within b.length ((p : Int) + 2) 2 && decide ((p : Int) + 4 + 4 * (n : Int) ≤ (b.length : Int)))) := by
      show _ = _; rw [HE.out, if_neg h0]; congr 2; exact decide_eq_decide.2 (by omega)
    rw [h1] at ha
    rw [HF.out]
    dsimp only at ha ⊢
    clear HE HF h0 h1
    generalize at8 b 0 = x at *
    cases hw : within b.length ((p : Int) + 2) 2
    all_goals
      rw [hw] at CG
      clear hw
      go_enter Tryz.func174, Tryz.ntmps174
      go_wp2_with (go_at_call 155; refine CG.out.mono ?_; rintro e w' ⟨rfl, rfl⟩)
      go_ret3
      exact ⟨rfl, rfl⟩
theorem padding_any (v u : Value) (b r : List UInt8) (w : World) (hv : BRow w v b) (hu : BRow w u r) (hb : 0 < b.length) :
    Calls Tryz.prog 175 #[v, u] w fun e w' => e = .returned (.tuple #[.int .i64 ((padd b r).1 : Nat), .bool (padd b r).2]) ∧ w = w' := by
  have hlen := hv.len
  have hlen2 := hu.len
  obtain ⟨g, off, cap, rfl, _, _, hc⟩ := b_at hv hb
  have d0 : w.cell? ⟨g, off, none⟩ = some (.int .u8 (at8 b 0 : Int)) := hc 0 hb
  have hx := at8_256 b 0
  have ha := and_32 (at8 b 0) hx
  have HE : Hid (padd b r = if at8 b 0 / 32 % 2 = 0 then (0, true) else if r.length = 0 then (0, false) else if at8 r (r.length - 1) = 0 ∨ r.length < at8 r (r.length - 1) then (0, false) else if ((r.drop (r.length - at8 r (r.length - 1))).take (at8 r (r.length - 1) - 1)).all (fun x => decide (x = 0)) then (at8 r (r.length - 1), true) else (0, false)) := rfl
  obtain ⟨ua, uc, rfl, huc, -⟩ := id hu
  have HU := Lib.hid hu
  clear hc hv hu
  generalize padd b r = X at *
  by_cases h0 : at8 b 0 / 32 % 2 = 0
  · have HF : Hid (X = (0, true)) := by show _ = _; rw [HE.out, if_pos h0]
    rw [h0] at ha
    rw [HF.out]
    clear HE HF h0
    generalize at8 b 0 = x at *
    go_enter Tryz.func175, Tryz.ntmps175
    go_wp2
    go_ret2
    exact ⟨rfl, rfl⟩
  · have h1 : at8 b 0 / 32 % 2 = 1 := by omega
    have HE2 : Hid (X = if r.length = 0 then (0, false) else if at8 r (r.length - 1) = 0 ∨ r.length < at8 r (r.length - 1) then (0, false) else if ((r.drop (r.length - at8 r (r.length - 1))).take (at8 r (r.length - 1) - 1)).all (fun x => decide (x = 0)) then (at8 r (r.length - 1), true) else (0, false)) := by show _ = _; rw [HE.out, if_neg h0]
    rw [h1] at ha
    clear HE h0 h1
    generalize at8 b 0 = x at *
    by_cases hr : r.length = 0
    · have HF : Hid (X = (0, false)) := by show _ = _; rw [HE2.out, if_pos hr]
      rw [HF.out]
      rw [hr]
      clear HE2 HF HU
      go_enter Tryz.func175, Tryz.ntmps175
      go_wp2
      go_ret2
      exact ⟨rfl, rfl⟩
    · obtain ⟨m, hm⟩ : ∃ m, r.length = m + 1 := ⟨r.length - 1, by omega⟩
      obtain ⟨g2, off2, cap2, e1, _, _, hc2⟩ := b_at HU.out (by omega)
      cases e1
      have dl := hc2 m (by omega)
      have HE3 : Hid (X = if at8 r m = 0 ∨ r.length < at8 r m then (0, false) else if ((r.drop (r.length - at8 r m)).take (at8 r m - 1)).all (fun x => decide (x = 0)) then (at8 r m, true) else (0, false)) := by
        show _ = _; rw [HE2.out, if_neg hr, show r.length - 1 = m by omega]
      have hk := at8_256 r m
      have HC := Lib.hid hc2
      have hrl : ((r.length : Nat) : Int) = (m : Int) + 1 := by omega
      have hw1 : IntKind.i64.wrap ((m : Int) + 1 - 1) = (m : Int) := by rw [show (m : Int) + 1 - 1 = (m : Int) by omega]; exact IntWalk.i64_in _ (by omega)
      clear HE2 hr hc2
      generalize hk' : at8 r m = k at *
      by_cases hb1 : k = 0 ∨ r.length < k
      · have HF : Hid (X = (0, false)) := by show _ = _; rw [HE3.out, if_pos hb1]
        rw [HF.out]
        clear HE3 HF HU
        rcases hb1 with rfl | hb1
        all_goals
          go_enter Tryz.func175, Tryz.ntmps175
          go_wp2
          go_ret2
          exact ⟨rfl, rfl⟩
      · have hk1 : 1 ≤ k := by omega
        have hk2 : k ≤ r.length := by omega
        have HU2 : RRow w (.slice (some ⟨g2, off2, none⟩) (m + 1) uc) (m + 1) (bys r) := by rw [← hm]; exact HU.out
        obtain ⟨a', hsl, hrow⟩ := slice_mid elemU8 (some ⟨g2, off2, none⟩) (m + 1) uc (m + 1 - k) m (by omega) (by omega) (by omega)
        have hrow := hrow w (bys r) (by rw [bys_length]; omega) HU2
        have e1 : m - (m + 1 - k) = k - 1 := by omega
        have e2 : ((m + 1 - k : Nat) : Int) = (m : Int) + 1 - (k : Int) := by omega
        rw [Nat.mul_one, Nat.mul_one, e1, bys_drop, bys_take] at hrow
        rw [e1, e2] at hsl
        have hql : ((r.drop (m + 1 - k)).take (k - 1)).length = k - 1 := by rw [List.length_take, List.length_drop]; omega
        have HF : Hid (X = if ((r.drop (m + 1 - k)).take (k - 1)).all (fun x => decide (x = 0)) then (k, true) else (0, false)) := by show _ = _; rw [HE3.out, if_neg hb1, hm]
        have hkI : (1 : Int) ≤ (k : Int) := by omega
        have hkI2 : (k : Int) ≤ (m : Int) + 1 := by omega
        have HROW := Lib.hid hrow
        have c1 : decide ((m : Int) + 1 < (k : Int)) = false := decide_eq_false (by omega)
        have c0 : ((k : Int) == 0) = false := by rw [beq_eq_false_iff_ne]; omega
        have hml : m + 1 ≤ 9223372036854775807 := by omega
        rw [hm]
        clear HE3 hb1 hrow e1 e2 HC HU HU2 hrl hw1 hlen2 huc hk2 hk'
        generalize (r.drop (m + 1 - k)).take (k - 1) = s at *
        rw [← hql] at hsl HROW
        have hkm : k = s.length + 1 := by omega
        have HKM := Lib.hid hkm
        have hsb : s.length ≤ 255 := by omega
        clear hql hkm hm
        go_enter Tryz.func175, Tryz.ntmps175
        go_wp2
        go_loop [42] (fun i => ∃ j : Nat, j ≤ s.length ∧ i = .int .i64 j ∧ Hid ((s.take j).all (fun x => decide (x = 0)) = true)) (fun i => s.length - (intOf i).toNat)
        case atStart => exact ⟨0, Nat.zero_le _, rfl, rfl⟩
        case round =>
          obtain ⟨j, hj, rfl, hall⟩ := hrel
          by_cases hjs : j < s.length
          · obtain ⟨g3, off3, cap3, e3, _, _, hc3⟩ := b_open (l := s) HROW.out (by omega)
            cases e3
            have d := hc3 j hjs
            have HNX : Hid ((s.take (j + 1)).all (fun x => decide (x = 0)) = decide (s[j] = 0)) := by
              show _ = _
              rw [List.take_succ_eq_append_getElem hjs, List.all_append, hall.out]
              simp
            have HALL : Hid (s[j] ≠ 0 → s.all (fun x => decide (x = 0)) = false) := fun h => by
              rw [List.all_eq_false]
              exact ⟨s[j], List.getElem_mem hjs, by simpa using h⟩
            clear hc3
            generalize s[j] = x at *
            by_cases hx0 : x = 0
            · have HN2 : Hid ((s.take (j + 1)).all (fun x => decide (x = 0)) = true) := by show _ = _; rw [HNX.out, hx0]; rfl
              have hz : (x.toNat : Int) = 0 := by rw [hx0]; rfl
              rw [hz] at d
              clear hz hx0 HNX HALL hall HF
              go_wp2
              go_round
              case rel => exact ⟨j + 1, by omega, by go_num, HN2⟩
              case measure => simp [intOf]; omega
            · have hq : ((x.toNat : Int) != 0) = true := by
                rw [bne_iff_ne]
                intro e
                exact hx0 (UInt8.toNat_inj.1 (by simpa using e))
              have HX : Hid (X = (0, false)) := by show _ = _; rw [HF.out, HALL.out hx0]; rfl
              clear HF HALL HNX hx0 hall
              go_wp2
              go_ret2
              exact ⟨by rw [HX.out]; rfl, rfl⟩
          · obtain rfl : j = s.length := by omega
            have HX : Hid (X = (k, true)) := by
              show _ = _
              have := hall.out
              rw [List.take_of_length_le (by omega)] at this
              rw [HF.out, this]; rfl
            clear HF hall
            go_wp2
            go_ret2
            exact ⟨by rw [HX.out]; rfl, rfl⟩
end Go.Proofs.By
set_option linter.unusedSimpArgs false
namespace Go.Proofs.By
open Go.RowKit Go.Proofs.Heap
theorem extn_le (b : List UInt8) (p : Nat) : (extn b p).1.1 ≤ p + 4 ∧ (extn b p).1.2 ≤ p + 4 + 4 * 65535 := by
  have h := get_lt b ((p : Int) + 2) 2 2 (by decide)
  have h : get b ((p : Int) + 2) 2 < 65536 := h
  unfold extn
  split
  · exact ⟨by show p ≤ _; omega, by show p ≤ _; omega⟩
  · exact ⟨by show p + 4 ≤ _; omega, by show p + 4 + 4 * get b ((p : Int) + 2) 2 ≤ _; omega⟩
theorem extn_ok {b : List UInt8} {p : Nat} (h : (extn b p).2 = true) : (extn b p).1.2 ≤ b.length ∧ (extn b p).1.1 ≤ (extn b p).1.2 := by
  unfold extn at h ⊢
  split
  · rename_i h0
    rw [if_pos h0] at h
    exact ⟨of_decide_eq_true h, Nat.le_refl _⟩
  · rename_i h0
    rw [if_neg h0, Bool.and_eq_true] at h
    exact ⟨of_decide_eq_true h.2, by show p + 4 ≤ p + 4 + _; omega⟩
theorem padd_le {b r : List UInt8} (h : (padd b r).2 = true) : (padd b r).1 ≤ r.length := by
  unfold padd at h ⊢
  by_cases h0 : at8 b 0 / 32 % 2 = 0
  · rw [if_pos h0]; exact Nat.zero_le _
  rw [if_neg h0] at h ⊢
  by_cases h1 : r.length = 0
  · rw [if_pos h1] at h; cases h
  rw [if_neg h1] at h ⊢
  dsimp only at h ⊢
  by_cases h2 : at8 r (r.length - 1) = 0 ∨ r.length < at8 r (r.length - 1)
  · rw [if_pos h2] at h; cases h
  rw [if_neg h2] at h ⊢
  split
  · show at8 r (r.length - 1) ≤ _; omega
  · exact Nat.zero_le _
set_option maxHeartbeats 2000000 in
theorem look_any (v : Value) (b : List UInt8) (w : World) (hv : BRow w v b) :
    Calls Tryz.prog 152 #[v] w fun e w' => e = .returned (.tuple #[.agg #[.int .i64 ((looks b).1.1 : Nat), .int .i64 ((looks b).1.2.1 : Nat), .int .i64 ((looks b).1.2.2 : Nat)], .int .i64 (looks b).2]) ∧ Below w.heap.size w w' := by
  have hlen := hv.len
  have HV : Hid (∀ w', Below w.heap.size w w' → BRow w' v b) := fun w' h => hv.below h
  have HE : Hid (looks b = if 512 < b.length then ((0, 0, 0), 5) else if b.length < 12 then ((0, 0, 0), 2) else if at8 b 0 / 64 ≠ 2 then ((0, 0, 0), 1) else if 192 ≤ at8 b 1 ∧ at8 b 1 ≤ 223 then ((0, 0, 0), 4) else if (extn b (12 + 4 * (at8 b 0 % 16))).2 = false then ((0, 0, 0), 2) else if (padd b (b.drop (extn b (12 + 4 * (at8 b 0 % 16))).1.2)).2 = false then ((0, 0, 0), 1) else (((extn b (12 + 4 * (at8 b 0 % 16))).1.1, (extn b (12 + 4 * (at8 b 0 % 16))).1.2, b.length - (padd b (b.drop (extn b (12 + 4 * (at8 b 0 % 16))).1.2)).1), 0)) := rfl
  obtain ⟨a, c, rfl, hcc, -⟩ := id hv
  clear hv
  generalize looks b = X at *
  by_cases h1 : 512 < b.length
  · obtain rfl : X = ((0, 0, 0), 5) := by rw [HE.out, if_pos h1]
    clear HE HV
    go_enter Tryz.func152, Tryz.ntmps152
    go_wp2
    exact bodyPost_ret (v := .tuple #[.agg #[.int .i64 0, .int .i64 0, .int .i64 0], .int .i64 5]) (by simp [results, Tryz.results152, go_sem]) rfl ⟨rfl, below_alloc _ _⟩
  by_cases h2 : b.length < 12
  · obtain rfl : X = ((0, 0, 0), 2) := by rw [HE.out, if_neg h1, if_pos h2]
    clear HE HV
    go_enter Tryz.func152, Tryz.ntmps152
    go_wp2
    exact bodyPost_ret (v := .tuple #[.agg #[.int .i64 0, .int .i64 0, .int .i64 0], .int .i64 2]) (by simp [results, Tryz.results152, go_sem]) rfl ⟨rfl, below_alloc _ _⟩
  have hx0 := at8_256 b 0
  have hx1 := at8_256 b 1
  have hba := below_alloc w (.cells #[.int .i64 0, .int .i64 0, .int .i64 0] 238)
  have HVA := Lib.hid (HV.out _ hba)
  obtain ⟨g, off, cap, e1, _, _, hc⟩ := b_at (HV.out w (Below.refl _ _)) (by omega)
  cases e1
  obtain ⟨_, _, _, e2, _, _, hca⟩ := b_at HVA.out (by omega)
  cases e2
  have d0 : (w.alloc (.cells #[.int .i64 0, .int .i64 0, .int .i64 0] 238)).cell? ⟨g, off, none⟩ = some (.int .u8 (at8 b 0 : Int)) := hca 0 (by omega)
  have d1 := hca 1 (by omega)
  have HBEL := Lib.hid hba
  clear hc hca hba
  have l1 : decide ((512 : Int) < (b.length : Int)) = false := decide_eq_false (by omega)
  have l2 : decide ((b.length : Int) < 12) = false := decide_eq_false (by omega)
  by_cases h3 : at8 b 0 / 64 ≠ 2
  · obtain rfl : X = ((0, 0, 0), 1) := by rw [HE.out, if_neg h1, if_neg h2, if_pos h3]
    have q : (((at8 b 0 : Nat) : Int) / 64 != 2) = true := by rw [bne_iff_ne]; omega
    clear HE HV h3
    go_enter Tryz.func152, Tryz.ntmps152
    go_wp2
    exact bodyPost_ret (v := .tuple #[.agg #[.int .i64 0, .int .i64 0, .int .i64 0], .int .i64 1]) (by simp [results, Tryz.results152, go_sem]) rfl ⟨rfl, below_alloc _ _⟩
  have q3 : (((at8 b 0 : Nat) : Int) / 64 != 2) = false := by rw [bne_eq_false_iff_eq]; omega
  have CF := feedback_any (at8 b 1) (w.alloc (.cells #[.int .i64 0, .int .i64 0, .int .i64 0] 238)) hx1
  by_cases h4 : 192 ≤ at8 b 1 ∧ at8 b 1 ≤ 223
  · obtain rfl : X = ((0, 0, 0), 4) := by rw [HE.out, if_neg h1, if_neg h2, if_neg h3, if_pos h4]
    rw [decide_eq_true h4] at CF
    have HCF := Lib.hid CF
    clear HE HV h3 h4 CF
    go_enter Tryz.func152, Tryz.ntmps152
    go_wp2_with (go_at_call 173; refine HCF.out.mono ?_; rintro e w' ⟨rfl, rfl⟩)
    exact bodyPost_ret (v := .tuple #[.agg #[.int .i64 0, .int .i64 0, .int .i64 0], .int .i64 4]) (by simp [results, Tryz.results152, go_sem]) rfl ⟨rfl, below_alloc _ _⟩
  rw [decide_eq_false h4] at CF
  have HCF := Lib.hid CF
  have ha := and_15 (at8 b 0) hx0
  have hk16 : at8 b 0 % 16 < 16 := by omega
  have HE5 : Hid (X = if (extn b (12 + 4 * (at8 b 0 % 16))).2 = false then ((0, 0, 0), 2) else if (padd b (b.drop (extn b (12 + 4 * (at8 b 0 % 16))).1.2)).2 = false then ((0, 0, 0), 1) else (((extn b (12 + 4 * (at8 b 0 % 16))).1.1, (extn b (12 + 4 * (at8 b 0 % 16))).1.2, b.length - (padd b (b.drop (extn b (12 + 4 * (at8 b 0 % 16))).1.2)).1), 0)) := by
    show _ = _; rw [HE.out, if_neg h1, if_neg h2, if_neg h3, if_neg h4]
  have CE := extension_any _ b (12 + 4 * (at8 b 0 % 16)) _ HVA.out (by omega) (by omega)
  have hle := extn_le b (12 + 4 * (at8 b 0 % 16))
  have HOK : Hid ((extn b (12 + 4 * (at8 b 0 % 16))).2 = true → (extn b (12 + 4 * (at8 b 0 % 16))).1.2 ≤ b.length ∧ (extn b (12 + 4 * (at8 b 0 % 16))).1.1 ≤ (extn b (12 + 4 * (at8 b 0 % 16))).1.2) := extn_ok
  rw [show ((12 + 4 * (at8 b 0 % 16) : Nat) : Int) = 12 + 4 * ((at8 b 0 % 16 : Nat) : Int) by omega] at CE
  clear HE h3 h4 CF
  generalize extn b (12 + 4 * (at8 b 0 % 16)) = E at *
  generalize at8 b 0 % 16 = k at *
  obtain ⟨⟨xe, xf⟩, xo⟩ := E
  dsimp only at *
  have HCE := Lib.hid CE
  clear CE
  cases xo
  · obtain rfl : X = ((0, 0, 0), 2) := by rw [HE5.out, if_pos rfl]
    clear HE5 HV HOK
    go_enter Tryz.func152, Tryz.ntmps152
    go_wp2_with (first | (go_at_call 173; refine HCF.out.mono ?_; rintro e w' ⟨rfl, rfl⟩) | (go_at_call 174; refine HCE.out.mono ?_; rintro e w' ⟨rfl, rfl⟩))
    exact bodyPost_ret (v := .tuple #[.agg #[.int .i64 0, .int .i64 0, .int .i64 0], .int .i64 2]) (by simp [results, Tryz.results152, go_sem]) rfl ⟨rfl, below_alloc _ _⟩
  obtain ⟨hf1, hf2⟩ := HOK.out rfl
  obtain ⟨a', hsl, -, hrow⟩ := slice_from elemU8 (some ⟨g, off, none⟩) b.length c xf hf1 hcc
  have hrow := hrow _ (bys b) (by rw [bys_length]; omega) HVA.out
  rw [Nat.mul_one, bys_drop] at hrow
  have hdl : (b.drop xf).length = b.length - xf := List.length_drop
  rw [← hdl] at hrow hsl
  have CP := padding_any _ _ b (b.drop xf) _ HVA.out hrow (by omega)
  have HPL : Hid ((padd b (b.drop xf)).2 = true → (padd b (b.drop xf)).1 ≤ (b.drop xf).length) := padd_le
  have HE6 : Hid (X = if (padd b (b.drop xf)).2 = false then ((0, 0, 0), 1) else ((xe, xf, b.length - (padd b (b.drop xf)).1), 0)) := by show _ = _; rw [HE5.out, if_neg (by decide)]
  have HCP := Lib.hid CP
  have hdl2 : (b.drop xf).length ≤ b.length := by omega
  clear HE5 HOK hrow CP hdl
  generalize padd b (b.drop xf) = Y at *
  generalize (b.drop xf).length = dl at *
  obtain ⟨yn, yo⟩ := Y
  dsimp only at *
  cases yo
  · obtain rfl : X = ((0, 0, 0), 1) := by rw [HE6.out, if_pos rfl]
    clear HE6 HV HPL
    go_enter Tryz.func152, Tryz.ntmps152
    go_wp2_with (first | (go_at_call 173; refine HCF.out.mono ?_; rintro e w' ⟨rfl, rfl⟩) | (go_at_call 174; refine HCE.out.mono ?_; rintro e w' ⟨rfl, rfl⟩) | (go_at_call 175; refine HCP.out.mono ?_; rintro e w' ⟨rfl, rfl⟩))
    exact bodyPost_ret (v := .tuple #[.agg #[.int .i64 0, .int .i64 0, .int .i64 0], .int .i64 1]) (by simp [results, Tryz.results152, go_sem]) rfl ⟨rfl, below_alloc _ _⟩
  have hyl := HPL.out rfl
  obtain rfl : X = ((xe, xf, b.length - yn), 0) := by rw [HE6.out, if_neg (by decide)]
  dsimp only
  rw [show ((b.length - yn : Nat) : Int) = (b.length : Int) - (yn : Int) by omega]
  have hyn : (yn : Int) ≤ (b.length : Int) := by omega
  clear HE6 HV HPL
  go_enter Tryz.func152, Tryz.ntmps152
  go_wp2_with (first | (go_at_call 173; refine HCF.out.mono ?_; rintro e w' ⟨rfl, rfl⟩) | (go_at_call 174; refine HCE.out.mono ?_; rintro e w' ⟨rfl, rfl⟩) | (go_at_call 175; refine HCP.out.mono ?_; rintro e w' ⟨rfl, rfl⟩))
  exact bodyPost_ret (v := .tuple #[.agg #[.int .i64 xe, .int .i64 xf, .int .i64 ((b.length : Int) - (yn : Int))], .int .i64 0]) (by simp [results, Tryz.results152, go_sem]) rfl ⟨rfl, below_alloc _ _⟩
end Go.Proofs.By
namespace Go.Proofs.By
structure Blk where
  ssrc : Int
  lost : Int
  total : Int
  high : Int
  jitter : Int
  last : Int
  delay : Int
structure Itm where
  kind : Int
  ssrc : Int
  ntp : Int
  time : Int
  packets : Int
  octets : Int
  blocks : List Blk
  gone : List Int
  media : Int
  pairs : List (Int × Int)
def noItm : Itm := ⟨0, 0, 0, 0, 0, 0, [], [], 0, []⟩
def blkAt (b : List UInt8) (p : Nat) : Blk := ⟨get b p 4, get b (p + 4 : Nat) 1, get b (p + 5 : Nat) 3, get b (p + 8 : Nat) 4, get b (p + 12 : Nat) 4, get b (p + 16 : Nat) 4, get b (p + 20 : Nat) 4⟩
/-- How many bytes a report of a kind with so many blocks has. -/
def rsize (k n : Nat) : Nat := 8 + 24 * n + if k = 200 then 20 else 0
def right (b : List UInt8) : Nat × Int :=
  if b.length < 4 then (0, 2)
  else if at8 b 0 / 32 ≠ 4 then (0, 1)
  else if at8 b 1 ≠ 200 ∧ at8 b 1 ≠ 201 then (0, 4)
  else if 15 < at8 b 0 % 32 ∨ (get b 2 2 + 1) * 4 ≠ rsize (at8 b 1) (at8 b 0 % 32) then (0, 1)
  else if b.length < rsize (at8 b 1) (at8 b 0 % 32) then (0, 2)
  else (rsize (at8 b 1) (at8 b 0 % 32), 0)
def report (b : List UInt8) : Itm where
  kind := at8 b 1
  ssrc := get b 4 4
  ntp := if at8 b 1 = 200 then (get b 8 8 : Int) else 0
  time := if at8 b 1 = 200 then (get b 16 4 : Int) else 0
  packets := if at8 b 1 = 200 then (get b 20 4 : Int) else 0
  octets := if at8 b 1 = 200 then (get b 24 4 : Int) else 0
  blocks := (List.range (at8 b 0 % 32)).map fun (i : Nat) => blkAt b ((if at8 b 1 = 200 then 28 else 8) + 24 * i)
  gone := []
  media := 0
  pairs := []
def reportGet (b : List UInt8) : (Itm × Nat) × Int := if (right b).2 ≠ 0 then ((noItm, 0), (right b).2) else ((report b, (right b).1), 0)
/-- The kind of an item by its first two bytes. -/
def ikind (b : List UInt8) : Nat × Bool :=
  if at8 b 1 = 200 ∨ at8 b 1 = 201 ∨ at8 b 1 = 203 then (at8 b 1, true)
  else if at8 b 1 = 205 ∨ at8 b 1 = 206 then (at8 b 1, decide (at8 b 0 % 32 = 1)) else (0, false)
def ilength (b : List UInt8) (k : Nat) : Nat × Bool :=
  let n := (get b 2 2 + 1) * 4
  if k = 203 then (n, decide (1 ≤ at8 b 0 % 32) && decide (at8 b 0 % 32 ≤ 15) && decide (n = 4 + 4 * (at8 b 0 % 32)))
  else if k = 205 then (n, decide (16 ≤ n) && decide (n ≤ 76)) else (n, decide (n = 12))
/-- The words of an item from a place on. -/
def iwords (b : List UInt8) (p : Nat) : List Nat := (List.range ((b.length - p) / 4)).map fun (i : Nat) => get b (p + 4 * i : Nat) 4
def parts (b : List UInt8) (k : Nat) : Itm :=
  if k = 203 then { noItm with kind := 203, gone := (iwords b 4).map fun (n : Nat) => (n : Int) }
  else { noItm with kind := k, ssrc := get b 4 4, media := get b 8 4, pairs := (iwords b 12).map fun (n : Nat) => (((n / 65536 : Nat) : Int), ((n % 65536 : Nat) : Int)) }
def itemGet (b : List UInt8) : (Itm × Nat) × Int :=
  if b.length < 4 then ((noItm, 0), 2)
  else if at8 b 0 / 32 ≠ 4 then ((noItm, 0), 1)
  else if (ikind b).2 = false then ((noItm, 0), 4)
  else if (ikind b).1 = 200 ∨ (ikind b).1 = 201 then reportGet b
  else
    let n := ilength b (ikind b).1
    if n.2 = false then ((noItm, 0), 1)
    else if b.length < n.1 then ((noItm, 0), 2)
    else ((parts (b.take n.1) (ikind b).1, n.1), 0)
/-- Items, one behind the other; so many may still come. -/
def itemsGo : Nat → List UInt8 → List Itm × Int
  | 0, _ => ([], 3)
  | k + 1, b =>
    if (itemGet b).2 ≠ 0 then ([], (itemGet b).2)
    else if b.length - (itemGet b).1.2 = 0 then ([(itemGet b).1.1], 0)
    else
      let r := itemsGo k (b.drop (itemGet b).1.2)
      if r.2 ≠ 0 then ([], r.2) else ((itemGet b).1.1 :: r.1, 0)
def itemsGet (b : List UInt8) : List Itm × Int := if 512 < b.length then ([], 5) else itemsGo 8 b
/-- What a datagram is. -/
inductive Ev
  | none
  | media (p : Pkt) (d : Dsc)
  | feedback (l : List Itm)
def sift (b : List UInt8) : Ev × Int :=
  if 512 < b.length then (.none, 5)
  else if b.length < 2 then (.none, 2)
  else if 192 ≤ at8 b 1 ∧ at8 b 1 ≤ 223 then (if (itemsGet b).2 ≠ 0 then (.none, (itemsGet b).2) else (.feedback (itemsGet b).1, 0))
  else if (rtpGet b).2 ≠ 0 then (.none, (rtpGet b).2)
  else if (descGet (rtpGet b).1.payload).2 ≠ 0 then (.none, (descGet (rtpGet b).1.payload).2)
  else (.media (rtpGet b).1 (descGet (rtpGet b).1.payload).1, 0)
end Go.Proofs.By
set_option linter.unusedSimpArgs false
namespace Go.Proofs.By
open Go.RowKit Go.Proofs.Heap
theorem bel_drewN {B : Nat} {a w : World} (h : Below B a w) : ∀ q, Below B a (w.drewN q)
  | 0 => h
  | q + 1 => (bel_drewN h q).drew
theorem known_any (k : Int) (w : World) : Calls Tryz.prog 191 #[.int .i64 k] w fun e w' => e = .returned (.bool (decide (k = 200 ∨ k = 201))) ∧ w = w' := by
  by_cases h0 : k = 200
  · subst h0
    go_enter Tryz.func191, Tryz.ntmps191
    go_wp2
    go_ret
    exact ⟨rfl, rfl⟩
  · by_cases h1 : k = 201
    · subst h1
      go_enter Tryz.func191, Tryz.ntmps191
      go_wp2
      go_ret
      exact ⟨rfl, rfl⟩
    · have HF : Hid (decide (k = 200 ∨ k = 201) = false) := decide_eq_false (by omega)
      have b0 : (k == 200) = false := by rw [beq_eq_false_iff_ne]; exact h0
      have b1 : (k == 201) = false := by rw [beq_eq_false_iff_ne]; exact h1
      rw [HF.out]
      clear HF h0 h1
      go_enter Tryz.func191, Tryz.ntmps191
      go_wp2
      go_ret
      exact ⟨rfl, rfl⟩
theorem rsize_any (k n : Nat) (w : World) (hn : n ≤ 1000) : Calls Tryz.prog 192 #[.int .i64 (k : Int), .int .i64 (n : Int)] w fun e w' => e = .returned (.int .i64 (rsize k n : Nat)) ∧ w = w' := by
  by_cases h0 : k = 200
  · subst h0
    have HF : Hid (((rsize 200 n : Nat) : Int) = 8 + 24 * (n : Int) + 20) := by show _ = _; unfold rsize; rw [if_pos rfl]; omega
    rw [HF.out]
    clear HF
    go_enter Tryz.func192, Tryz.ntmps192
    go_wp2
    go_ret
    exact ⟨rfl, rfl⟩
  · have HF : Hid (((rsize k n : Nat) : Int) = 8 + 24 * (n : Int)) := by show _ = _; unfold rsize; rw [if_neg h0]; omega
    have b0 : ((k : Int) == 200) = false := by rw [beq_eq_false_iff_ne]; omega
    rw [HF.out]
    clear HF h0
    go_enter Tryz.func192, Tryz.ntmps192
    go_wp2
    go_ret
    exact ⟨rfl, rfl⟩
def csize (k n : Nat) : Nat := if k = 203 then 4 + 4 * n else if k = 205 then 12 + 4 * n else 12
theorem csize_any (k n : Nat) (w : World) (hn : n ≤ 1000) : Calls Tryz.prog 182 #[.int .i64 (k : Int), .int .i64 (n : Int)] w fun e w' => e = .returned (.int .i64 (csize k n : Nat)) ∧ w = w' := by
  by_cases h0 : k = 203
  · subst h0
    have HF : Hid (((csize 203 n : Nat) : Int) = 4 + 4 * (n : Int)) := by show _ = _; unfold csize; rw [if_pos rfl]; omega
    rw [HF.out]
    clear HF
    go_enter Tryz.func182, Tryz.ntmps182
    go_wp2
    go_ret
    exact ⟨rfl, rfl⟩
  · have b0 : ((k : Int) == 203) = false := by rw [beq_eq_false_iff_ne]; omega
    by_cases h1 : k = 205
    · subst h1
      have HF : Hid (((csize 205 n : Nat) : Int) = 12 + 4 * (n : Int)) := by show _ = _; unfold csize; rw [if_neg (by decide), if_pos rfl]; omega
      rw [HF.out]
      clear HF
      go_enter Tryz.func182, Tryz.ntmps182
      go_wp2
      go_ret
      exact ⟨rfl, rfl⟩
    · have HF : Hid (((csize k n : Nat) : Int) = 12) := by show _ = _; unfold csize; rw [if_neg h0, if_neg h1]; rfl
      have b1 : ((k : Int) == 205) = false := by rw [beq_eq_false_iff_ne]; omega
      rw [HF.out]
      clear HF h0 h1
      go_enter Tryz.func182, Tryz.ntmps182
      go_wp2
      go_ret
      exact ⟨rfl, rfl⟩
theorem cnumber_any (v : Value) (b : List UInt8) (p : Int) (w : World) (hv : BRow w v b) :
    Calls Tryz.prog 183 #[v, .int .i64 p] w fun e w' => e = .returned (.int .u32 (get b p 4 : Nat)) ∧ w = w' := by
  have CG := Lib.hid (Get_any v b p 4 w hv)
  have hn : get b p 4 < 4294967296 := get_lt b p 4 4 (by decide)
  clear hv
  generalize get b p 4 = n at *
  go_enter Tryz.func183, Tryz.ntmps183
  go_wp2_with (go_at_call 155; refine CG.out.mono ?_; rintro e w' ⟨rfl, rfl⟩)
  go_ret
  exact ⟨rfl, rfl⟩
theorem ikind_any (v : Value) (b : List UInt8) (w : World) (hv : BRow w v b) (hb : 2 ≤ b.length) :
    Calls Tryz.prog 169 #[v] w fun e w' => e = .returned (.tuple #[.int .i64 ((ikind b).1 : Nat), .bool (ikind b).2]) ∧ Below w.heap.size w w' := by
  have hlen := hv.len
  have HE : Hid (ikind b = if at8 b 1 = 200 ∨ at8 b 1 = 201 ∨ at8 b 1 = 203 then (at8 b 1, true) else if at8 b 1 = 205 ∨ at8 b 1 = 206 then (at8 b 1, decide (at8 b 0 % 32 = 1)) else (0, false)) := rfl
  obtain ⟨g, off, cap, rfl, _, _, hc⟩ := b_at hv (by omega)
  have d0 : w.cell? ⟨g, off, none⟩ = some (.int .u8 (at8 b 0 : Int)) := hc 0 (by omega)
  have d1 := hc 1 (by omega)
  have ha := and_31 (at8 b 0) (at8_256 b 0)
  have hx1 := at8_256 b 1
  have hbel := Below.refl w.heap.size w
  clear hc hv
  generalize ikind b = X at *
  generalize at8 b 0 % 32 = m at *
  generalize at8 b 1 = k at *
  by_cases h1 : k = 200 ∨ k = 201 ∨ k = 203
  · obtain rfl : X = (k, true) := by rw [HE.out, if_pos h1]
    clear HE
    rcases h1 with rfl | rfl | rfl
    all_goals
      go_enter Tryz.func169, Tryz.ntmps169
      go_wp2
      go_ret2
      exact ⟨rfl, hbel⟩
  · by_cases h2 : k = 205 ∨ k = 206
    · obtain rfl : X = (k, decide (m = 1)) := by rw [HE.out, if_neg h1, if_pos h2]
      clear HE h1
      have HM : Hid (decide (m = 1) = ((m : Int) == 1)) := by show _ = _; rw [Bool.eq_iff_iff]; simp; omega
      dsimp only
      rw [HM.out]
      rcases h2 with rfl | rfl
      all_goals
        go_enter Tryz.func169, Tryz.ntmps169
        go_wp2
        go_quiet (fail)
        go_wp2
        go_ret2
        exact ⟨rfl, bel_drewN hbel _⟩
    · obtain rfl : X = (0, false) := by rw [HE.out, if_neg h1, if_neg h2]
      have b0 : ((k : Int) == 200) = false := by rw [beq_eq_false_iff_ne]; omega
      have b1 : ((k : Int) == 201) = false := by rw [beq_eq_false_iff_ne]; omega
      have b3 : ((k : Int) == 203) = false := by rw [beq_eq_false_iff_ne]; omega
      have b5 : ((k : Int) == 205) = false := by rw [beq_eq_false_iff_ne]; omega
      have b6 : ((k : Int) == 206) = false := by rw [beq_eq_false_iff_ne]; omega
      clear HE h1 h2
      go_enter Tryz.func169, Tryz.ntmps169
      go_wp2
      go_ret2
      exact ⟨rfl, hbel⟩
set_option maxHeartbeats 1000000 in
theorem right_any (v : Value) (b : List UInt8) (w : World) (hv : BRow w v b) :
    Calls Tryz.prog 179 #[v] w fun e w' => e = .returned (.tuple #[.int .i64 ((right b).1 : Nat), .int .i64 (right b).2]) ∧ Below w.heap.size w w' := by
  have hlen := hv.len
  have HE : Hid (right b = if b.length < 4 then (0, 2) else if at8 b 0 / 32 ≠ 4 then (0, 1) else if at8 b 1 ≠ 200 ∧ at8 b 1 ≠ 201 then (0, 4) else if 15 < at8 b 0 % 32 ∨ (get b 2 2 + 1) * 4 ≠ rsize (at8 b 1) (at8 b 0 % 32) then (0, 1) else if b.length < rsize (at8 b 1) (at8 b 0 % 32) then (0, 2) else (rsize (at8 b 1) (at8 b 0 % 32), 0)) := rfl
  have CG := Get_any v b 2 2 w hv
  obtain ⟨a, c, rfl, hcc, -⟩ := id hv
  have hbel := Below.refl w.heap.size w
  generalize right b = X at *
  by_cases h1 : b.length < 4
  · obtain rfl : X = (0, 2) := by rw [HE.out, if_pos h1]
    clear HE CG hv
    go_enter Tryz.func179, Tryz.ntmps179
    go_wp2
    go_ret2
    exact ⟨rfl, hbel⟩
  obtain ⟨g, off, cap, e1, _, _, hc⟩ := b_at hv (by omega)
  cases e1
  have d0 : w.cell? ⟨g, off, none⟩ = some (.int .u8 (at8 b 0 : Int)) := hc 0 (by omega)
  have d1 := hc 1 (by omega)
  have hx0 := at8_256 b 0
  have hx1 := at8_256 b 1
  have ha := and_31 (at8 b 0) hx0
  have hn : get b 2 2 < 65536 := get_lt b 2 2 2 (by decide)
  have l1 : decide ((b.length : Int) < 4) = false := decide_eq_false (by omega)
  have HCG := Lib.hid CG
  clear hc hv CG
  by_cases h2 : at8 b 0 / 32 ≠ 4
  · obtain rfl : X = (0, 1) := by rw [HE.out, if_neg h1, if_pos h2]
    have q : (((at8 b 0 : Nat) : Int) / 32 != 4) = true := by rw [bne_iff_ne]; omega
    clear HE h2
    go_enter Tryz.func179, Tryz.ntmps179
    go_wp2
    go_ret2
    exact ⟨rfl, hbel⟩
  have q2 : (((at8 b 0 : Nat) : Int) / 32 != 4) = false := by rw [bne_eq_false_iff_eq]; omega
  have CK := known_any (at8 b 1 : Nat) w
  by_cases h3 : at8 b 1 ≠ 200 ∧ at8 b 1 ≠ 201
  · obtain rfl : X = (0, 4) := by rw [HE.out, if_neg h1, if_neg h2, if_pos h3]
    rw [decide_eq_false (show ¬ (((at8 b 1 : Nat) : Int) = 200 ∨ ((at8 b 1 : Nat) : Int) = 201) by omega)] at CK
    have HCK := Lib.hid CK
    clear HE h2 h3 CK
    go_enter Tryz.func179, Tryz.ntmps179
    go_wp2_with (go_at_call 191; refine HCK.out.mono ?_; rintro e w' ⟨rfl, rfl⟩)
    go_ret2
    exact ⟨rfl, hbel⟩
  rw [decide_eq_true (show (((at8 b 1 : Nat) : Int) = 200 ∨ ((at8 b 1 : Nat) : Int) = 201) by omega)] at CK
  have HCK := Lib.hid CK
  have CS : Hid (∀ w, Calls Tryz.prog 192 #[.int .i64 ((at8 b 1 : Nat) : Int), .int .i64 ((at8 b 0 % 32 : Nat) : Int)] w fun e w' => e = .returned (.int .i64 (rsize (at8 b 1) (at8 b 0 % 32) : Nat)) ∧ w = w') := fun w => rsize_any _ _ w (by omega)
  have hrs : rsize (at8 b 1) (at8 b 0 % 32) ≤ 1000 := by unfold rsize; split <;> omega
  have hm : at8 b 0 % 32 < 32 := by omega
  have HE4 : Hid (X = if 15 < at8 b 0 % 32 ∨ (get b 2 2 + 1) * 4 ≠ rsize (at8 b 1) (at8 b 0 % 32) then (0, 1) else if b.length < rsize (at8 b 1) (at8 b 0 % 32) then (0, 2) else (rsize (at8 b 1) (at8 b 0 % 32), 0)) := by show _ = _; rw [HE.out, if_neg h1, if_neg h2, if_neg h3]
  clear HE h2 h3 CK
  generalize rsize (at8 b 1) (at8 b 0 % 32) = z at *
  generalize at8 b 0 % 32 = m at *
  generalize get b 2 2 = n at *
  by_cases h4 : 15 < m ∨ (n + 1) * 4 ≠ z
  · obtain rfl : X = (0, 1) := by rw [HE4.out, if_pos h4]
    clear HE4
    by_cases h5 : 15 < m
    · have q5 : decide ((15 : Int) < (m : Int)) = true := decide_eq_true (by omega)
      clear h4
      go_enter Tryz.func179, Tryz.ntmps179
      go_wp2_with (first | (go_at_call 191; refine HCK.out.mono ?_; rintro e w' ⟨rfl, rfl⟩) | (go_at_call 155; refine HCG.out.mono ?_; rintro e w' ⟨rfl, rfl⟩))
      go_quiet ((go_at_call 192; exact Calls.quiet_of_same ((CS.out _).mono fun e w' h => ⟨h.1, h.2.symm⟩)))
      go_wp2
      go_ret2
      exact ⟨rfl, bel_drewN hbel _⟩
    · have q5 : decide ((15 : Int) < (m : Int)) = false := decide_eq_false (by omega)
      have q6 : (((n : Int) + 1) * 4 != (z : Int)) = true := by rw [bne_iff_ne]; omega
      clear h4
      go_enter Tryz.func179, Tryz.ntmps179
      go_wp2_with (first | (go_at_call 191; refine HCK.out.mono ?_; rintro e w' ⟨rfl, rfl⟩) | (go_at_call 155; refine HCG.out.mono ?_; rintro e w' ⟨rfl, rfl⟩))
      go_quiet ((go_at_call 192; exact Calls.quiet_of_same ((CS.out _).mono fun e w' h => ⟨h.1, h.2.symm⟩)))
      go_wp2
      go_ret2
      exact ⟨rfl, bel_drewN hbel _⟩
  · have q5 : decide ((15 : Int) < (m : Int)) = false := decide_eq_false (by omega)
    have q6 : (((n : Int) + 1) * 4 != (z : Int)) = false := by rw [bne_eq_false_iff_eq]; omega
    have HE5 : Hid (X = if b.length < z then (0, 2) else (z, 0)) := by show _ = _; rw [HE4.out, if_neg h4]
    clear HE4 h4
    by_cases h5 : b.length < z
    · obtain rfl : X = (0, 2) := by rw [HE5.out, if_pos h5]
      have q7 : decide ((b.length : Int) < (z : Int)) = true := decide_eq_true (by omega)
      clear HE5
      go_enter Tryz.func179, Tryz.ntmps179
      go_wp2_with (first | (go_at_call 191; refine HCK.out.mono ?_; rintro e w' ⟨rfl, rfl⟩) | (go_at_call 155; refine HCG.out.mono ?_; rintro e w' ⟨rfl, rfl⟩))
      go_quiet ((go_at_call 192; exact Calls.quiet_of_same ((CS.out _).mono fun e w' h => ⟨h.1, h.2.symm⟩)))
      go_wp2
      go_ret2
      exact ⟨rfl, bel_drewN hbel _⟩
    · obtain rfl : X = (z, 0) := by rw [HE5.out, if_neg h5]
      have q7 : decide ((b.length : Int) < (z : Int)) = false := decide_eq_false (by omega)
      clear HE5
      go_enter Tryz.func179, Tryz.ntmps179
      go_wp2_with (first | (go_at_call 191; refine HCK.out.mono ?_; rintro e w' ⟨rfl, rfl⟩) | (go_at_call 155; refine HCG.out.mono ?_; rintro e w' ⟨rfl, rfl⟩))
      go_quiet ((go_at_call 192; exact Calls.quiet_of_same ((CS.out _).mono fun e w' h => ⟨h.1, h.2.symm⟩)))
      go_wp2
      go_ret2
      exact ⟨rfl, bel_drewN hbel _⟩
end Go.Proofs.By
