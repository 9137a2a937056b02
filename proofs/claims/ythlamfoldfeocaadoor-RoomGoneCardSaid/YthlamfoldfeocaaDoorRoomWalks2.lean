/- The walks of package room, each function once: Of, Source, Sub, Subs. -/
import Derived.Test.YthlamfoldfeocaaDoorRoomWalks
import Derived.WalkSpells
namespace Go.Proofs.Rm
open Go.RowKit Go.Proofs.Heap Go.Proofs.Mem
/-- The nine sources as one value. -/
def srcsArr (R : Room) : Array Value := ((List.range 45).map fun j => roomCell R (9 + j)).toArray
theorem srcsArr_size (R : Room) : (srcsArr R).size = 45 := by simp [srcsArr]
theorem srcsArr_at (R : Room) (j : Nat) (h : j < 45) : (srcsArr R)[j]? = some (roomCell R (9 + j)) := by simp [srcsArr, h]
theorem srcsArr_part (R : Room) (n : Nat) (h : n < 9) : (srcsArr R).extract (n * 5) (n * 5 + 5) = #[.bool (R.src n).there, .int .i64 (R.src n).num, .int .i64 (R.src n).own, (R.src n).sv, .bool (R.src n).muted] := by
  apply Array.ext'
  rw [Array.toList_extract]
  apply List.ext_getElem?
  intro i
  by_cases hi : i < 5
  · have : ((srcsArr R).toList.extract (n * 5) (n * 5 + 5))[i]? = (srcsArr R)[n * 5 + i]? := by
      rw [List.extract_eq_take_drop, List.getElem?_take_of_lt (by omega), List.getElem?_drop]; simp
    rw [this, srcsArr_at R _ (by omega), show 9 + (n * 5 + i) = 9 + n * 5 + i by omega, rc_src R h hi]
    have : i = 0 ∨ i = 1 ∨ i = 2 ∨ i = 3 ∨ i = 4 := by omega
    rcases this with rfl | rfl | rfl | rfl | rfl <;> rfl
  · rw [List.getElem?_eq_none (by rw [List.extract_eq_take_drop, List.length_take]; omega), List.getElem?_eq_none (by simp; omega)]
set_option maxHeartbeats 1000000 in
theorem Of_any (b : Nat) (R : Room) (x : Int) (w : World) (hR : RoomAt w b R) :
    Calls Tryd.prog 14 #[.pointer (some ⟨b, 0, none⟩), .int .u32 x] w fun e w' => e = .returned (.tuple #[.int .i64 (of R x).1, .int .i64 (of R x).2.1, .bool (of R x).2.2]) ∧ Below w.heap.size w w' := by
  have hcs : ∀ j, j < (srcsArr R).size → w.cell? ⟨b, 9 + j, none⟩ = (srcsArr R)[j]? := by
    intro j hj
    rw [srcsArr_size] at hj
    rw [hR.cell (by omega), srcsArr_at R j hj]
  have hinfo : (Tryd.prog.info? 82).map (·.size) = some (srcsArr R).size := by rw [srcsArr_size]; kernel_rfl
  have HP : Hid (∀ n : Nat, n < 9 → ∀ w, (Instr.index 82 (.agg (srcsArr R)) (.int .i64 (n : Int))).run Tryd.prog w = .ok (.agg #[.bool (R.src n).there, .int .i64 (R.src n).num, .int .i64 (R.src n).own, (R.src n).sv, .bool (R.src n).muted]) w) :=
    fun n hn w => Load.run_index_agg w 82 81 9 (srcsArr R) n 5 _ Tryd.underlying82 hn Tryd.underlying81 rfl (by kernel_rfl) _ (srcsArr_part R n hn)
  have HR := Lib.hid hR
  have hb := hR.lt
  have HO : Hid (of R x = ofGo R x 9 0) := rfl
  have HS : Hid (∀ k n : Nat, ofGo R x (k + 1) n = if (R.src n).there && decide (0 ≤ index (R.src n).ss x) then ((n : Int), index (R.src n).ss x, true) else ofGo R x k (n + 1)) := fun _ _ => rfl
  have HZ : Hid (∀ n : Nat, ofGo R x 0 n = (0, 0, false)) := fun _ => rfl
  clear hR
  generalize srcsArr R = CS at *
  go_enter Tryd.func14, Tryd.ntmps14
  go_wp2_with (refine Load.wpList_load_part rfl 82 (.tmp 14) rfl b 9 rfl CS (.array 9 81) hcs Tryd.underlying82 rfl hinfo ?_)
  clear hcs hinfo
  go_loopw [16] (fun i w' => ∃ k : Nat, k ≤ 9 ∧ i = .int .i64 k ∧ Below w.heap.size w w' ∧ Hid (of R x = ofGo R x (9 - k) k)) (fun i _ => 9 - (intOf i).toNat)
  case atStart => exact ⟨0, by omega, rfl, Below.refl _ _, HO.out⟩
  case round =>
    obtain ⟨k, hk, rfl, hbl, hof⟩ := hrel
    by_cases hk9 : k < 9
    · have hix := HP.out k hk9
      have hRr := HR.out.below hbl
      have CI := Lib.hid (fun (w1 : World) (h : Below wr.heap.size wr w1) => Index_any (R.src k).sv (R.src k).ss x w1 ((hRr.rows k hk9).below h).r)
      have HE := HS.out (8 - k) k
      rw [show 8 - k + 1 = 9 - k by omega] at HE
      have HE2 := Lib.hid HE
      obtain ⟨sa, scap, hsv, hx1⟩ := hRr.rows k hk9
      clear hx1
      rw [hsv] at hix CI
      clear HE hRr hsv
      generalize index (R.src k).ss x = q at *
      generalize (R.src k).ss.length = sl at *
      generalize (R.src k).num = nm at *
      generalize (R.src k).own = ow at *
      generalize (R.src k).muted = mt at *
      by_cases ht : (R.src k).there = true ∧ 0 ≤ q
      · have HF : Hid (of R x = ((k : Int), q, true)) := by
          show _ = _
          rw [hof.out, HE2.out, ht.1]; simp [ht.2]
        obtain ⟨ht1, ht2⟩ := ht
        rw [ht1] at hix
        clear ht1
        go_wp2_with (go_at_call 43; refine (CI.out _ (below_alloc _ _)).mono ?_; rintro e w1 ⟨rfl, rfl⟩)
        go_ret3
        exact ⟨by rw [HF.out]; rfl, hbl.trans ((below_alloc _ _).mono hbl.size)⟩
      · have HF : Hid (of R x = ofGo R x (9 - (k + 1)) (k + 1)) := by
          show _ = _
          rw [hof.out, HE2.out, if_neg (by simpa using ht), show 8 - k = 9 - (k + 1) by omega]
        cases hth : (R.src k).there
        · rw [hth] at hix
          clear ht hth
          go_wp2_with (go_at_call 43; refine (CI.out _ (below_alloc _ _)).mono ?_; rintro e w1 ⟨rfl, rfl⟩)
          go_roundw
          case rel => exact ⟨k + 1, by omega, by go_num, hbl.trans ((below_alloc _ _).mono hbl.size), HF.out⟩
          case measure => simp [intOf]; omega
        · have ht2 : q < 0 := by
            rw [hth] at ht; simp at ht; exact ht
          rw [hth] at hix
          clear ht hth
          go_wp2_with (go_at_call 43; refine (CI.out _ (below_alloc _ _)).mono ?_; rintro e w1 ⟨rfl, rfl⟩)
          go_roundw
          case rel => exact ⟨k + 1, by omega, by go_num, hbl.trans ((below_alloc _ _).mono hbl.size), HF.out⟩
          case measure => simp [intOf]; omega
    · have HF : Hid (of R x = (0, 0, false)) := by
        show _ = _
        rw [hof.out, show 9 - k = 0 by omega, HZ.out]
      go_wp2
      go_ret3
      exact ⟨by rw [HF.out]; rfl, hbl⟩
set_option maxHeartbeats 1000000 in
theorem Clone_any (v : Value) (l : List Int) (w : World) (hv : RRow w v l.length (u32s l)) (hl : l.length ≤ 1000000) :
    Calls Tryd.prog 45 #[v] w fun e w' => (∃ v', e = .returned v' ∧ Row w' 23 v' l.length (u32s l)) ∧ Below w.heap.size w w' := by
  obtain ⟨a, cap, rfl, hx1, hx2, hx3, hx4⟩ := id hv
  have HV := Lib.hid hv
  have HN := Lib.hid hx3
  clear hv hx4 hx1 hx2 hx3
  cases a with
  | none =>
    obtain ⟨h1, h2⟩ := HN.out rfl
    have HL : Hid (l = []) := List.eq_nil_of_length_eq_zero h1
    have he := fun w => Lib.run_eql_slice_nil (P := Tryd.prog) w 37 23 none l.length cap 0 0 Tryd.underlying37
    clear h1 h2
    go_enter Tryd.func45, Tryd.ntmps45
    go_wp2
    go_ret
    exact ⟨⟨_, rfl, by rw [HL.out]; exact Row.nil _ _⟩, Below.refl _ _⟩
  | some a =>
    have he := fun w => Lib.run_eql_slice_nil (P := Tryd.prog) w 37 23 (some a) l.length cap 0 0 Tryd.underlying37
    clear HN
    go_enter Tryd.func45, Tryd.ntmps45
    go_wp2_with (at_builtin; refine wpList_appR rfl (.tmp 5) (.tmp 6) 37 rfl w.heap.size elemU32 _ 0 [] rfl (owns_empty w 23 1) _ l.length (u32s l) rfl (HV.out.below (below_alloc _ _)) (by rw [u32s_length]; omega) (u32s_one l) (by omega) (by omega) (by simp) (fun v' w1 HO HG => ?_))
    go_ret
    have hb := ((Fr.refl w.heap.size NoB w).alloc (Nat.le_refl _) (.cells #[] 23)).grown HG.out (by simp) (by
      intro k hk
      have hk : some w.heap.size = some k := hk
      cases hk
      exact Nat.le_refl _)
    refine ⟨⟨_, rfl, ?_⟩, hb.below⟩
    have := Row.of_owns HO.out
    rwa [Nat.zero_add, List.nil_append] at this
set_option maxHeartbeats 1000000 in
theorem Sub_any (b : Nat) (R : Room) (p n : Int) (w : World) (hR : RoomAt w b R) :
    Calls Tryd.prog 17 #[.pointer (some ⟨b, 0, none⟩), .int .i64 p, .int .i64 n] w fun e w' =>
      e = .returned (.tuple #[.agg (if hears R p n then #[.int .i64 p, .int .i64 n, .int .i64 (R.sub n.toNat p.toNat).want, .bool (R.sub n.toNat p.toNat).paused] else #[.int .i64 0, .int .i64 0, .int .i64 0, .bool false]), .bool (hears R p n)]) ∧ Below w.heap.size w w' := by
  have CP := Lib.hid (fun w => in_any p 9 w)
  have CN := Lib.hid (fun w => in_any n 9 w)
  have hb := hR.lt
  have HH : Hid (hears R p n = (inn p 9 && inn n 9 && (R.sub n.toNat p.toNat).there)) := rfl
  by_cases hp : inn p 9 = true
  · by_cases hn : inn n 9 = true
    · obtain ⟨h1, h2⟩ := (inn_iff p 9).1 hp
      obtain ⟨h3, h4⟩ := (inn_iff n 9).1 hn
      obtain ⟨p, rfl⟩ := Int.eq_ofNat_of_zero_le (show 0 ≤ p by omega)
      obtain ⟨n, rfl⟩ := Int.eq_ofNat_of_zero_le (show 0 ≤ n by omega)
      rw [Int.toNat_natCast, Int.toNat_natCast] at HH ⊢
      rw [hp] at CP HH
      rw [hn] at CN HH
      obtain ⟨c0, c1, c2⟩ := hR.subc (n := n) (p := p) (by omega) (by omega)
      clear hp hn hR
      cases ht : (R.sub n p).there
      · rw [ht] at c0
        have HF : Hid (hears R p n = false) := by show _ = _; rw [HH.out, ht]; rfl
        rw [HF.out]
        clear ht
        go_enter Tryd.func17, Tryd.ntmps17
        go_wp2_with fail
        refine (CP.out _).mono ?_
        rintro e w1 ⟨rfl, rfl⟩
        go_wp2_with fail
        refine (CN.out _).mono ?_
        rintro e w1 ⟨rfl, rfl⟩
        go_wp2_with fail
        refine bodyPost_ret (v := .tuple #[.agg #[.int .i64 0, .int .i64 0, .int .i64 0, .bool false], .bool false]) (by simp [results, Tryd.results17, go_sem]) rfl ⟨rfl, below_alloc _ _⟩
      · rw [ht] at c0
        have HF : Hid (hears R p n = true) := by show _ = _; rw [HH.out, ht]; rfl
        rw [HF.out]
        clear ht
        go_enter Tryd.func17, Tryd.ntmps17
        go_wp2_with fail
        refine (CP.out _).mono ?_
        rintro e w1 ⟨rfl, rfl⟩
        go_wp2_with fail
        refine (CN.out _).mono ?_
        rintro e w1 ⟨rfl, rfl⟩
        go_wp2_with fail
        refine bodyPost_ret (v := .tuple #[.agg #[.int .i64 p, .int .i64 n, .int .i64 (R.sub n p).want, .bool (R.sub n p).paused], .bool true]) (by simp [results, Tryd.results17, go_sem]) rfl ⟨rfl, ?_⟩
        repeat (first | exact Below.refl _ _ | refine Below.drew ?_ | refine Below.alloc ?_ (by simp) _)
    · have hn : inn n 9 = false := by simpa using hn
      have HF : Hid (hears R p n = false) := by show _ = _; rw [HH.out, hp, hn]; rfl
      rw [HF.out]
      rw [hp] at CP
      rw [hn] at CN
      clear hp hn hR
      go_enter Tryd.func17, Tryd.ntmps17
      go_wp2_with fail
      refine (CP.out _).mono ?_
      rintro e w1 ⟨rfl, rfl⟩
      go_wp2_with fail
      refine (CN.out _).mono ?_
      rintro e w1 ⟨rfl, rfl⟩
      go_wp2_with fail
      refine bodyPost_ret (v := .tuple #[.agg #[.int .i64 0, .int .i64 0, .int .i64 0, .bool false], .bool false]) (by simp [results, Tryd.results17, go_sem]) rfl ⟨rfl, below_alloc _ _⟩
  · have hp : inn p 9 = false := by simpa using hp
    have HF : Hid (hears R p n = false) := by show _ = _; rw [HH.out, hp]; rfl
    rw [HF.out]
    rw [hp] at CP
    clear hp hR
    go_enter Tryd.func17, Tryd.ntmps17
    go_wp2_with fail
    refine (CP.out _).mono ?_
    rintro e w1 ⟨rfl, rfl⟩
    go_wp2_with fail
    refine bodyPost_ret (v := .tuple #[.agg #[.int .i64 0, .int .i64 0, .int .i64 0, .bool false], .bool false]) (by simp [results, Tryd.results17, go_sem]) rfl ⟨rfl, below_alloc _ _⟩
set_option maxHeartbeats 1000000 in
theorem Source_no (b : Nat) (R : Room) (n : Int) (w : World) (hR : RoomAt w b R) (h : (inn n 9 && (R.src n.toNat).there) = false) :
    Calls Tryd.prog 16 #[.pointer (some ⟨b, 0, none⟩), .int .i64 n] w fun e w' =>
      e = .returned (.tuple #[.agg #[.int .i64 0, .int .i64 0, .slice none 0 0, .bool false], .bool false]) ∧ Below w.heap.size w w' := by
  have CN := Lib.hid (fun w => in_any n 9 w)
  have hb := hR.lt
  by_cases hn : inn n 9 = true
  · obtain ⟨h3, h4⟩ := (inn_iff n 9).1 hn
    obtain ⟨n, rfl⟩ := Int.eq_ofNat_of_zero_le (show 0 ≤ n by omega)
    rw [hn, Int.toNat_natCast, Bool.true_and] at h
    obtain ⟨s0, s1, s2, s3, s4⟩ := hR.srcc (n := n) (by omega)
    rw [h] at s0
    rw [hn] at CN
    clear hn h hR
    go_enter Tryd.func16, Tryd.ntmps16
    go_wp2_with fail
    refine (CN.out _).mono ?_
    rintro e w1 ⟨rfl, rfl⟩
    go_wp2_with fail
    refine bodyPost_ret (v := .tuple #[.agg #[.int .i64 0, .int .i64 0, .slice none 0 0, .bool false], .bool false]) (by simp [results, Tryd.results16, go_sem]) rfl ⟨rfl, below_alloc _ _⟩
  · have hn : inn n 9 = false := by simpa using hn
    rw [hn] at CN
    clear hn h hR
    go_enter Tryd.func16, Tryd.ntmps16
    go_wp2_with fail
    refine (CN.out _).mono ?_
    rintro e w1 ⟨rfl, rfl⟩
    go_wp2_with fail
    refine bodyPost_ret (v := .tuple #[.agg #[.int .i64 0, .int .i64 0, .slice none 0 0, .bool false], .bool false]) (by simp [results, Tryd.results16, go_sem]) rfl ⟨rfl, below_alloc _ _⟩
set_option maxHeartbeats 1000000 in
theorem Source_yes (b : Nat) (R : Room) (n : Nat) (w : World) (hR : RoomAt w b R) (hn : 1 ≤ n ∧ n < 9) (h : (R.src n).there = true) (hl : (R.src n).ss.length ≤ 1000000) :
    Calls Tryd.prog 16 #[.pointer (some ⟨b, 0, none⟩), .int .i64 n] w fun e w' =>
      (∃ v', e = .returned (.tuple #[.agg #[.int .i64 (R.src n).num, .int .i64 (R.src n).own, v', .bool (R.src n).muted], .bool true]) ∧ Row w' 23 v' (R.src n).ss.length (u32s (R.src n).ss)) ∧ Below w.heap.size w w' := by
  have CN := Lib.hid (fun w => in_any n 9 w)
  have hb := hR.lt
  have hi : inn n 9 = true := (inn_iff _ _).2 (by omega)
  obtain ⟨s0, s1, s2, s3, s4⟩ := hR.srcc hn.2
  rw [h] at s0
  rw [hi] at CN
  have HROW := Lib.hid (hR.rows n hn.2)
  obtain ⟨sa, scap, hsv, hx1⟩ := hR.rows n hn.2
  have CC := Lib.hid (fun w1 (hw : Below w.heap.size w w1) => Clone_any (R.src n).sv (R.src n).ss w1 ((hR.rows n hn.2).below hw).r hl)
  rw [hsv] at s3 CC
  clear hi h hR hx1 hsv
  generalize (R.src n).ss = ss at *
  generalize (R.src n).num = nm at *
  generalize (R.src n).own = ow at *
  generalize (R.src n).muted = mt at *
  go_enter Tryd.func16, Tryd.ntmps16
  go_wp2_with fail
  refine (CN.out _).mono ?_
  rintro e w1 ⟨rfl, rfl⟩
  go_wp2_with fail
  refine (CC.out _ (by repeat (first | exact Below.refl _ _ | refine Below.alloc ?_ (by simp) _))).mono ?_
  rintro e w1 ⟨⟨v', rfl, hrow⟩, hb1⟩
  have HROW2 := Lib.hid hrow
  obtain ⟨a', cap', rfl, hx1⟩ := hrow
  obtain ⟨hcl, hfz⟩ := bcell hb1
  have hz : w.heap.size + 1 < w1.heap.size := by have := hb1.size; simp at this; omega
  have HB := Lib.hid hb1
  have r0 := hcl w.heap.size 0 (by simp; omega)
  have r1 := hcl w.heap.size 1 (by simp; omega)
  have r2 := hcl w.heap.size 2 (by simp; omega)
  have r3 := hcl w.heap.size 3 (by simp; omega)
  simp at r0 r1 r2 r3
  clear hx1 hb1
  go_wp2_with fail
  refine bodyPost_ret (v := .tuple #[.agg #[.int .i64 nm, .int .i64 ow, .slice a' ss.length cap', .bool mt], .bool true]) (by simp [results, Tryd.results16, go_sem, r0, r1, r2, r3]) rfl ⟨⟨_, rfl, ?_⟩, ?_⟩
  · refine HROW2.out.fr (B := w1.heap.size) (S := fun k => w.heap.size ≤ k ∧ k < w.heap.size + 2) ?_ (Nat.le_refl _) ?_
    · repeat (refine Fr.setCell ?_ (Or.inr (by simp)) _)
      exact Fr.refl _ _ _
    · intro k c fr hk
      rw [HB.out.block k (by simp; omega)]
      obtain ⟨n1, n2⟩ := two_new w (.cells #[.int .i64 0, .int .i64 0, .slice none 0 0, .bool false] 44) (.cells #[.int .i64 nm, .int .i64 ow, .slice sa ss.length scap, .bool mt] 44)
      have : k = w.heap.size ∨ k = w.heap.size + 1 := by omega
      rcases this with rfl | rfl
      · rw [n1]; exact cells_ne (by decide)
      · rw [n2]; exact cells_ne (by decide)
  · repeat (refine Below.setCell ?_ (by simp) _)
    exact ((below_alloc _ _).trans ((below_alloc _ _).mono (by simp))).trans (HB.out.mono (by simp; omega))
end Go.Proofs.Rm
