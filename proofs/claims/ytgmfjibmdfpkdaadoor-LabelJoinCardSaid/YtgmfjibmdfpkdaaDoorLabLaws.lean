/- The walks of the five laws on names: each returns true, and what was there stays. -/
import Derived.Test.YtgmfjibmdfpkdaaDoorLabWalks2
import Derived.Test.YtgmfjibmdfpkdaaDoorFrame
namespace Go.Proofs.Lab
open Go.RowKit Go.Lib Go.Proofs.Mem
theorem shown_any (w : World) (hT : Tabs w) :
    Calls Tryd.prog 8 #[] w (fun e w' => e = .returned (.bool true) ∧ Below w.heap.size w w') := by
  have hT' := Lib.hid hT
  clear hT
  have c1 : ∀ w1, Calls Tryd.prog 11 #[.string ⟨#[65, 110, 110]⟩] w1 (fun e w' => e = .returned (.bool true) ∧ Below w1.heap.size w1 w') := fun w1 => May_any ⟨#[65, 110, 110]⟩ w1 (by decide)
  have c2 : ∀ w1, Calls Tryd.prog 11 #[.string ⟨#[]⟩] w1 (fun e w' => e = .returned (.bool false) ∧ Below w1.heap.size w1 w') := fun w1 => May_any ⟨#[]⟩ w1 (by decide)
  have c3 : ∀ w1, Calls Tryd.prog 11 #[.string ⟨#[97, 32, 98]⟩] w1 (fun e w' => e = .returned (.bool false) ∧ Below w1.heap.size w1 w') := fun w1 => May_any ⟨#[97, 32, 98]⟩ w1 (by decide)
  have c4 : ∀ w1, Below w.heap.size w w1 → Calls Tryd.prog 9 #[.string ⟨#[195, 164, 98]⟩] w1 (fun e w' => e = .returned (.int .i64 2) ∧ Below w1.heap.size w1 w') := fun w1 hb => Runes_any ⟨#[195, 164, 98]⟩ w1 (by decide) (Utf8Tabs_below hT'.out hb)
  have c5 : ∀ w1, Below w.heap.size w w1 → Calls Tryd.prog 9 #[.string ⟨#[255]⟩] w1 (fun e w' => e = .returned (.int .i64 (-1)) ∧ Below w1.heap.size w1 w') := fun w1 hb => Runes_any ⟨#[255]⟩ w1 (by decide) (Utf8Tabs_below hT'.out hb)
  have c6 : ∀ w1, Below w.heap.size w w1 → Calls Tryd.prog 13 #[.string ⟨#[65, 110, 195, 132]⟩] w1 (fun e w' => e = .returned (.string ⟨#[97, 110, 195, 132]⟩) ∧ Below w1.heap.size w1 w') := fun w1 hb => Key_any ⟨#[65, 110, 195, 132]⟩ w1 (by decide) (Utf8Tabs_below hT'.out hb)
  have c7 : ∀ w1, Calls Tryd.prog 15 #[.string ⟨#[195, 164, 98, 99]⟩, .int .i64 2] w1 (fun e w' => e = .returned (.string ⟨#[195, 164, 98]⟩) ∧ Below w1.heap.size w1 w') := fun w1 => Cut_any ⟨#[195, 164, 98, 99]⟩ 2 w1 (by decide)
  have C1 := Lib.hid c1
  have C2 := Lib.hid c2
  have C3 := Lib.hid c3
  have C4 := Lib.hid c4
  have C5 := Lib.hid c5
  have C6 := Lib.hid c6
  have C7 := Lib.hid c7
  clear c1 c2 c3 c4 c5 c6 c7
  go_enter Tryd.func8, Tryd.ntmps8
  go_wp2_with fail
  refine (C1.out _).mono ?_
  rintro e w1 ⟨rfl, b1⟩
  go_wp2_with fail
  refine (C2.out _).mono ?_
  rintro e w2 ⟨rfl, b2⟩
  have b2 := b1.trans (b2.mono b1.size)
  clear b1
  go_wp2_with fail
  refine (C3.out _).mono ?_
  rintro e w3 ⟨rfl, b3⟩
  have b3 := b2.trans (b3.mono b2.size)
  clear b2
  go_wp2_with fail
  refine (C4.out _ b3).mono ?_
  rintro e w4 ⟨rfl, b4⟩
  have b4 := b3.trans (b4.mono b3.size)
  clear b3
  go_wp2_with fail
  refine (C5.out _ b4).mono ?_
  rintro e w5 ⟨rfl, b5⟩
  have b5 := b4.trans (b5.mono b4.size)
  clear b4
  go_wp2_with fail
  refine (C6.out _ b5).mono ?_
  rintro e w6 ⟨rfl, b6⟩
  have b6 := b5.trans (b6.mono b5.size)
  clear b5
  go_wp2_with fail
  refine (C7.out _).mono ?_
  rintro e w7 ⟨rfl, b7⟩
  have b7 := b6.trans (b7.mono b6.size)
  clear b6
  go_wp2_with fail
  go_ret
  exact ⟨rfl, b7⟩
theorem LabelAll_any (s : ByteArray) (n : Int) (w : World) (hs' : s.size < 9223372036854775807) (hT : Tabs w) :
    Calls Tryd.prog 3 #[.string s, .int .i64 n] w (fun e w' => e = .returned (.bool true) ∧ Below w.heap.size w w') := by
  have hT' := Lib.hid hT
  have c0 := shown_any w hT
  have c1 : ∀ w1, Below w.heap.size w w1 → _ := fun w1 hb => Runes_any s w1 hs' (Utf8Tabs_below hT hb)
  have c2 : ∀ w1, Below w.heap.size w w1 → _ := fun w1 hb => rRunes_any s w1 hs' (Utf8Tabs_below hT hb)
  have c3 := fun w1 => May_any s w1 hs'
  have c4 : ∀ w1, Below w.heap.size w w1 → _ := fun w1 hb => rMay_any s w1 hs' (Utf8Tabs_below hT hb)
  have c5 : ∀ w1, Below w.heap.size w w1 → _ := fun w1 hb => Key_any s w1 hs' (Utf8Tabs_below hT hb)
  have c6 : ∀ w1, Below w.heap.size w w1 → _ := fun w1 hb => rKey_any s w1 hs' (Utf8Tabs_below hT hb)
  have c7 := fun w1 => Cut_any s n w1 hs'
  have c8 : ∀ w1, Below w.heap.size w w1 → _ := fun w1 hb => rCut_any s n w1 hs' (Utf8Tabs_below hT hb)
  have C0 := Lib.hid c0
  have C1 := Lib.hid c1
  have C2 := Lib.hid c2
  have C3 := Lib.hid c3
  have C4 := Lib.hid c4
  have C5 := Lib.hid c5
  have C6 := Lib.hid c6
  have C7 := Lib.hid c7
  have C8 := Lib.hid c8
  clear c0 c1 c2 c3 c4 c5 c6 c7 c8 hT
  generalize runes s.data.toList = q at C1 C2
  generalize may s.data.toList = m at C3 C4
  generalize str (key s.data.toList) = k at C5 C6
  generalize str (cut s.data.toList n) = u at C7 C8
  go_enter Tryd.func3, Tryd.ntmps3
  go_wp2_with fail
  refine C0.out.mono ?_
  rintro e w0 ⟨rfl, b0⟩
  go_wp2_with fail
  refine (C1.out _ b0).mono ?_
  rintro e w1 ⟨rfl, b1⟩
  have b1 := b0.trans (b1.mono b0.size)
  clear b0
  go_wp2_with fail
  refine (C2.out _ b1).mono ?_
  rintro e w2 ⟨rfl, b2⟩
  have b2 := b1.trans (b2.mono b1.size)
  clear b1
  go_wp2_with fail
  refine (C3.out _).mono ?_
  rintro e w3 ⟨rfl, b3⟩
  have b3 := b2.trans (b3.mono b2.size)
  clear b2
  go_wp2_with fail
  refine (C4.out _ b3).mono ?_
  rintro e w4 ⟨rfl, b4⟩
  have b4 := b3.trans (b4.mono b3.size)
  clear b3
  go_wp2_with fail
  refine (C5.out _ b4).mono ?_
  rintro e w5 ⟨rfl, b5⟩
  have b5 := b4.trans (b5.mono b4.size)
  clear b4
  go_wp2_with fail
  refine (C6.out _ b5).mono ?_
  rintro e w6 ⟨rfl, b6⟩
  have b6 := b5.trans (b6.mono b5.size)
  clear b5
  go_wp2_with fail
  refine (C7.out _).mono ?_
  rintro e w7 ⟨rfl, b7⟩
  have b7 := b6.trans (b7.mono b6.size)
  clear b6
  go_wp2_with fail
  refine (C8.out _ b7).mono ?_
  rintro e w8 ⟨rfl, b8⟩
  have b8 := b7.trans (b8.mono b7.size)
  clear b7
  go_wp2_with fail
  go_ret
  exact ⟨rfl, b8⟩

theorem enc_size (r : Int) : (Utf8.encode r).size < 9223372036854775807 := by
  unfold Utf8.encode
  dsimp only
  repeat' split
  all_goals simp [ByteArray.size]
theorem rune_cases (r : Int) : (r < 0 ∨ (1114111 < r) ∨ (0 ≤ r ∧ r < 33) ∨ (127 ≤ r ∧ r ≤ 159) ∨ (55296 ≤ r ∧ r ≤ 57343) ∨ r = 65533) ∨ ((33 ≤ r ∧ r < 127) ∨ (159 < r ∧ r < 55296) ∨ (57343 < r ∧ r < 65533) ∨ (65533 < r ∧ r ≤ 1114111)) := by omega
theorem LabelOne_any (r : Int) (w : World) (hT : Tabs w) :
    Calls Tryd.prog 4 #[.int .i32 r] w (fun e w' => e = .returned (.bool true) ∧ Below w.heap.size w w') := by
  have C0 := Lib.hid (shown_any w hT)
  have CM : Hid (∀ w1, _) := fun w1 => May_any (Utf8.encode r) w1 (enc_size r)
  rw [may_one] at CM
  clear hT
  rcases rune_cases r with hc | hc
  · have e : decide (validR r ∧ 33 ≤ r ∧ (r < 127 ∨ 159 < r) ∧ r ≠ 65533) = false := by rw [decide_eq_false_iff_not]; omega
    rw [e] at CM
    clear e
    by_cases h5 : r = 65533
    · subst h5
      clear hc
      go_enter Tryd.func4, Tryd.ntmps4
      go_wp2_with (first | (go_at_call 8; refine C0.out.mono ?_; rintro e w0 ⟨rfl, b0⟩) | (go_at_call 11; refine (CM.out _).mono ?_; rintro e w1 ⟨rfl, b1⟩))
      go_ret
      first | exact ⟨rfl, b0.trans (b1.mono b0.size)⟩ | exact ⟨ret_bool (by simp; omega), b0.trans (b1.mono b0.size)⟩
    · have t5 : (r != 65533) = true := by rw [bne_iff_ne]; exact h5
      have hc : r < 0 ∨ (1114111 < r) ∨ (0 ≤ r ∧ r < 33) ∨ (127 ≤ r ∧ r ≤ 159) ∨ (55296 ≤ r ∧ r ≤ 57343) := by omega
      clear h5
      rcases hc with h | h | ⟨h, h'⟩ | ⟨h, h'⟩ | ⟨h, h'⟩ <;> (
        go_enter Tryd.func4, Tryd.ntmps4
        go_wp2_with (first | (go_at_call 8; refine C0.out.mono ?_; rintro e w0 ⟨rfl, b0⟩) | (go_at_call 11; refine (CM.out _).mono ?_; rintro e w1 ⟨rfl, b1⟩))
        go_ret
        first | exact ⟨rfl, b0.trans (b1.mono b0.size)⟩ | exact ⟨ret_bool (by simp; omega), b0.trans (b1.mono b0.size)⟩)
  · have e : decide (validR r ∧ 33 ≤ r ∧ (r < 127 ∨ 159 < r) ∧ r ≠ 65533) = true := by rw [decide_eq_true_iff]; omega
    rw [e] at CM
    clear e
    have t5 : (r != 65533) = true := by rw [bne_iff_ne]; omega
    rcases hc with ⟨h, h'⟩ | ⟨h, h'⟩ | ⟨h, h'⟩ | ⟨h, h'⟩ <;> (
      go_enter Tryd.func4, Tryd.ntmps4
      go_wp2_with (first | (go_at_call 8; refine C0.out.mono ?_; rintro e w0 ⟨rfl, b0⟩) | (go_at_call 11; refine (CM.out _).mono ?_; rintro e w1 ⟨rfl, b1⟩))
      go_ret
      first | exact ⟨rfl, b0.trans (b1.mono b0.size)⟩ | exact ⟨ret_bool (by simp; omega), b0.trans (b1.mono b0.size)⟩)
theorem app_list (a b : ByteArray) : (a ++ b).data.toList = a.data.toList ++ b.data.toList := by
  cases a; cases b; simp
theorem LabelJoin_any (a b : ByteArray) (w : World) (ha : a.size ≤ 140737488355328) (hb : b.size ≤ 140737488355328) (hT : Tabs w) :
    Calls Tryd.prog 5 #[.string a, .string b] w (fun e w' => e = .returned (.bool true) ∧ Below w.heap.size w w') := by
  have C0 := Lib.hid (shown_any w hT)
  have C1 : Hid (∀ w1, Below w.heap.size w w1 → _) := fun w1 hw => Runes_any a w1 (by omega) (Utf8Tabs_below hT hw)
  have C2 : Hid (∀ w1, Below w.heap.size w w1 → _) := fun w1 hw => Runes_any b w1 (by omega) (Utf8Tabs_below hT hw)
  have hab : (a ++ b).size ≤ 281474976710656 := by rw [ByteArray.size_append]; omega
  have C3 : Hid (∀ w1, Below w.heap.size w w1 → _) := fun w1 hw => Runes_any (a ++ b) w1 (by omega) (Utf8Tabs_below hT hw)
  have C4 : Hid (∀ w1, _) := fun w1 => Cut_any (a ++ b) (runes a.data.toList) w1 (by omega)
  have hr : ∀ l : List UInt8, runes l ≤ l.length := by intro l; have := rn_length_le l; unfold runes; split <;> omega
  have hra := hr a.data.toList
  have hrb := hr b.data.toList
  rw [← Lib.size_eq] at hra hrb
  have HJ := Lib.hid (runes_join a.data.toList b.data.toList)
  clear hr hT
  rw [app_list] at C3 C4
  by_cases h1 : runes a.data.toList < 0
  · generalize runes a.data.toList = x at *
    generalize runes b.data.toList = y at *
    clear C3 C4 HJ
    go_enter Tryd.func5, Tryd.ntmps5
    go_wp2_with fail
    refine C0.out.mono ?_
    rintro e w0 ⟨rfl, b0⟩
    go_wp2_with fail
    refine (C1.out _ b0).mono ?_
    rintro e w1 ⟨rfl, b1⟩
    have b1 := b0.trans (b1.mono b0.size)
    clear b0
    go_wp2_with fail
    refine (C2.out _ b1).mono ?_
    rintro e w2 ⟨rfl, b2⟩
    have b2 := b1.trans (b2.mono b1.size)
    clear b1
    go_wp2_with fail
    go_ret
    exact ⟨rfl, b2⟩
  by_cases h2 : runes b.data.toList < 0
  · generalize runes a.data.toList = x at *
    generalize runes b.data.toList = y at *
    clear C3 C4 HJ
    go_enter Tryd.func5, Tryd.ntmps5
    go_wp2_with fail
    refine C0.out.mono ?_
    rintro e w0 ⟨rfl, b0⟩
    go_wp2_with fail
    refine (C1.out _ b0).mono ?_
    rintro e w1 ⟨rfl, b1⟩
    have b1 := b0.trans (b1.mono b0.size)
    clear b0
    go_wp2_with fail
    refine (C2.out _ b1).mono ?_
    rintro e w2 ⟨rfl, b2⟩
    have b2 := b1.trans (b2.mono b1.size)
    clear b1
    go_wp2_with fail
    go_ret
    exact ⟨rfl, b2⟩
  · obtain ⟨j1, j2⟩ := HJ.out h1 h2
    rw [j1] at C3
    rw [j2, str_eq] at C4
    clear j1 j2 HJ
    generalize runes a.data.toList = x at *
    generalize runes b.data.toList = y at *
    rw [ByteArray.size_append] at hab
    go_enter Tryd.func5, Tryd.ntmps5
    go_wp2_with fail
    refine C0.out.mono ?_
    rintro e w0 ⟨rfl, b0⟩
    go_wp2_with fail
    refine (C1.out _ b0).mono ?_
    rintro e w1 ⟨rfl, b1⟩
    have b1 := b0.trans (b1.mono b0.size)
    clear b0
    go_wp2_with fail
    refine (C2.out _ b1).mono ?_
    rintro e w2 ⟨rfl, b2⟩
    have b2 := b1.trans (b2.mono b1.size)
    clear b1
    go_wp2_with fail
    refine (C3.out _ b2).mono ?_
    rintro e w3 ⟨rfl, b3⟩
    have b3 := b2.trans (b3.mono b2.size)
    clear b2
    go_wp2_with fail
    refine (C4.out _).mono ?_
    rintro e w4 ⟨rfl, b4⟩
    have b4 := b3.trans (b4.mono b3.size)
    clear b3
    go_wp2_with fail
    go_ret
    exact ⟨rfl, b4⟩
set_option maxHeartbeats 1000000 in
theorem LabelCut_any (s : ByteArray) (m n : Int) (w : World) (hs : s.size < 9223372036854775807) (hT : Tabs w) :
    Calls Tryd.prog 6 #[.string s, .int .i64 m, .int .i64 n] w (fun e w' => e = .returned (.bool true) ∧ Below w.heap.size w w') := by
  have C0 := Lib.hid (shown_any w hT)
  have hcl : (str (cut s.data.toList m)).size ≤ s.size := by
    rw [str_size, Lib.size_eq]; unfold cut; rw [List.length_take]; omega
  have HX : Hid (s.extract 0 (str (cut s.data.toList m)).size = str (cut s.data.toList m)) := by
    show _ = _
    rw [ext_str, str_size]
    congr 1
    unfold cut
    rw [List.length_take, Nat.min_eq_left (cutAt_le _ _)]
  have C1 : Hid (∀ w1, _) := fun w1 => Cut_any s m w1 hs
  have C2 : Hid (∀ w1, _) := fun w1 => Cut_any (str (cut s.data.toList m)) n w1 (by omega)
  have C3 : Hid (∀ w1, _) := fun w1 => Cut_any s (min m n) w1 hs
  have C4 : Hid (∀ w1, Below w.heap.size w w1 → _) := fun w1 hw => Runes_any s w1 hs (Utf8Tabs_below hT hw)
  have C5 : Hid (∀ w1, Below w.heap.size w w1 → _) := fun w1 hw => Runes_any (str (cut s.data.toList m)) w1 (by omega) (Utf8Tabs_below hT hw)
  rw [str_toList, cut_cut] at C2
  rw [str_toList] at C5
  have HR := Lib.hid (runes_cut s.data.toList m)
  clear hT
  generalize runes (cut s.data.toList m) = z at *
  generalize runes s.data.toList = k at *
  generalize str (cut s.data.toList m) = t at *
  generalize str (cut s.data.toList (min m n)) = u at *
  have hx : (s.extract 0 t.size).toList = t.toList := by rw [HX.out]
  have cs : k < 0 ∨ (0 ≤ k ∧ z = min (max m 0) k) := by
    by_cases hk : k < 0
    · exact Or.inl hk
    · exact Or.inr ⟨by omega, HR.out hk⟩
  clear HR
  rcases cs with h | ⟨h, rfl⟩ <;> (
    go_enter Tryd.func6, Tryd.ntmps6
    go_wp2_with fail
    refine C0.out.mono ?_
    rintro e w0 ⟨rfl, b0⟩
    go_wp2_with fail
    refine (C1.out _).mono ?_
    rintro e w1 ⟨rfl, b1⟩
    have b1 := b0.trans (b1.mono b0.size)
    clear b0
    go_wp2_with fail
    refine (C2.out _).mono ?_
    rintro e w2 ⟨rfl, b2⟩
    have b2 := b1.trans (b2.mono b1.size)
    clear b1
    go_wp2_with fail
    refine (C3.out _).mono ?_
    rintro e w3 ⟨rfl, b3⟩
    have b3 := b2.trans (b3.mono b2.size)
    clear b2
    go_wp2_with fail
    refine (C4.out _ b3).mono ?_
    rintro e w4 ⟨rfl, b4⟩
    have b4 := b3.trans (b4.mono b3.size)
    clear b3
    go_wp2_with fail
    first
      | (go_ret; exact ⟨rfl, b4⟩)
      | (refine (C5.out _ b4).mono ?_
         rintro e w5 ⟨rfl, b5⟩
         have b5 := b4.trans (b5.mono b4.size)
         clear b4
         go_wp2_with fail
         go_ret
         exact ⟨rfl, b5⟩))

theorem set_low (m : List UInt8) (k : Nat) (hk : k < m.length) (y : UInt8) (h : low y = low (m.getD k 0)) : (m.set k y).map low = m.map low := by
  rw [List.map_set, h]
  rw [List.getD_eq_getElem?_getD, List.getElem?_eq_getElem hk]
  have := @List.set_getElem_self _ (m.map low) k (by simpa using hk)
  simpa using this
theorem low_flip (x y : UInt8) (h : (97 ≤ x.toNat ∧ x.toNat ≤ 122 ∧ y.toNat = x.toNat - 32) ∨ (65 ≤ x.toNat ∧ x.toNat ≤ 90 ∧ y.toNat = x.toNat + 32)) : low y = low x := by
  apply UInt8.toNat_inj.1
  rw [low_toNat, low_toNat]
  unfold lowN
  repeat' split
  all_goals omega
theorem xor_all : ∀ X : Fin 256, bits .xor .u8 ((X.val : Nat) : Int) 32 = ((X.val ^^^ 32 : Nat) : Int) := by decide +kernel
theorem xor32 (x : UInt8) : bits .xor .u8 (x.toNat : Int) 32 = ((x ^^^ 32).toNat : Int) := by
  have := xor_all ⟨x.toNat, x.toNat_lt⟩
  rw [UInt8.toNat_xor]; exact this
theorem flip_all : ∀ X : Fin 256, (97 ≤ X.val ∧ X.val ≤ 122 → X.val ^^^ 32 = X.val - 32) ∧ (65 ≤ X.val ∧ X.val ≤ 90 → X.val ^^^ 32 = X.val + 32) := by decide +kernel
theorem flip_low (x : UInt8) (h : (97 ≤ x.toNat ∧ x.toNat ≤ 122) ∨ (65 ≤ x.toNat ∧ x.toNat ≤ 90)) : low (x ^^^ 32) = low x := by
  have := flip_all ⟨x.toNat, x.toNat_lt⟩
  apply low_flip
  rw [UInt8.toNat_xor]
  rcases h with h | h
  · exact Or.inl ⟨h.1, h.2, this.1 h⟩
  · exact Or.inr ⟨h.1, h.2, this.2 h⟩
set_option maxHeartbeats 4000000 in
theorem LabelKey_any (s : ByteArray) (v : Value) (ts : List Bool) (w : World) (hs : s.size < 9223372036854775807) (hv : Frame.BoolRow w v ts) (hts : ts.length < 9223372036854775808) (hT : Tabs w) :
    Calls Tryd.prog 7 #[.string s, v] w (fun e w' => e = .returned (.bool true) ∧ Below w.heap.size w w') := by
  obtain ⟨ta, tc, rfl, htr⟩ := id hv
  have hta : ts.length = 0 ∨ ∃ tb toff, 0 < ts.length ∧ tb < w.heap.size ∧ ta = some ⟨tb, toff, none⟩ ∧ ∀ j, j < ts.length → w.cell? ⟨tb, toff + j, none⟩ = some (.bool (ts.getD j false)) := by
    rcases Nat.eq_zero_or_pos ts.length with h0 | h0
    · exact Or.inl h0
    · obtain ⟨tb, toff, h1, h2, h3⟩ := htr 0 h0
      refine Or.inr ⟨tb, toff, h0, h2, h1, fun j hj => ?_⟩
      obtain ⟨tb', toff', h1', h2', h3'⟩ := htr j hj
      rw [h1] at h1'
      cases h1'
      exact h3'
  have C0 := Lib.hid (shown_any w hT)
  have CK : Hid (∀ (s : ByteArray) w1, s.size < 9223372036854775807 → Below w.heap.size w w1 → _) := fun s w1 hs hw => Key_any s w1 hs (Utf8Tabs_below hT hw)
  have CM : Hid (∀ w1, _) := fun w1 => May_any s w1 hs
  have HL : Hid (s.data.toList.length = s.size) := (Lib.size_eq s).symm
  have HK := Lib.hid (key_laws s.data.toList)
  have HE := Lib.hid (fun m => key_of_low s.data.toList m)
  clear hT hv htr
  by_cases hm : may s.data.toList = true
  · obtain ⟨k1, k2, k3⟩ := HK.out hm
    have CM2 : Hid (∀ w1, _) := fun w1 => May_any (str (key s.data.toList)) w1 (by rw [str_size, k1, HL.out]; exact hs)
    have CK2 : Hid (∀ w1, Below w.heap.size w w1 → _) := fun w1 hw => CK.out (str (key s.data.toList)) w1 (by rw [str_size, k1, HL.out]; exact hs) hw
    have CK1 : Hid (∀ w1, Below w.heap.size w w1 → _) := fun w1 hw => CK.out s w1 hs hw
    rw [str_toList, k2] at CM2
    rw [str_toList, k3] at CK2
    have HKS : Hid ((str (key s.data.toList)).size = s.size) := by show _ = _; rw [str_size, k1, HL.out]
    rw [hm] at CM
    clear hm k1 k2 k3 HK
    have hconv : ∀ w, (convert 9 32 (.string s)).run Tryd.prog w = _ := fun w => Go.Lib.run_convert_string_bytes w 9 32 5 s Tryd.underlying9 Tryd.underlying32 Tryd.underlying5
    have hsz : (str (key s.data.toList)).size = s.size := HKS.out
    rcases hta with h0 | ⟨tb, toff, h0, htb, rfl, htc⟩
    all_goals try have HTC := Lib.hid htc
    all_goals try clear htc
    all_goals
      go_enter Tryd.func7, Tryd.ntmps7
      go_wp2_with fail
      refine C0.out.mono ?_
      rintro e w0 ⟨rfl, b0⟩
      go_wp2_with fail
      refine (CK1.out _ b0).mono ?_
      rintro e w1 ⟨rfl, b1⟩
      have b1 := b0.trans (b1.mono b0.size)
      clear b0
      go_wp2_with fail
      refine (CM.out _).mono ?_
      rintro e w2 ⟨rfl, b2⟩
      have b2 := b1.trans (b2.mono b1.size)
      clear b1
      go_wp2_with fail
      have hb1 := b2.trans ((below_bytes w2 5 s).mono b2.size)
      have hr1 := row_new w2 5 s
      have hB : w.heap.size ≤ w2.heap.size := b2.size
      generalize grownCap w2 s.size 0 5 = cap
      generalize bytesWorld w2 5 s = wB at *
      generalize w2.heap.size = B at *
      clear hconv b2
      go_loopw [23] (fun i w' => ∃ (k : Nat) (m : List UInt8), Below w.heap.size w w' ∧ i = .int .i64 k ∧ k ≤ s.size ∧ ByteRow w' B 0 m ∧ Hid (m.length = s.size ∧ m.map low = s.data.toList.map low)) (fun i _ => s.size - (intOf i).toNat)
      case atStart => exact ⟨0, s.data.toList, hb1, rfl, Nat.zero_le _, hr1, HL.out, rfl⟩
      case round =>
        obtain ⟨k, m, hb, rfl, hle, hrow, hml⟩ := hrel
        have HR := Lib.hid hrow
        clear hrow hr1
        by_cases hk : k < s.size
        · have hc := (HR.out k (by rw [hml.out.1]; exact hk)).1
          have hfz := (HR.out k (by rw [hml.out.1]; exact hk)).2
          rw [Nat.zero_add] at hc hfz
          have hx := UInt8.toNat_lt (m.getD k 0)
          have HW : Hid (∀ x : UInt8, low x = low (m.getD k 0) → ByteRow (wr.setCell ⟨B, k, none⟩ (.int .u8 x.toNat)) B 0 (m.set k x) ∧ (m.set k x).length = s.size ∧ (m.set k x).map low = s.data.toList.map low) := by
            intro x hxl
            have := row_set HR.out (i := k) x
            rw [Nat.zero_add] at this
            exact ⟨this, by rw [List.length_set]; exact hml.out.1, by rw [set_low m k (by rw [hml.out.1]; exact hk) x hxl]; exact hml.out.2⟩
          generalize m.getD k 0 = x at *
          by_cases hkt : k < ts.length
          · first
              | (exfalso; omega)
              | (have hcell := hb.cell (p := ⟨tb, toff + k, none⟩) htb
                 rw [HTC.out k hkt] at hcell
                 generalize ts.getD k false = tv at *
                 cases tv
                 · go_wp2
                   all_goals
                     go_roundw
                     case rel => exact ⟨k + 1, m, hb, by go_num, by omega, HR.out, hml⟩
                     case measure => simp [intOf]; omega
                 · go_wp2
                   all_goals
                     go_roundw
                     case rel =>
                       first
                         | exact ⟨k + 1, m, hb, by go_num, by omega, HR.out, hml⟩
                         | (rw [xor32 x]
                            have hy := HW.out (x ^^^ 32) (flip_low x (by omega))
                            exact ⟨k + 1, _, hb.setCell (by simp; omega) _, by go_num, by omega, hy.1, hy.2⟩)
                     case measure => simp [intOf]; omega)
          · go_wp2
            all_goals
              go_roundw
              case rel => exact ⟨k + 1, m, hb, by go_num, by omega, HR.out, hml⟩
              case measure => simp [intOf]; omega
        · have hkk : k = s.size := by omega
          have hrow := HR.out
          have hcv := run_bytes_str (P := Tryd.prog) (c := cap) 32 9 5 hrow Tryd.underlying32 Tryd.underlying5 Tryd.underlying9
          rw [hml.out.1] at hcv
          have CK3 : Hid (∀ w1, Below w.heap.size w w1 → _) := fun w1 hw => CK.out (str m) w1 (by rw [str_size, hml.out.1]; exact hs) hw
          rw [str_toList, HE.out m hml.out.2] at CK3
          have HCV : Hid (∀ w1, Below wr.heap.size wr w1 → (convert 32 9 (.slice (some ⟨B, 0, none⟩) s.size cap)).run Tryd.prog w1 = .ok (.string (str m)) w1) := by
            intro w1 hw1
            have hB2 : ByteRow w1 B 0 m := row_later HR.out hw1
            have := run_bytes_str (P := Tryd.prog) (c := cap) 32 9 5 hB2 Tryd.underlying32 Tryd.underlying5 Tryd.underlying9
            rwa [hml.out.1] at this
          clear hrow hcv
          go_wp2_with fail
          refine (CM2.out _).mono ?_
          rintro e w3 ⟨rfl, b3⟩
          have b4 := hb.trans (b3.mono hb.size)
          go_wp2_with fail
          refine (CK2.out _ b4).mono ?_
          rintro e w4 ⟨rfl, b5⟩
          have b6 := b4.trans (b5.mono b4.size)
          have hcv := HCV.out w4 (b3.trans (b5.mono b3.size))
          go_wp2_with fail
          refine (CK3.out _ b6).mono ?_
          rintro e w5 ⟨rfl, b7⟩
          have b8 := b6.trans (b7.mono b6.size)
          go_wp2_with fail
          go_ret
          exact ⟨rfl, b8⟩
  · have hm : may s.data.toList = false := by simpa using hm
    have HF : Hid (key s.data.toList = []) := by show _ = _; unfold key; rw [hm]; rfl
    have CK1 : Hid (∀ w1, Below w.heap.size w w1 → _) := fun w1 hw => CK.out s w1 hs hw
    rw [HF.out] at CK1
    rw [hm] at CM
    clear hm HK HE CK
    go_enter Tryd.func7, Tryd.ntmps7
    go_wp2_with fail
    refine C0.out.mono ?_
    rintro e w0 ⟨rfl, b0⟩
    go_wp2_with fail
    refine (CK1.out _ b0).mono ?_
    rintro e w1 ⟨rfl, b1⟩
    have b1 := b0.trans (b1.mono b0.size)
    clear b0
    go_wp2_with fail
    refine (CM.out _).mono ?_
    rintro e w2 ⟨rfl, b2⟩
    have b2 := b1.trans (b2.mono b1.size)
    clear b1
    go_wp2_with fail
    go_ret
    exact ⟨ret_bool (by rw [ByteArray.toList_eq]; rfl), b2⟩
end Go.Proofs.Lab
