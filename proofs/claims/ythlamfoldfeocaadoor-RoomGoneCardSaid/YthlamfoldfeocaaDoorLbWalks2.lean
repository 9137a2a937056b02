/- The walks of package label and of the reference's names that call the library: each function once. -/
import Derived.Test.YthlamfoldfeocaaDoorLbWalks
import Derived.Test.YthlamfoldfeocaaDoorShelf
import Derived.Shelf.GgClosure.Gives
namespace Go.Proofs.Lab
open Go.RowKit Go.Lib Go.Proofs.Mem
theorem ext_drop (s : ByteArray) (n : Nat) : s.extract n s.size = str (s.data.toList.drop n) := by
  apply ByteArray.ext
  apply Array.toList_inj.1
  rw [Lib.extract_to_end]; rfl
theorem decodeGo_at (s : ByteArray) (at' : Nat) (h : at' < s.size) : decodeGo (s.extract at' s.size) = Utf8.decode s at' := by
  rw [ext_drop, ← decodeL_drop]
  unfold decodeGo
  rw [if_neg (by rw [str_size, List.length_drop, ← Lib.size_eq]; omega)]
  rfl
/-- The two tables of unicode/utf8. -/
abbrev Tabs (w : World) : Prop := Utf8Tabs 0 1 w
theorem Dec_at (s : ByteArray) (at' : Nat) (w : World) (h : at' < s.size) (hT : Tabs w) :
    Calls Tryd.prog 63 #[.string (s.extract at' s.size)] w (fun e w' => e = .returned (.tuple #[.int .i32 (Utf8.decode s at').1, .int .i64 (Utf8.decode s at').2]) ∧ Below w.heap.size w w') := by
  have := Tryd.utf8_DecodeRuneInString (s.extract at' s.size) w hT
  rw [decodeGo_at s at' h] at this
  exact this
set_option maxHeartbeats 400000 in
theorem rRunes_any (s : ByteArray) (w : World) (hs : s.size < 9223372036854775807) (hT : Tabs w) :
    Calls Tryd.prog 62 #[.string s] w (fun e w' => e = .returned (.int .i64 (runes s.data.toList)) ∧ Below w.heap.size w w') := by
  have HR : Hid ((rn s.data.toList).length ≤ s.size) := by have := rn_length_le s.data.toList; rw [Lib.size_eq]; exact this
  have hT' := Lib.hid hT
  clear hT
  go_enter Tryd.func62, Tryd.ntmps62
  go_wp2
  go_loopw [3, 4] (fun n a w' => ∃ k : Nat, Below w.heap.size w w' ∧ n = .int .i64 k ∧ a = .int .i64 (cutAt s.data.toList k) ∧ k ≤ (rn s.data.toList).length ∧ Hid (((rn s.data.toList).take k).all good = true)) (fun _ a _ => s.size - (intOf a).toNat)
  case atStart => exact ⟨0, Below.refl _ _, rfl, rfl, Nat.zero_le _, rfl⟩
  case round =>
    obtain ⟨k, hb, rfl, rfl, hle, hall⟩ := hrel
    by_cases hp : cutAt s.data.toList k < s.size
    · have hwd := Lib.decode_width_pos s _ hp
      obtain ⟨h1, h2, h3, h4⟩ := pos_facts s k hp
      have hw2 : cutAt s.data.toList k + (Utf8.decode s (cutAt s.data.toList k)).2 ≤ s.size := by
        have := cutAt_le s.data.toList (k + 1); rw [← Lib.size_eq] at this; omega
      have H2 := Lib.hid h2
      have H4 := Lib.hid h4
      clear h2 h4
      have hks : k < s.size := by omega
      have CD := Lib.hid (Dec_at s (cutAt s.data.toList k) wr hp (Utf8Tabs_below hT'.out hb))
      by_cases hg : good (Utf8.decode s (cutAt s.data.toList k)) = true
      · generalize hd : Utf8.decode s (cutAt s.data.toList k) = d at *
        have HD := Lib.hid hd
        clear hd
        have hG : ¬ (d.1 = 65533 ∧ d.2 = 1) := by unfold good at hg; intro h; simp [h] at hg
        have HG := Lib.hid hg
        clear hg
        obtain ⟨r, wd⟩ := d
        dsimp only at *
        by_cases g1 : r = 65533
        · have g2 : ((wd : Int) == 1) = false := by rw [beq_eq_false_iff_ne]; omega
          subst g1
          clear hG
          go_wp2_with (go_at_call 63; refine CD.out.mono ?_; rintro e w' ⟨rfl, hb2⟩)
          go_roundw
          case rel => exact ⟨k + 1, hb.trans (hb2.mono hb.size), by go_num, by rw [H2.out]; go_num, by omega, all_snoc hall.out H4.out HG.out⟩
          case measure => simp [intOf]; omega
        · have g2 : ((r : Int) == 65533) = false := by rw [beq_eq_false_iff_ne]; omega
          clear hG g1
          go_wp2_with (go_at_call 63; refine CD.out.mono ?_; rintro e w' ⟨rfl, hb2⟩)
          go_roundw
          case rel => exact ⟨k + 1, hb.trans (hb2.mono hb.size), by go_num, by rw [H2.out]; go_num, by omega, all_snoc hall.out H4.out HG.out⟩
          case measure => simp [intOf]; omega
      · have hg : good (Utf8.decode s (cutAt s.data.toList k)) = false := by simpa using hg
        have HF : Hid (runes s.data.toList = -1) := by
          show _ = _
          unfold runes; rw [all_bad H4.out hg]; rfl
        have hd := decode_bad hg
        rw [hd] at CD
        clear hg hd
        go_wp2_with (go_at_call 63; refine CD.out.mono ?_; rintro e w' ⟨rfl, hb2⟩)
        go_ret
        exact ⟨ret_int HF.out.symm, hb.trans (hb2.mono hb.size)⟩
    · have hend := pos_end s k hp
      have HF : Hid (runes s.data.toList = (k : Int)) := by
        show _ = _
        have e : (rn s.data.toList).length = k := by omega
        have h := hall.out
        rw [← e, List.take_length] at h
        unfold runes; rw [if_pos h, e]
      go_wp2
      go_ret
      exact ⟨ret_int HF.out.symm, hb⟩
set_option maxHeartbeats 400000 in
theorem rMay_any (s : ByteArray) (w : World) (hs : s.size < 9223372036854775807) (hT : Tabs w) :
    Calls Tryd.prog 46 #[.string s] w (fun e w' => e = .returned (.bool (may s.data.toList)) ∧ Below w.heap.size w w') := by
  have hT' := Lib.hid hT
  have HC : Hid (may s.data.toList = ((rn s.data.toList).all (fun p => okR p.1) && decide (1 ≤ (rn s.data.toList).length) && decide ((rn s.data.toList).length ≤ 8))) := rfl
  have HU : Hid (runes s.data.toList = if (rn s.data.toList).all good then ((rn s.data.toList).length : Int) else -1) := rfl
  have CR := Lib.hid (rRunes_any s w hs hT)
  clear hT
  by_cases hr : 1 ≤ runes s.data.toList ∧ runes s.data.toList ≤ 8
  · obtain ⟨hr1, hr2⟩ := hr
    have HL : Hid (((rn s.data.toList).length : Int) = runes s.data.toList) := by
      have := HU.out
      split at this
      · exact this.symm
      · omega
    have hlen : 1 ≤ (rn s.data.toList).length ∧ (rn s.data.toList).length ≤ 8 := by have := HL.out; omega
    have HC2 : Hid (may s.data.toList = (rn s.data.toList).all (fun p => okR p.1)) := by
      show _ = _
      rw [HC.out]; simp [hlen]
    generalize runes s.data.toList = q at *
    go_enter Tryd.func46, Tryd.ntmps46
    go_wp2_with (go_at_call 62; refine CR.out.mono ?_; rintro e w1 ⟨rfl, hb1⟩)
    go_loopw [4] (fun a w' => ∃ k : Nat, Below w.heap.size w w' ∧ a = .int .i64 (cutAt s.data.toList k) ∧ k ≤ (rn s.data.toList).length ∧ Hid (((rn s.data.toList).take k).all (fun p => okR p.1) = true)) (fun a _ => s.size - (intOf a).toNat)
    case atStart => exact ⟨0, hb1, rfl, Nat.zero_le _, rfl⟩
    case round =>
      obtain ⟨k, hb, rfl, hle, hall⟩ := hrel
      by_cases hp : cutAt s.data.toList k < s.size
      · have hwd := Lib.decode_width_pos s _ hp
        obtain ⟨h1, h2, h3, h4⟩ := pos_facts s k hp
        have hw2 : cutAt s.data.toList k + (Utf8.decode s (cutAt s.data.toList k)).2 ≤ s.size := by
          have := cutAt_le s.data.toList (k + 1); rw [← Lib.size_eq] at this; omega
        have hr0 : (Utf8.decode s (cutAt s.data.toList k)).1 ≤ 1114111 := by rw [← decodeL_drop]; exact decodeL_rune _
        have H2 := Lib.hid h2
        have H4 := Lib.hid h4
        clear h2 h4
        have CD := Lib.hid (Dec_at s (cutAt s.data.toList k) wr hp (Utf8Tabs_below hT'.out hb))
        generalize hd : Utf8.decode s (cutAt s.data.toList k) = d at *
        have HD := Lib.hid hd
        clear hd
        obtain ⟨r, wd⟩ := d
        dsimp only at *
        have CO : Hid (∀ w, Calls Tryd.prog 64 #[.int .i32 r] w (fun e w' => e = .returned (.bool (okR r)) ∧ w = w')) := by
          intro w; have := Rune_any (r : Int) w (by omega) (by omega); rwa [Int.toNat_natCast] at this
        by_cases ho : okR r = true
        · rw [ho] at CO
          have HO := Lib.hid ho
          clear ho
          go_wp2_with (first | (go_at_call 63; refine CD.out.mono ?_; rintro e w' ⟨rfl, hb2⟩) | (go_at_call 64; refine (CO.out _).mono ?_; rintro e w' ⟨rfl, rfl⟩))
          go_roundw
          case rel => exact ⟨k + 1, hb.trans (hb2.mono hb.size), by rw [H2.out]; go_num, by omega, all_snoc hall.out H4.out HO.out⟩
          case measure => simp [intOf]; omega
        · have ho : okR r = false := by simpa using ho
          rw [ho] at CO
          have HF : Hid (may s.data.toList = false) := by
            show _ = _
            rw [HC2.out]; exact all_bad H4.out ho
          clear ho
          go_wp2_with (first | (go_at_call 63; refine CD.out.mono ?_; rintro e w' ⟨rfl, hb2⟩) | (go_at_call 64; refine (CO.out _).mono ?_; rintro e w' ⟨rfl, rfl⟩))
          go_ret
          exact ⟨ret_bool HF.out.symm, hb.trans (hb2.mono hb.size)⟩
      · have hend := pos_end s k hp
        have HF : Hid (may s.data.toList = true) := by
          show _ = _
          have e : (rn s.data.toList).length = k := by omega
          have h := hall.out
          rw [← e, List.take_length] at h
          rw [HC2.out, h]
        go_wp2
        go_ret
        exact ⟨ret_bool HF.out.symm, hb⟩
  · have HF : Hid (may s.data.toList = false) := by
      show _ = _
      rw [Bool.eq_false_iff]; intro hm
      have hv := may_valid hm
      have hu := HU.out
      rw [if_pos hv] at hu
      unfold may at hm
      simp at hm
      omega
    generalize runes s.data.toList = q at *
    by_cases hq : q < 1
    · go_enter Tryd.func46, Tryd.ntmps46
      go_wp2_with (go_at_call 62; refine CR.out.mono ?_; rintro e w1 ⟨rfl, hb1⟩)
      go_ret
      exact ⟨ret_bool HF.out.symm, hb1⟩
    · have hq2 : 8 < q := by omega
      clear hr
      go_enter Tryd.func46, Tryd.ntmps46
      go_wp2_with (go_at_call 62; refine CR.out.mono ?_; rintro e w1 ⟨rfl, hb1⟩)
      go_ret
      exact ⟨ret_bool HF.out.symm, hb1⟩
/-! Keys -/
theorem Key1_any (r : Int) (w : World) (h0 : 0 ≤ r) (h1 : r ≤ 1114111) :
    Calls Tryd.prog 49 #[.int .i32 r] w (fun e w' => e = .returned (.int .i32 (lowF r)) ∧ w = w') := by
  have HC : Hid (lowF r = if 65 ≤ r ∧ r ≤ 90 then r - 65 + 97 else r) := rfl
  by_cases b1 : 65 ≤ r
  · by_cases b2 : r ≤ 90
    · have HF : Hid (lowF r = r - 65 + 97) := by show _ = _; rw [HC.out, if_pos ⟨b1, b2⟩]
      go_enter Tryd.func49, Tryd.ntmps49
      go_wp2
      go_ret
      exact ⟨ret_int HF.out.symm, rfl⟩
    · have HF : Hid (lowF r = r) := by show _ = _; rw [HC.out, if_neg (by omega)]
      go_enter Tryd.func49, Tryd.ntmps49
      go_wp2
      go_ret
      exact ⟨ret_int HF.out.symm, rfl⟩
  · have HF : Hid (lowF r = r) := by show _ = _; rw [HC.out, if_neg (by omega)]
    go_enter Tryd.func49, Tryd.ntmps49
    go_wp2
    go_ret
    exact ⟨ret_int HF.out.symm, rfl⟩
theorem Key_any (s : ByteArray) (w : World) (hs : s.size < 9223372036854775807) (hT : Tabs w) :
    Calls Tryd.prog 28 #[.string s] w (fun e w' => e = .returned (.string (str (key s.data.toList))) ∧ Below w.heap.size w w') := by
  have hT' := Lib.hid hT
  have CM := Lib.hid (May_any s w hs)
  have HK : Hid (key s.data.toList = if may s.data.toList then s.data.toList.map low else []) := rfl
  clear hT
  by_cases hm : may s.data.toList = true
  · have HF : Hid (key s.data.toList = mapD lowF s.data.toList) := by
      show _ = _
      rw [HK.out, if_pos hm, mapD_low _ (by rw [validD_rn]; exact may_valid hm)]
    have hs2 : s.size < 35184372088832 := by have := may_len hm; rw [← Lib.size_eq] at this; omega
    rw [hm] at CM
    clear hm
    have CF : ∀ w1, Below w.heap.size w w1 → Calls Tryd.prog 48 #[.func (.func 49) #[] #[], .string s] w1 fun e w' => e = .returned (.string ⟨(Lib.mapD lowF s.data.toList).toArray⟩) ∧ Below w1.heap.size w1 w' := by
      intro w1 hb
      refine Tryd.strings_Map_runes 49 #[] ?_ lowF s w1 hs2 ?_ ?_ (Utf8Tabs_below hT'.out hb)
      · exact fun args w => by kernel_rfl
      · intro W x hx _
        exact (Key1_any (x : Int) W (by omega) (by omega)).mono fun e w' h => ⟨h.1, 0, h.2.symm⟩
      · intro x hx
        unfold lowF; split <;> omega
    have CF := Lib.hid CF
    go_enter Tryd.func28, Tryd.ntmps28
    go_wp2_with (first | (go_at_call 47; refine CM.out.mono ?_; rintro e w1 ⟨rfl, hb⟩) | (go_at_call 48; refine (CF.out _ (by assumption)).mono ?_; rintro e w2 ⟨rfl, hb2⟩))
    go_ret
    refine ⟨?_, hb.trans (hb2.mono hb.size)⟩
    rw [HF.out]; rfl
  · have hm : may s.data.toList = false := by simpa using hm
    have HF : Hid (key s.data.toList = []) := by show _ = _; rw [HK.out, hm]; rfl
    rw [hm] at CM
    clear hm
    go_enter Tryd.func28, Tryd.ntmps28
    go_wp2_with (first | (go_at_call 47; refine CM.out.mono ?_; rintro e w1 ⟨rfl, hb⟩))
    go_ret
    exact ⟨ret_str (by rw [HF.out]; rfl), hb⟩

theorem mapped_at (l : List UInt8) (k : Nat) (h : k < l.length) : ((l.take k).map low ++ l.drop k).getD k 0 = l.getD k 0 := by
  rw [List.getD_eq_getElem?_getD, List.getElem?_append_right (by simp; omega), List.length_map, List.length_take, List.getElem?_drop, List.getD_eq_getElem?_getD]
  congr 2; omega
theorem mapped_set (l : List UInt8) (k : Nat) (h : k < l.length) : ((l.take k).map low ++ l.drop k).set k (low (l.getD k 0)) = (l.take (k + 1)).map low ++ l.drop (k + 1) := by
  rw [List.set_append_right _ _ (by simp; omega)]
  rw [List.take_add_one, List.getElem?_eq_getElem h]
  simp only [List.length_map, List.length_take, Option.toList, List.map_append, List.map_cons, List.map_nil, List.append_assoc]
  congr 1
  rw [show k - min k l.length = 0 by omega, List.drop_eq_getElem_cons h, List.set_cons_zero, List.getD_eq_getElem?_getD, List.getElem?_eq_getElem h]
  rfl
theorem low_up (b : UInt8) (h1 : 65 ≤ b.toNat) (h2 : b.toNat ≤ 90) : (low b).toNat = b.toNat + 32 := by rw [low_toNat]; unfold lowN; rw [if_pos ⟨h1, h2⟩]
theorem low_id (b : UInt8) (h : ¬ (65 ≤ b.toNat ∧ b.toNat ≤ 90)) : low b = b := by unfold low; rw [if_neg h]
theorem setid (l : List UInt8) (k : Nat) (h : k < l.length) (x : UInt8) (hx : x = l.getD k 0) : l.set k x = l := by
  subst hx; rw [List.getD_eq_getElem?_getD, List.getElem?_eq_getElem h]; exact List.set_getElem_self h
set_option maxHeartbeats 400000 in
theorem rKey_any (s : ByteArray) (w : World) (hs : s.size < 9223372036854775807) (hT : Tabs w) :
    Calls Tryd.prog 27 #[.string s] w (fun e w' => e = .returned (.string (str (key s.data.toList))) ∧ Below w.heap.size w w') := by
  have CM := Lib.hid (rMay_any s w hs hT)
  have HK : Hid (key s.data.toList = if may s.data.toList then s.data.toList.map low else []) := rfl
  have HL : Hid (s.data.toList.length = s.size) := (Lib.size_eq s).symm
  clear hT
  by_cases hm : may s.data.toList = true
  · have HF : Hid (key s.data.toList = s.data.toList.map low) := by show _ = _; rw [HK.out, if_pos hm]
    rw [hm] at CM
    clear hm
    have hconv : ∀ w, (convert 9 38 (.string s)).run Tryd.prog w = _ := fun w => Go.Lib.run_convert_string_bytes w 9 38 5 s Tryd.underlying9 Tryd.underlying38 Tryd.underlying5
    go_enter Tryd.func27, Tryd.ntmps27
    go_wp2_with (first | (go_at_call 46; refine CM.out.mono ?_; rintro e w1 ⟨rfl, hb⟩))
    have hb1 := hb.trans ((below_bytes w1 5 s).mono hb.size)
    have hr1 := row_new w1 5 s
    have hB : w.heap.size ≤ w1.heap.size := hb.size
    generalize grownCap w1 s.size 0 5 = cap
    generalize bytesWorld w1 5 s = wB at *
    generalize w1.heap.size = B at *
    clear hconv hb
    go_loopw [13] (fun i w' => ∃ k : Nat, Below w.heap.size w w' ∧ i = .int .i64 k ∧ k ≤ s.size ∧ ByteRow w' B 0 ((s.data.toList.take k).map low ++ s.data.toList.drop k)) (fun i _ => s.size - (intOf i).toNat)
    case atStart => exact ⟨0, hb1, rfl, Nat.zero_le _, by simpa using hr1⟩
    case round =>
      obtain ⟨k, hb, rfl, hle, hrow⟩ := hrel
      have HR := Lib.hid hrow
      clear hrow hr1
      have hML : ((s.data.toList.take k).map low ++ s.data.toList.drop k).length = s.size := by
        simp only [List.length_append, List.length_map, List.length_take, List.length_drop, HL.out]; omega
      have HML := Lib.hid hML
      clear hML
      by_cases hk : k < s.size
      · have hc := (HR.out k (by rw [HML.out]; exact hk)).1
        have hfz := (HR.out k (by rw [HML.out]; exact hk)).2
        rw [Nat.zero_add] at hc hfz
        rw [mapped_at _ _ (by rw [HL.out]; exact hk)] at hc
        have HS := Lib.hid (mapped_set s.data.toList k (by rw [HL.out]; exact hk))
        have hx := UInt8.toNat_lt (s.data.toList.getD k 0)
        have HW : ∀ x : UInt8, ByteRow (wr.setCell ⟨B, k, none⟩ (.int .u8 x.toNat)) B 0 (((s.data.toList.take k).map low ++ s.data.toList.drop k).set k x) := by
          intro x
          have := row_set HR.out (i := k) x
          rwa [Nat.zero_add] at this
        have HW := Lib.hid HW
        generalize hxx : s.data.toList.getD k 0 = x at *
        have HX := Lib.hid hxx
        clear hxx
        have HU := Lib.hid (low_up x)
        have HI := Lib.hid (low_id x)
        by_cases c1 : 65 ≤ x.toNat
        · by_cases c2 : x.toNat ≤ 90
          · have e : Hid (Value.int .u8 (x.toNat + 32 : Nat) = .int .u8 (low x).toNat) := by show _ = _; rw [HU.out c1 c2]
            go_wp2
            go_roundw
            case rel =>
              refine ⟨k + 1, hb.setCell (by simp; omega) _, by go_num, by omega, ?_⟩
              have := HW.out (low x)
              rw [HS.out, HU.out c1 c2] at this
              simpa using this
            case measure => simp [intOf]; omega
          · have e := HI.out (by omega)
            have E := Lib.hid e
            clear e
            go_wp2
            go_roundw
            case rel =>
              refine ⟨k + 1, hb, by go_num, by omega, ?_⟩
              rw [← HS.out, E.out, setid _ _ (by rw [HML.out]; exact hk) _ (by rw [mapped_at _ _ (by rw [HL.out]; exact hk), HX.out])]
              exact HR.out
            case measure => simp [intOf]; omega
        · have e := HI.out (by omega)
          have E := Lib.hid e
          clear e
          go_wp2
          go_roundw
          case rel =>
            refine ⟨k + 1, hb, by go_num, by omega, ?_⟩
            rw [← HS.out, E.out, setid _ _ (by rw [HML.out]; exact hk) _ (by rw [mapped_at _ _ (by rw [HL.out]; exact hk), HX.out])]
            exact HR.out
          case measure => simp [intOf]; omega
      · have hk : k = s.size := by omega
        have hrow := HR.out
        subst hk
        rw [← HL.out, List.take_length, List.drop_length, List.append_nil] at hrow
        have hcv := run_bytes_str (P := Tryd.prog) (c := cap) 38 9 5 hrow Tryd.underlying38 Tryd.underlying5 Tryd.underlying9
        rw [List.length_map, HL.out] at hcv
        clear hrow HR
        go_wp2
        go_ret
        exact ⟨ret_str (by rw [HF.out]), hb⟩
  · have hm : may s.data.toList = false := by simpa using hm
    have HF : Hid (key s.data.toList = []) := by show _ = _; rw [HK.out, hm]; rfl
    rw [hm] at CM
    clear hm
    go_enter Tryd.func27, Tryd.ntmps27
    go_wp2_with (first | (go_at_call 46; refine CM.out.mono ?_; rintro e w1 ⟨rfl, hb⟩))
    go_ret
    exact ⟨ret_str (by rw [HF.out]; rfl), hb⟩
end Go.Proofs.Lab
