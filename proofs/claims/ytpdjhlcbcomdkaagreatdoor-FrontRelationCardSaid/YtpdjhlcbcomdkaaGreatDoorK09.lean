/- Several texts in one: The walks of package label and of the reference's names that call the library: each function once. The walks of package room, each function once: joins. The walks of package room, each function once: leave. The walks of package room, each function once: mute. -/
import Derived.Test.YtpdjhlcbcomdkaaGreatDoorShelf
import Derived.Shelf.GgClosure.Gives
import Derived.Deep.RegionHeld3
import Derived.Test.YtpdjhlcbcomdkaaGreatDoorK08
namespace Go.Proofs.Lab
open Go.RowKit Go.Lib Go.Proofs.Mem
theorem ext_drop (s : ByteArray) (n : Nat) : s.extract n s.size = str (s.data.toList.drop n) := by
  apply ByteArray.ext
  apply Array.toList_inj.1
  rw [Lib.extract_to_end]; rfl
theorem decodeGo_at (s : ByteArray) (at' : Nat) (h : at' < s.size) : decodeGo (s.extract at' s.size) = Utf8.decode s at' := by
  rw [ext_drop, ← decodeL_drop]
  unfold decodeGo
  rw [if_neg (by rw [str_size, List.length_drop, ← Lib.size_eq]; omega)]
  rfl
/-- The two tables of unicode/utf8. -/
abbrev Tabs (w : World) : Prop := Utf8Tabs 0 1 w
theorem Dec_at (s : ByteArray) (at' : Nat) (w : World) (h : at' < s.size) (hT : Tabs w) :
    Calls Tryz.prog 149 #[.string (s.extract at' s.size)] w (fun e w' => e = .returned (.tuple #[.int .i32 (Utf8.decode s at').1, .int .i64 (Utf8.decode s at').2]) ∧ Below w.heap.size w w') := by
  have := Tryz.utf8_DecodeRuneInString (s.extract at' s.size) w hT
  rw [decodeGo_at s at' h] at this
  exact this
set_option maxHeartbeats 400000 in
theorem rRunes_any (s : ByteArray) (w : World) (hs : s.size < 9223372036854775807) (hT : Tabs w) :
    Calls Tryz.prog 148 #[.string s] w (fun e w' => e = .returned (.int .i64 (runes s.data.toList)) ∧ Below w.heap.size w w') := by
  have HR : Hid ((rn s.data.toList).length ≤ s.size) := by have := rn_length_le s.data.toList; rw [Lib.size_eq]; exact this
  have hT' := Lib.hid hT
  clear hT
  go_enter Tryz.func148, Tryz.ntmps148
  go_wp2
  go_loopw [3, 4] (fun n a w' => ∃ k : Nat, Below w.heap.size w w' ∧ n = .int .i64 k ∧ a = .int .i64 (cutAt s.data.toList k) ∧ k ≤ (rn s.data.toList).length ∧ Hid (((rn s.data.toList).take k).all good = true)) (fun _ a _ => s.size - (intOf a).toNat)
  case atStart => exact ⟨0, Below.refl _ _, rfl, rfl, Nat.zero_le _, rfl⟩
  case round =>
    obtain ⟨k, hb, rfl, rfl, hle, hall⟩ := hrel
    by_cases hp : cutAt s.data.toList k < s.size
    · have hwd := Lib.decode_width_pos s _ hp
      obtain ⟨h1, h2, h3, h4⟩ := pos_facts s k hp
      have hw2 : cutAt s.data.toList k + (Utf8.decode s (cutAt s.data.toList k)).2 ≤ s.size := by
        have := cutAt_le s.data.toList (k + 1); rw [← Lib.size_eq] at this; omega
      have H2 := Lib.hid h2
      have H4 := Lib.hid h4
      clear h2 h4
      have hks : k < s.size := by omega
      have CD := Lib.hid (Dec_at s (cutAt s.data.toList k) wr hp (Utf8Tabs_below hT'.out hb))
      by_cases hg : good (Utf8.decode s (cutAt s.data.toList k)) = true
      · generalize hd : Utf8.decode s (cutAt s.data.toList k) = d at *
        have HD := Lib.hid hd
        clear hd
        have hG : ¬ (d.1 = 65533 ∧ d.2 = 1) := by unfold good at hg; intro h; simp [h] at hg
        have HG := Lib.hid hg
        clear hg
        obtain ⟨r, wd⟩ := d
        dsimp only at *
        by_cases g1 : r = 65533
        · have g2 : ((wd : Int) == 1) = false := by rw [beq_eq_false_iff_ne]; omega
          subst g1
          clear hG
          go_wp2_with (go_at_call 149; refine CD.out.mono ?_; rintro e w' ⟨rfl, hb2⟩)
          go_roundw
          case rel => exact ⟨k + 1, hb.trans (hb2.mono hb.size), by go_num, by rw [H2.out]; go_num, by omega, all_snoc hall.out H4.out HG.out⟩
          case measure => simp [intOf]; omega
        · have g2 : ((r : Int) == 65533) = false := by rw [beq_eq_false_iff_ne]; omega
          clear hG g1
          go_wp2_with (go_at_call 149; refine CD.out.mono ?_; rintro e w' ⟨rfl, hb2⟩)
          go_roundw
          case rel => exact ⟨k + 1, hb.trans (hb2.mono hb.size), by go_num, by rw [H2.out]; go_num, by omega, all_snoc hall.out H4.out HG.out⟩
          case measure => simp [intOf]; omega
      · have hg : good (Utf8.decode s (cutAt s.data.toList k)) = false := by simpa using hg
        have HF : Hid (runes s.data.toList = -1) := by
          show _ = _
          unfold runes; rw [all_bad H4.out hg]; rfl
        have hd := decode_bad hg
        rw [hd] at CD
        clear hg hd
        go_wp2_with (go_at_call 149; refine CD.out.mono ?_; rintro e w' ⟨rfl, hb2⟩)
        go_ret
        exact ⟨ret_int HF.out.symm, hb.trans (hb2.mono hb.size)⟩
    · have hend := pos_end s k hp
      have HF : Hid (runes s.data.toList = (k : Int)) := by
        show _ = _
        have e : (rn s.data.toList).length = k := by omega
        have h := hall.out
        rw [← e, List.take_length] at h
        unfold runes; rw [if_pos h, e]
      go_wp2
      go_ret
      exact ⟨ret_int HF.out.symm, hb⟩
set_option maxHeartbeats 400000 in
theorem rMay_any (s : ByteArray) (w : World) (hs : s.size < 9223372036854775807) (hT : Tabs w) :
    Calls Tryz.prog 120 #[.string s] w (fun e w' => e = .returned (.bool (may s.data.toList)) ∧ Below w.heap.size w w') := by
  have hT' := Lib.hid hT
  have HC : Hid (may s.data.toList = ((rn s.data.toList).all (fun p => okR p.1) && decide (1 ≤ (rn s.data.toList).length) && decide ((rn s.data.toList).length ≤ 8))) := rfl
  have HU : Hid (runes s.data.toList = if (rn s.data.toList).all good then ((rn s.data.toList).length : Int) else -1) := rfl
  have CR := Lib.hid (rRunes_any s w hs hT)
  clear hT
  by_cases hr : 1 ≤ runes s.data.toList ∧ runes s.data.toList ≤ 8
  · obtain ⟨hr1, hr2⟩ := hr
    have HL : Hid (((rn s.data.toList).length : Int) = runes s.data.toList) := by
      have := HU.out
      split at this
      · exact this.symm
      · omega
    have hlen : 1 ≤ (rn s.data.toList).length ∧ (rn s.data.toList).length ≤ 8 := by have := HL.out; omega
    have HC2 : Hid (may s.data.toList = (rn s.data.toList).all (fun p => okR p.1)) := by
      show _ = _
      rw [HC.out]; simp [hlen]
    generalize runes s.data.toList = q at *
    go_enter Tryz.func120, Tryz.ntmps120
    go_wp2_with (go_at_call 148; refine CR.out.mono ?_; rintro e w1 ⟨rfl, hb1⟩)
    go_loopw [4] (fun a w' => ∃ k : Nat, Below w.heap.size w w' ∧ a = .int .i64 (cutAt s.data.toList k) ∧ k ≤ (rn s.data.toList).length ∧ Hid (((rn s.data.toList).take k).all (fun p => okR p.1) = true)) (fun a _ => s.size - (intOf a).toNat)
    case atStart => exact ⟨0, hb1, rfl, Nat.zero_le _, rfl⟩
    case round =>
      obtain ⟨k, hb, rfl, hle, hall⟩ := hrel
      by_cases hp : cutAt s.data.toList k < s.size
      · have hwd := Lib.decode_width_pos s _ hp
        obtain ⟨h1, h2, h3, h4⟩ := pos_facts s k hp
        have hw2 : cutAt s.data.toList k + (Utf8.decode s (cutAt s.data.toList k)).2 ≤ s.size := by
          have := cutAt_le s.data.toList (k + 1); rw [← Lib.size_eq] at this; omega
        have hr0 : (Utf8.decode s (cutAt s.data.toList k)).1 ≤ 1114111 := by rw [← decodeL_drop]; exact decodeL_rune _
        have H2 := Lib.hid h2
        have H4 := Lib.hid h4
        clear h2 h4
        have CD := Lib.hid (Dec_at s (cutAt s.data.toList k) wr hp (Utf8Tabs_below hT'.out hb))
        generalize hd : Utf8.decode s (cutAt s.data.toList k) = d at *
        have HD := Lib.hid hd
        clear hd
        obtain ⟨r, wd⟩ := d
        dsimp only at *
        have CO : Hid (∀ w, Calls Tryz.prog 150 #[.int .i32 r] w (fun e w' => e = .returned (.bool (okR r)) ∧ w = w')) := by
          intro w; have := Rune_any (r : Int) w (by omega) (by omega); rwa [Int.toNat_natCast] at this
        by_cases ho : okR r = true
        · rw [ho] at CO
          have HO := Lib.hid ho
          clear ho
          go_wp2_with (first | (go_at_call 149; refine CD.out.mono ?_; rintro e w' ⟨rfl, hb2⟩) | (go_at_call 150; refine (CO.out _).mono ?_; rintro e w' ⟨rfl, rfl⟩))
          go_roundw
          case rel => exact ⟨k + 1, hb.trans (hb2.mono hb.size), by rw [H2.out]; go_num, by omega, all_snoc hall.out H4.out HO.out⟩
          case measure => simp [intOf]; omega
        · have ho : okR r = false := by simpa using ho
          rw [ho] at CO
          have HF : Hid (may s.data.toList = false) := by
            show _ = _
            rw [HC2.out]; exact all_bad H4.out ho
          clear ho
          go_wp2_with (first | (go_at_call 149; refine CD.out.mono ?_; rintro e w' ⟨rfl, hb2⟩) | (go_at_call 150; refine (CO.out _).mono ?_; rintro e w' ⟨rfl, rfl⟩))
          go_ret
          exact ⟨ret_bool HF.out.symm, hb.trans (hb2.mono hb.size)⟩
      · have hend := pos_end s k hp
        have HF : Hid (may s.data.toList = true) := by
          show _ = _
          have e : (rn s.data.toList).length = k := by omega
          have h := hall.out
          rw [← e, List.take_length] at h
          rw [HC2.out, h]
        go_wp2
        go_ret
        exact ⟨ret_bool HF.out.symm, hb⟩
  · have HF : Hid (may s.data.toList = false) := by
      show _ = _
      rw [Bool.eq_false_iff]; intro hm
      have hv := may_valid hm
      have hu := HU.out
      rw [if_pos hv] at hu
      unfold may at hm
      simp at hm
      omega
    generalize runes s.data.toList = q at *
    by_cases hq : q < 1
    · go_enter Tryz.func120, Tryz.ntmps120
      go_wp2_with (go_at_call 148; refine CR.out.mono ?_; rintro e w1 ⟨rfl, hb1⟩)
      go_ret
      exact ⟨ret_bool HF.out.symm, hb1⟩
    · have hq2 : 8 < q := by omega
      clear hr
      go_enter Tryz.func120, Tryz.ntmps120
      go_wp2_with (go_at_call 148; refine CR.out.mono ?_; rintro e w1 ⟨rfl, hb1⟩)
      go_ret
      exact ⟨ret_bool HF.out.symm, hb1⟩
/-! Keys -/
theorem Key1_any (r : Int) (w : World) (h0 : 0 ≤ r) (h1 : r ≤ 1114111) :
    Calls Tryz.prog 178 #[.int .i32 r] w (fun e w' => e = .returned (.int .i32 (lowF r)) ∧ w = w') := by
  have HC : Hid (lowF r = if 65 ≤ r ∧ r ≤ 90 then r - 65 + 97 else r) := rfl
  by_cases b1 : 65 ≤ r
  · by_cases b2 : r ≤ 90
    · have HF : Hid (lowF r = r - 65 + 97) := by show _ = _; rw [HC.out, if_pos ⟨b1, b2⟩]
      go_enter Tryz.func178, Tryz.ntmps178
      go_wp2
      go_ret
      exact ⟨ret_int HF.out.symm, rfl⟩
    · have HF : Hid (lowF r = r) := by show _ = _; rw [HC.out, if_neg (by omega)]
      go_enter Tryz.func178, Tryz.ntmps178
      go_wp2
      go_ret
      exact ⟨ret_int HF.out.symm, rfl⟩
  · have HF : Hid (lowF r = r) := by show _ = _; rw [HC.out, if_neg (by omega)]
    go_enter Tryz.func178, Tryz.ntmps178
    go_wp2
    go_ret
    exact ⟨ret_int HF.out.symm, rfl⟩
set_option maxRecDepth 100000 in
theorem Key_any (s : ByteArray) (w : World) (hs : s.size < 9223372036854775807) (hT : Tabs w) :
    Calls Tryz.prog 162 #[.string s] w (fun e w' => e = .returned (.string (str (key s.data.toList))) ∧ Below w.heap.size w w') := by
  have hT' := Lib.hid hT
  have CM := Lib.hid (May_any s w hs)
  have HK : Hid (key s.data.toList = if may s.data.toList then s.data.toList.map low else []) := rfl
  clear hT
  by_cases hm : may s.data.toList = true
  · have HF : Hid (key s.data.toList = mapD lowF s.data.toList) := by
      show _ = _
      rw [HK.out, if_pos hm, mapD_low _ (by rw [validD_rn]; exact may_valid hm)]
    have hs2 : s.size < 35184372088832 := by have := may_len hm; rw [← Lib.size_eq] at this; omega
    rw [hm] at CM
    clear hm
    have CF : ∀ w1, Below w.heap.size w w1 → Calls Tryz.prog 177 #[.func (.func 178) #[] #[], .string s] w1 fun e w' => e = .returned (.string ⟨(Lib.mapD lowF s.data.toList).toArray⟩) ∧ Below w1.heap.size w1 w' := by
      intro w1 hb
      refine Tryz.strings_Map_runes 178 #[] ?_ lowF s w1 hs2 ?_ ?_ (Utf8Tabs_below hT'.out hb)
      · exact fun args w => by kernel_rfl
      · intro W x hx _
        exact (Key1_any (x : Int) W (by omega) (by omega)).mono fun e w' h => ⟨h.1, 0, h.2.symm⟩
      · intro x hx
        unfold lowF; split <;> omega
    have CF := Lib.hid CF
    go_enter Tryz.func162, Tryz.ntmps162
    go_wp2_with (first | (go_at_call 161; refine CM.out.mono ?_; rintro e w1 ⟨rfl, hb⟩) | (go_at_call 177; refine (CF.out _ (by assumption)).mono ?_; rintro e w2 ⟨rfl, hb2⟩))
    go_ret
    refine ⟨?_, hb.trans (hb2.mono hb.size)⟩
    rw [HF.out]; rfl
  · have hm : may s.data.toList = false := by simpa using hm
    have HF : Hid (key s.data.toList = []) := by show _ = _; rw [HK.out, hm]; rfl
    rw [hm] at CM
    clear hm
    go_enter Tryz.func162, Tryz.ntmps162
    go_wp2_with (first | (go_at_call 161; refine CM.out.mono ?_; rintro e w1 ⟨rfl, hb⟩))
    go_ret
    exact ⟨ret_str (by rw [HF.out]; rfl), hb⟩

theorem mapped_at (l : List UInt8) (k : Nat) (h : k < l.length) : ((l.take k).map low ++ l.drop k).getD k 0 = l.getD k 0 := by
  rw [List.getD_eq_getElem?_getD, List.getElem?_append_right (by simp; omega), List.length_map, List.length_take, List.getElem?_drop, List.getD_eq_getElem?_getD]
  congr 2; omega
theorem mapped_set (l : List UInt8) (k : Nat) (h : k < l.length) : ((l.take k).map low ++ l.drop k).set k (low (l.getD k 0)) = (l.take (k + 1)).map low ++ l.drop (k + 1) := by
  rw [List.set_append_right _ _ (by simp; omega)]
  rw [List.take_add_one, List.getElem?_eq_getElem h]
  simp only [List.length_map, List.length_take, Option.toList, List.map_append, List.map_cons, List.map_nil, List.append_assoc]
  congr 1
  rw [show k - min k l.length = 0 by omega, List.drop_eq_getElem_cons h, List.set_cons_zero, List.getD_eq_getElem?_getD, List.getElem?_eq_getElem h]
  rfl
theorem low_up (b : UInt8) (h1 : 65 ≤ b.toNat) (h2 : b.toNat ≤ 90) : (low b).toNat = b.toNat + 32 := by rw [low_toNat]; unfold lowN; rw [if_pos ⟨h1, h2⟩]
theorem low_id (b : UInt8) (h : ¬ (65 ≤ b.toNat ∧ b.toNat ≤ 90)) : low b = b := by unfold low; rw [if_neg h]
theorem setid (l : List UInt8) (k : Nat) (h : k < l.length) (x : UInt8) (hx : x = l.getD k 0) : l.set k x = l := by
  subst hx; rw [List.getD_eq_getElem?_getD, List.getElem?_eq_getElem h]; exact List.set_getElem_self h
set_option maxHeartbeats 400000 in
theorem rKey_any (s : ByteArray) (w : World) (hs : s.size < 9223372036854775807) (hT : Tabs w) :
    Calls Tryz.prog 121 #[.string s] w (fun e w' => e = .returned (.string (str (key s.data.toList))) ∧ Below w.heap.size w w') := by
  have CM := Lib.hid (rMay_any s w hs hT)
  have HK : Hid (key s.data.toList = if may s.data.toList then s.data.toList.map low else []) := rfl
  have HL : Hid (s.data.toList.length = s.size) := (Lib.size_eq s).symm
  clear hT
  by_cases hm : may s.data.toList = true
  · have HF : Hid (key s.data.toList = s.data.toList.map low) := by show _ = _; rw [HK.out, if_pos hm]
    rw [hm] at CM
    clear hm
    have hconv : ∀ w, (convert 9 30 (.string s)).run Tryz.prog w = _ := fun w => Go.Lib.run_convert_string_bytes w 9 30 5 s Tryz.underlying9 Tryz.underlying30 Tryz.underlying5
    go_enter Tryz.func121, Tryz.ntmps121
    go_wp2_with (first | (go_at_call 120; refine CM.out.mono ?_; rintro e w1 ⟨rfl, hb⟩))
    have hb1 := hb.trans ((below_bytes w1 5 s).mono hb.size)
    have hr1 := row_new w1 5 s
    have hB : w.heap.size ≤ w1.heap.size := hb.size
    generalize grownCap w1 s.size 0 5 = cap
    generalize bytesWorld w1 5 s = wB at *
    generalize w1.heap.size = B at *
    clear hconv hb
    go_loopw [13] (fun i w' => ∃ k : Nat, Below w.heap.size w w' ∧ i = .int .i64 k ∧ k ≤ s.size ∧ ByteRow w' B 0 ((s.data.toList.take k).map low ++ s.data.toList.drop k)) (fun i _ => s.size - (intOf i).toNat)
    case atStart => exact ⟨0, hb1, rfl, Nat.zero_le _, by simpa using hr1⟩
    case round =>
      obtain ⟨k, hb, rfl, hle, hrow⟩ := hrel
      have HR := Lib.hid hrow
      clear hrow hr1
      have hML : ((s.data.toList.take k).map low ++ s.data.toList.drop k).length = s.size := by
        simp only [List.length_append, List.length_map, List.length_take, List.length_drop, HL.out]; omega
      have HML := Lib.hid hML
      clear hML
      by_cases hk : k < s.size
      · have hc := (HR.out k (by rw [HML.out]; exact hk)).1
        have hfz := (HR.out k (by rw [HML.out]; exact hk)).2
        rw [Nat.zero_add] at hc hfz
        rw [mapped_at _ _ (by rw [HL.out]; exact hk)] at hc
        have HS := Lib.hid (mapped_set s.data.toList k (by rw [HL.out]; exact hk))
        have hx := UInt8.toNat_lt (s.data.toList.getD k 0)
        have HW : ∀ x : UInt8, ByteRow (wr.setCell ⟨B, k, none⟩ (.int .u8 x.toNat)) B 0 (((s.data.toList.take k).map low ++ s.data.toList.drop k).set k x) := by
          intro x
          have := row_set HR.out (i := k) x
          rwa [Nat.zero_add] at this
        have HW := Lib.hid HW
        generalize hxx : s.data.toList.getD k 0 = x at *
        have HX := Lib.hid hxx
        clear hxx
        have HU := Lib.hid (low_up x)
        have HI := Lib.hid (low_id x)
        by_cases c1 : 65 ≤ x.toNat
        · by_cases c2 : x.toNat ≤ 90
          · have e : Hid (Value.int .u8 (x.toNat + 32 : Nat) = .int .u8 (low x).toNat) := by show _ = _; rw [HU.out c1 c2]
            go_wp2
            go_roundw
            case rel =>
              refine ⟨k + 1, hb.setCell (by simp; omega) _, by go_num, by omega, ?_⟩
              have := HW.out (low x)
              rw [HS.out, HU.out c1 c2] at this
              simpa using this
            case measure => simp [intOf]; omega
          · have e := HI.out (by omega)
            have E := Lib.hid e
            clear e
            go_wp2
            go_roundw
            case rel =>
              refine ⟨k + 1, hb, by go_num, by omega, ?_⟩
              rw [← HS.out, E.out, setid _ _ (by rw [HML.out]; exact hk) _ (by rw [mapped_at _ _ (by rw [HL.out]; exact hk), HX.out])]
              exact HR.out
            case measure => simp [intOf]; omega
        · have e := HI.out (by omega)
          have E := Lib.hid e
          clear e
          go_wp2
          go_roundw
          case rel =>
            refine ⟨k + 1, hb, by go_num, by omega, ?_⟩
            rw [← HS.out, E.out, setid _ _ (by rw [HML.out]; exact hk) _ (by rw [mapped_at _ _ (by rw [HL.out]; exact hk), HX.out])]
            exact HR.out
          case measure => simp [intOf]; omega
      · have hk : k = s.size := by omega
        have hrow := HR.out
        subst hk
        rw [← HL.out, List.take_length, List.drop_length, List.append_nil] at hrow
        have hcv := run_bytes_str (P := Tryz.prog) (c := cap) 30 9 5 hrow Tryz.underlying30 Tryz.underlying5 Tryz.underlying9
        rw [List.length_map, HL.out] at hcv
        clear hrow HR
        go_wp2
        go_ret
        exact ⟨ret_str (by rw [HF.out]), hb⟩
  · have hm : may s.data.toList = false := by simpa using hm
    have HF : Hid (key s.data.toList = []) := by show _ = _; rw [HK.out, hm]; rfl
    rw [hm] at CM
    clear hm
    go_enter Tryz.func121, Tryz.ntmps121
    go_wp2_with (first | (go_at_call 120; refine CM.out.mono ?_; rintro e w1 ⟨rfl, hb⟩))
    go_ret
    exact ⟨ret_str (by rw [HF.out]; rfl), hb⟩
end Go.Proofs.Lab
namespace Go.Proofs.Rm
open Go.RowKit Go.Proofs.Heap Go.Proofs.Mem
open Go.Proofs.Lab (may key Tabs)
theorem may_str (l : List UInt8) : may (str l).data.toList = may l := rfl
def namesArr (R : Room) : Array Value := ((List.range 9).map fun j => Value.string (str (R.names j))).toArray
theorem namesArr_size (R : Room) : (namesArr R).size = 9 := by simp [namesArr]
theorem namesArr_at (R : Room) (j : Nat) (h : j < 9) : (namesArr R)[j]? = some (.string (str (R.names j))) := by simp [namesArr, h]
theorem str_inj {a b : List UInt8} : str a = str b ↔ a = b := by
  constructor
  · intro h
    have := congrArg (fun b : ByteArray => b.data.toList) h
    simpa [str] using this
  · rintro rfl; rfl
set_option maxRecDepth 100000 in
set_option maxHeartbeats 4000000 in
theorem joins_any (b : Nat) (R : Room) (o : Op) (sa ba : Option Addr) (sl sc bl bc : Nat) (w : World) (hR : RoomAt w b R) (hp : 1 ≤ o.peer ∧ o.peer < 9) (hT : Tabs w) (hnm : o.name.length < 9223372036854775807) (hRn : ∀ p, (R.names p).length < 9223372036854775807) :
    Calls Tryz.prog 133 #[.pointer (some ⟨b, 0, none⟩), .agg #[.int .i64 o.kind, .int .i64 o.peer, .int .i64 o.source, .int .i64 o.layer, .string (str o.name), .slice sa sl sc, .slice ba bl bc]] w fun e w' => e = .returned (.int .i64 (joins R o)) ∧ Below w.heap.size w w' := by
  have CJ := Lib.hid (fun (w1 : World) (h : Below w.heap.size w w1) => Joined_any b R o.peer w1 (hR.below h))
  obtain ⟨kd, p, n, q, nm, ss⟩ := o
  have hb := hR.lt
  have HJ : Hid (joins R ⟨kd, p, n, q, nm, ss⟩ = if joined R p then 9 else if !may nm then 12 else if (List.range 9).any (sameKey R ⟨kd, p, n, q, nm, ss⟩) then 9 else 0) := rfl
  have CM : Hid (∀ w1, Calls Tryz.prog 161 #[.string (str nm)] w1 fun e w' => e = .returned (.bool (may nm)) ∧ Below w1.heap.size w1 w') := fun w1 => Lab.May_any (str nm) w1 (by rw [str_size]; exact hnm)
  have CK : Hid (∀ (s : List UInt8) w1, s.length < 9223372036854775807 → Below w.heap.size w w1 → Calls Tryz.prog 162 #[.string (str s)] w1 fun e w' => e = .returned (.string (str (key s))) ∧ Below w1.heap.size w1 w') := fun s w1 hs h => Lab.Key_any (str s) w1 (by rw [str_size]; exact hs) (Utf8Tabs_below hT h)
  dsimp only at *
  have hcs : ∀ j, j < (namesArr R).size → w.cell? ⟨b, 0 + j, none⟩ = (namesArr R)[j]? := by
    intro j hj
    rw [namesArr_size] at hj
    rw [Nat.zero_add, hR.namec hj, namesArr_at R j hj]
  have hinfo : (Tryz.prog.info? 143).map (·.size) = some (namesArr R).size := by rw [namesArr_size]; kernel_rfl
  have HP : Hid (∀ n : Nat, n < 9 → ∀ w, (Instr.index 143 (.agg (namesArr R)) (.int .i64 (n : Int))).run Tryz.prog w = .ok (.string (str (R.names n))) w) :=
    fun n hn w => Load.run_index_cell w 143 9 9 (namesArr R) n _ Tryz.underlying143 hn Tryz.underlying9 rfl (by kernel_rfl) _ (namesArr_at R n hn)
  have HCS := Lib.hid hcs
  have HNL := Lib.hid hRn
  have hnmL := hnm
  clear hR hcs hRn hnm
  generalize namesArr R = CS at *
  generalize joins R ⟨kd, p, n, q, nm, ss⟩ = jn at *
  cases hj : joined R p
  · cases hm : may nm
    · have HF : Hid (jn = 12) := by show _ = _; rw [HJ.out, hj, hm]; rfl
      rw [hj] at CJ
      rw [hm] at CM
      clear hj hm HJ
      go_enter Tryz.func133, Tryz.ntmps133
      go_wp2_with (first | (go_at_call 80; refine (CJ.out _ (below_alloc _ _)).mono ?_; rintro e w1 ⟨rfl, rfl⟩) | (go_at_call 161; refine (CM.out _).mono ?_; rintro e w1 ⟨rfl, hb1⟩))
      go_ret
      exact ⟨ret_int HF.out.symm, (below_alloc _ _).trans (hb1.mono (by simp))⟩
    · have HJ2 : Hid (jn = if (List.range 9).any (sameKey R ⟨kd, p, n, q, nm, ss⟩) then 9 else 0) := by show _ = _; rw [HJ.out, hj, hm]; rfl
      rw [hj] at CJ
      rw [hm] at CM
      clear hj hm HJ
      have hroom : ∀ w', Below w.heap.size w w' → ∀ j, j < CS.size → w'.cell? ⟨b, 0 + j, none⟩ = CS[j]? := fun w' h j hj => by
        rw [h.cell (p := ⟨b, 0 + j, none⟩) hb]; exact HCS.out j hj
      have HROOM := Lib.hid hroom
      clear hroom
      go_enter Tryz.func133, Tryz.ntmps133
      go_wp2_with (first | (go_at_call 80; refine (CJ.out _ (below_alloc _ _)).mono ?_; rintro e w1 ⟨rfl, rfl⟩) | (go_at_call 161; refine (CM.out _).mono ?_; rintro e w1 ⟨rfl, hb1⟩; have hbl1 := (below_alloc w _).trans (hb1.mono (by simp)); have hc1 := HROOM.out _ hbl1; have hbox1 := hb1.cell (p := ⟨w.heap.size, 4, none⟩) (by simp); simp at hbox1) | (refine Load.wpList_load_part rfl 143 (.tmp 17) rfl b 0 rfl CS (.array 9 9) hc1 Tryz.underlying143 rfl hinfo ?_))
      have hz1 : w.heap.size < w1.heap.size := by have := hb1.size; simp at this; omega
      clear hc1 hinfo
      go_loopw [19] (fun i w' => ∃ k : Nat, k ≤ 9 ∧ i = .int .i64 k ∧ Below w.heap.size w w' ∧ w.heap.size < w'.heap.size ∧ w'.cell? ⟨w.heap.size, 4, none⟩ = some (.string (str nm)) ∧ Hid (∀ j, j < k → sameKey R ⟨kd, p, n, q, nm, ss⟩ j = false)) (fun i _ => 9 - (intOf i).toNat)
      case atStart => exact ⟨0, Nat.zero_le _, rfl, hbl1, hz1, hbox1, fun j hj => by omega⟩
      case round =>
        obtain ⟨k, hk, rfl, hbl, hsz, hbox, hno⟩ := hrel
        by_cases hk9 : k < 9
        · have hix := HP.out k hk9
          have HSK : Hid (sameKey R ⟨kd, p, n, q, nm, ss⟩ k = (!(R.names k).isEmpty && decide (key (R.names k) = key nm))) := rfl
          have hkl := HNL.out k
          have HIN : Hid (sameKey R ⟨kd, p, n, q, nm, ss⟩ k = true → jn = 9) := by
            intro h
            rw [HJ2.out, if_pos]
            rw [List.any_eq_true]
            exact ⟨k, by simpa using hk9, h⟩
          generalize R.names k = nk at *
          cases hne : nk.isEmpty
          · have e1 : (str nk).toList.isEmpty = false := by rw [str_emp]; exact hne
            have CK1 := Lib.hid (fun w2 (h : Below w.heap.size w w2) => CK.out nk w2 hkl h)
            have CK2 := Lib.hid (fun w2 (h : Below w.heap.size w w2) => CK.out nm w2 hnmL h)
            rw [hne] at HSK
            clear hne
            by_cases hke : key nk = key nm
            · have HF := Lib.hid (HIN.out (by rw [HSK.out, hke]; simp))
              rw [hke] at CK1
              clear hke
              go_wp2_with fail
              go_region_held3 (fun w' => w'.cell? ⟨w.heap.size, 4, none⟩ = some (.string (str nm)) ∧ Below w.heap.size w w' ∧ w.heap.size < w'.heap.size) (first | (refine ⟨?_, ?_, ?_⟩ <;> first | assumption | (refine Below.drew ?_; assumption)) | go_keep) (first | (go_at_call 162; go_split_ands; refine Calls.mono (CK1.out _ (by assumption)) ?_; rintro e w2 ⟨rfl, hb2⟩; have hbox2 := (hb2.cell (p := ⟨w.heap.size, 4, none⟩) (by assumption)).trans (by assumption); have hbl2 := Below.trans (by assumption) (hb2.mono (Nat.le_of_lt (by assumption))); have hsz2 := Nat.lt_of_lt_of_le (by assumption) hb2.size) | (go_at_call 162; go_split_ands; refine Calls.mono (CK2.out _ (by assumption)) ?_; rintro e w3 ⟨rfl, hb3⟩; have hbox3 := (hb3.cell (p := ⟨w.heap.size, 4, none⟩) (by assumption)).trans (by assumption); have hbl3 := Below.trans (by assumption) (hb3.mono (Nat.le_of_lt (by assumption))); have hsz3 := Nat.lt_of_lt_of_le (by assumption) hb3.size))
              all_goals (go_wp2; go_ret; exact ⟨ret_int HF.out.symm, by assumption⟩)
            · have HF : Hid (sameKey R ⟨kd, p, n, q, nm, ss⟩ k = false) := by show _ = _; rw [HSK.out]; simp [hke]
              have e3 : ((str (key nk)).toList == (str (key nm)).toList) = false := by rw [beq_eq_false_iff_ne, ByteArray.toList_eq, ByteArray.toList_eq]; exact hke
              clear hke
              go_wp2_with fail
              go_region_held3 (fun w' => w'.cell? ⟨w.heap.size, 4, none⟩ = some (.string (str nm)) ∧ Below w.heap.size w w' ∧ w.heap.size < w'.heap.size) (first | (refine ⟨?_, ?_, ?_⟩ <;> first | assumption | (refine Below.drew ?_; assumption)) | go_keep) (first | (go_at_call 162; go_split_ands; refine Calls.mono (CK1.out _ (by assumption)) ?_; rintro e w2 ⟨rfl, hb2⟩; have hbox2 := (hb2.cell (p := ⟨w.heap.size, 4, none⟩) (by assumption)).trans (by assumption); have hbl2 := Below.trans (by assumption) (hb2.mono (Nat.le_of_lt (by assumption))); have hsz2 := Nat.lt_of_lt_of_le (by assumption) hb2.size) | (go_at_call 162; go_split_ands; refine Calls.mono (CK2.out _ (by assumption)) ?_; rintro e w3 ⟨rfl, hb3⟩; have hbox3 := (hb3.cell (p := ⟨w.heap.size, 4, none⟩) (by assumption)).trans (by assumption); have hbl3 := Below.trans (by assumption) (hb3.mono (Nat.le_of_lt (by assumption))); have hsz3 := Nat.lt_of_lt_of_le (by assumption) hb3.size))
              all_goals
                go_wp2
                go_roundw
                case rel => exact ⟨k + 1, by omega, by go_num, by assumption, by assumption, by assumption, fun j hj => by by_cases hjk : j < k; exact hno.out j hjk; rw [show j = k by omega]; exact HF.out⟩
                case measure => simp [intOf]; omega
          · have hnk : nk = [] := List.isEmpty_iff.1 hne
            have e1 : (str nk).toList = [] := (str_ne _).2 hnk
            have e2 : (str nk).toList.isEmpty = true := by rw [str_emp]; exact hne
            have HF : Hid (sameKey R ⟨kd, p, n, q, nm, ss⟩ k = false) := by show _ = _; rw [HSK.out, hne]; rfl
            clear hne hnk
            go_wp2
            go_quiet (fail)
            go_wp2
            go_roundw
            case rel => exact ⟨k + 1, by omega, by go_num, below_drewN hbl _, hsz, hbox, fun j hj => by by_cases hjk : j < k; exact hno.out j hjk; rw [show j = k by omega]; exact HF.out⟩
            case measure => simp [intOf]; omega
        · have HF : Hid (jn = 0) := by
            show _ = _
            rw [HJ2.out, if_neg]
            rw [List.any_eq_true]
            rintro ⟨j, hj, hj2⟩
            rw [hno.out j (by simp at hj; omega)] at hj2
            cases hj2
          go_wp2
          go_ret
          exact ⟨ret_int HF.out.symm, hbl⟩
  · have HF : Hid (jn = 9) := by show _ = _; rw [HJ.out, hj]; rfl
    rw [hj] at CJ
    clear hj HJ
    go_enter Tryz.func133, Tryz.ntmps133
    go_wp2_with (first | (go_at_call 80; refine (CJ.out _ (below_alloc _ _)).mono ?_; rintro e w1 ⟨rfl, rfl⟩))
    go_ret
    exact ⟨ret_int HF.out.symm, below_alloc _ _⟩
end Go.Proofs.Rm
namespace Go.Proofs.Rm
open Go.RowKit Go.Proofs.Heap Go.Proofs.Mem
theorem leave1_succ (p : Nat) (R : Room) (k : Nat) : leave1 p R (k + 1) = if ((leave1 p R k).2.sub k p).there then ((leave1 p R k).1 ++ [⟨2, p, k, 0, 0⟩], (leave1 p R k).2.setSub k p noSub) else leave1 p R k := rfl
theorem leave2_succ (p : Nat) (R : Room) (k : Nat) : leave2 R p (k + 1) = if (R.src k).there && decide ((R.src k).own = p) then ((leave2 R p k).1 ++ (gone (leave2 R p k).2 k).1, (gone (leave2 R p k).2 k).2) else leave2 R p k := rfl
theorem gone_len (R : Room) (n : Nat) : (gone R n).1.length ≤ 18 := by
  unfold gone
  dsimp only
  rw [goneGo_len]
  have := subs_len R n
  omega
theorem leave1_len (p : Nat) (R : Room) : ∀ k, (leave1 p R k).1.length ≤ k
  | 0 => Nat.le_refl _
  | k + 1 => by
    rw [leave1_succ]
    have := leave1_len p R k
    split
    · simp; omega
    · omega
theorem leave2_len (p : Nat) (R : Room) : ∀ k, (leave2 R p k).1.length ≤ k * 18
  | 0 => Nat.le_refl _
  | k + 1 => by
    rw [leave2_succ]
    have := leave2_len p R k
    have := gone_len (leave2 R p k).2 k
    split
    · simp; omega
    · omega
theorem names_setName (R : Room) (p : Nat) (s : List UInt8) : (R.setName p s).names p = s := by simp [Room.setName]
theorem RoomAt.setName {w : World} {b : Nat} {R : Room} (h : RoomAt w b R) {p : Nat} (hp : p < 9) (s : List UInt8) : RoomAt (w.setCell ⟨b, p, none⟩ (.string (str s))) b (R.setName p s) := by
  refine h.set (by omega) (fun j hj => ?_) h.rows
  unfold roomCell
  by_cases h1 : j < 9
  · rw [if_pos h1, if_pos h1]
    by_cases h2 : j = p
    · subst h2; rw [if_pos rfl, names_setName]
    · rw [if_neg h2]; simp [Room.setName, h2]
  · rw [if_neg h1, if_neg h1, if_neg (by omega : ¬ j = p)]; rfl
set_option maxHeartbeats 2000000 in
theorem leave_any (b : Nat) (R : Room) (p : Nat) (w : World) (hR : RoomAt w b R) (hp : p < 9) :
    Calls Tryz.prog 136 #[.pointer (some ⟨b, 0, none⟩), .int .i64 p] w fun e w' => (∃ v, e = .returned v ∧ TurnRow w' v (leave R p).1) ∧ RoomAt w' b (leave R p).2 ∧ Fr w.heap.size (· = b) w w' := by
  have hb := hR.lt
  have HL0 : Hid (leave R p = ((leave1 p R 9).1 ++ (leave2 (leave1 p R 9).2 p 9).1, (leave2 (leave1 p R 9).2 p 9).2.setName p [])) := rfl
  have HR := Lib.hid hR
  clear hR
  go_enter Tryz.func136, Tryz.ntmps136
  go_wp2
  go_loopw [5, 9] (fun v i w' => ∃ k : Nat, k ≤ 9 ∧ i = .int .i64 k ∧ Fr w.heap.size (· = b) w w' ∧ RoomAt w' b (leave1 p R k).2 ∧ w'.ownsRow w.heap.size 158 5 v (leave1 p R k).1.length ((leave1 p R k).1.flatMap turnCells)) (fun _ i _ => 9 - (intOf i).toNat)
  case atStart => exact ⟨0, by omega, rfl, Fr.refl _ _ _, HR.out, World.ownsRow_nil _ _ _ _⟩
  case round =>
    obtain ⟨k, hk, rfl, hfr, hroom, hown⟩ := hrel
    have HFR := Lib.hid hfr
    have HROOM := Lib.hid hroom
    have HOWN := Lib.hid hown
    clear hfr hroom hown
    by_cases hk9 : k < 9
    · have HS := Lib.hid (leave1_succ p R k)
      have HGL := leave1_len p R k
      have CE := Lib.hid (end_any b (leave1 p R k).2 p k wr HROOM.out hk9 hp)
      obtain ⟨c0, c1, c2⟩ := HROOM.out.subc hk9 hp
      clear c1 c2
      generalize leave1 p R k = G at *
      cases ht : (G.2.sub k p).there
      · rw [ht] at c0
        have HF : Hid (leave1 p R (k + 1) = G) := by show _ = _; rw [HS.out, ht]; rfl
        clear ht
        go_wp2
        go_roundw
        case rel => exact ⟨k + 1, by omega, by go_num, HFR.out, by rw [HF.out]; exact HROOM.out, by rw [HF.out]; exact HOWN.out⟩
        case measure => simp [intOf]; omega
      · rw [ht] at c0
        have HF : Hid (leave1 p R (k + 1) = (G.1 ++ [⟨2, p, k, 0, 0⟩], G.2.setSub k p noSub)) := by show _ = _; rw [HS.out, ht]; rfl
        clear ht
        go_wp2_with (first | (go_at_call 139; refine CE.out.mono ?_; rintro e w2 ⟨rfl, hroom2, hfr2⟩; have HROOM2 := Lib.hid hroom2; have HFR2 := Lib.hid hfr2; clear hroom2 hfr2) | (at_builtin; refine wpList_app rfl (.tmp 21) (.tmp 26) 98 rfl w.heap.size elemTurn _ G.1.length (G.1.flatMap turnCells) rfl ?a1 _ 1 ([⟨2, p, k, 0, 0⟩].flatMap turnCells) rfl ?a2 rfl ?a4 ?a5 ?a6 ?a7 (fun v' w3 HO HG => ?_)))
        case a1 => exact (owns_fr HOWN.out HFR2.out (fun k hk => by omega)).alloc _
        case a2 => exact row_new' _ _ 1 _ ([⟨2, p, k, 0, 0⟩].flatMap turnCells) (by decide) rfl
        case a4 => exact turns_one _
        case a5 => omega
        case a6 => omega
        case a7 => have h1 := HFR.out.size; have h2 := HFR2.out.size; simp; omega
        go_roundw
        case rel =>
          have h1 := HFR.out.size
          have h2 := HFR2.out.size
          have hown2 := (owns_fr HOWN.out HFR2.out (fun k hk => by omega)).alloc (.cells ([⟨2, p, k, 0, 0⟩].flatMap turnCells).toArray 158)
          have hbl := below_alloc w2 (.cells ([⟨2, p, k, 0, 0⟩].flatMap turnCells).toArray 158)
          refine ⟨k + 1, by omega, by go_num, ?_, ?_, ?_⟩
          · have h3 := HFR.out.trans (HFR2.out.mono (by omega) (fun _ _ h => h))
            exact (h3.alloc (by omega) _).grown HG.out (by simp; omega) (own_le HOWN.out)
          · rw [HF.out]
            exact RoomAt.grown (HROOM2.out.below hbl) hown2 HG.out hb (by decide)
          · rw [HF.out]
            dsimp only
            rw [List.length_append, List.flatMap_append]
            exact HO.out
        case measure => simp [intOf]; omega
    · obtain rfl : k = 9 := by omega
      have HGL := leave1_len p R 9
      have HL2 : Hid (∀ k, leave2 (leave1 p R 9).2 p (k + 1) = if ((leave1 p R 9).2.src k).there && decide (((leave1 p R 9).2.src k).own = p) then ((leave2 (leave1 p R 9).2 p k).1 ++ (gone (leave2 (leave1 p R 9).2 p k).2 k).1, (gone (leave2 (leave1 p R 9).2 p k).2 k).2) else leave2 (leave1 p R 9).2 p k) := fun k => leave2_succ p _ k
      have HLL : Hid (∀ k, (leave2 (leave1 p R 9).2 p k).1.length ≤ k * 18) := fun k => leave2_len p _ k
      have HL20 : Hid (leave2 (leave1 p R 9).2 p 0 = ([], (leave1 p R 9).2)) := rfl
      generalize leave1 p R 9 = X at *
      have hcs : ∀ j, j < (srcsArr X.2).size → wr.cell? ⟨b, 9 + j, none⟩ = (srcsArr X.2)[j]? := by
        intro j hj
        rw [srcsArr_size] at hj
        rw [HROOM.out.cell (by omega), srcsArr_at X.2 j hj]
      have hinfo : (Tryz.prog.info? 146).map (·.size) = some (srcsArr X.2).size := by rw [srcsArr_size]; kernel_rfl
      have HP : Hid (∀ n : Nat, n < 9 → ∀ w, (Instr.index 146 (.agg (srcsArr X.2)) (.int .i64 (n : Int))).run Tryz.prog w = .ok (.agg #[.bool (X.2.src n).there, .int .i64 (X.2.src n).num, .int .i64 (X.2.src n).own, (X.2.src n).sv, .bool (X.2.src n).muted]) w) :=
        fun n hn w => Load.run_index_agg w 146 145 9 (srcsArr X.2) n 5 _ Tryz.underlying146 hn Tryz.underlying145 rfl (by kernel_rfl) _ (srcsArr_part X.2 n hn)
      have HSV : Hid (∀ n, n < 9 → ∃ a c, (X.2.src n).sv = .slice a (X.2.src n).ss.length c) := fun n hn => by
        obtain ⟨a, c, h, _⟩ := HROOM.out.rows n hn
        exact ⟨a, c, h⟩
      generalize srcsArr X.2 = CS at *
      obtain ⟨wo, rfl⟩ : ∃ wo : World, wo = wr := ⟨_, rfl⟩
      go_wp2_with (refine Load.wpList_load_part rfl 146 (.tmp 31) rfl b 9 rfl CS (.array 9 145) hcs Tryz.underlying146 rfl hinfo ?_)
      clear hcs hinfo
      go_loopw [5, 33] (fun v i w' => ∃ k : Nat, k ≤ 9 ∧ i = .int .i64 k ∧ Fr w.heap.size (· = b) w w' ∧ RoomAt w' b (leave2 X.2 p k).2 ∧ w'.ownsRow w.heap.size 158 5 v (X.1 ++ (leave2 X.2 p k).1).length ((X.1 ++ (leave2 X.2 p k).1).flatMap turnCells)) (fun _ i _ => 9 - (intOf i).toNat)
      case atStart => exact ⟨0, by omega, rfl, HFR.out, by rw [HL20.out]; exact HROOM.out, by rw [HL20.out, List.append_nil]; exact HOWN.out⟩
      case round =>
        obtain ⟨k, hk, rfl, hfr, hroom, hown⟩ := hrel
        clear HFR HROOM HOWN HL20
        have HFR := Lib.hid hfr
        have HROOM := Lib.hid hroom
        have HOWN := Lib.hid hown
        clear hfr hroom hown
        by_cases hk9 : k < 9
        · have HS := Lib.hid (HL2.out k)
          have HGL2 := HLL.out k
          have HGN := gone_len (leave2 X.2 p k).2 k
          have hix := HP.out k hk9
          have hsz := HFR.out.size
          have CG := Lib.hid (fun w1 (h : Below wr.heap.size wr w1) => gone_any b (leave2 X.2 p k).2 k w1 (HROOM.out.below h) hk9)
          obtain ⟨sa, sc, hsv⟩ := HSV.out k hk9
          rw [hsv] at hix
          clear hsv
          generalize leave2 X.2 p k = G at *
          generalize (X.2.src k).num = u1 at *
          generalize (X.2.src k).muted = u4 at *
          generalize (X.2.src k).ss.length = ul at *
          cases ht : (X.2.src k).there
          · have HF : Hid (leave2 X.2 p (k + 1) = G) := by show _ = _; rw [HS.out, ht]; rfl
            rw [ht] at hix
            clear ht
            go_wp2
            go_roundw
            case rel => exact ⟨k + 1, by omega, by go_num, HFR.out.alloc hsz _, by rw [HF.out]; exact HROOM.out.below (below_alloc _ _), by rw [HF.out]; exact HOWN.out.alloc _⟩
            case measure => simp [intOf]; omega
          · by_cases ho : (X.2.src k).own = p
            · have HF : Hid (leave2 X.2 p (k + 1) = (G.1 ++ (gone G.2 k).1, (gone G.2 k).2)) := by show _ = _; rw [HS.out, ht, ho]; simp
              rw [ht, ho] at hix
              clear ht ho
              generalize gone G.2 k = Y at *
              go_wp2_with (first | (go_at_call 137; refine (CG.out _ (below_alloc _ _)).mono ?_; rintro e w2 ⟨⟨tv, rfl, htr⟩, hroom2, hfr2⟩; have HTR := Lib.hid htr; have HROOM2 := Lib.hid hroom2; have HFR2 := Lib.hid hfr2; clear hroom2 hfr2 htr) | (at_builtin; refine wpList_app rfl (.tmp 46) (.tmp 49) 98 rfl w.heap.size elemTurn _ (X.1 ++ G.1).length ((X.1 ++ G.1).flatMap turnCells) rfl ?b1 _ Y.1.length (Y.1.flatMap turnCells) rfl ?b2 ?b3 ?b4 ?b5 ?b6 ?b7 (fun v' w3 HO HG => ?_)))
              case b1 => exact owns_fr (HOWN.out.alloc _) HFR2.out (fun k hk => by omega)
              case b2 => exact HTR.out
              case b3 => exact turns_len _
              case b4 => exact turns_one _
              case b5 => simp; omega
              case b6 => simp; omega
              case b7 => have h2 := HFR2.out.size; simp at h2; omega
              go_roundw
              case rel =>
                have h2 := HFR2.out.size
                simp at h2
                refine ⟨k + 1, by omega, by go_num, ?_, ?_, ?_⟩
                · have h3 := (HFR.out.alloc hsz _).trans (HFR2.out.mono (by simp; omega) (fun _ _ h => h))
                  exact h3.grown HG.out (by omega) (own_le HOWN.out)
                · rw [HF.out]
                  exact RoomAt.grown HROOM2.out (owns_fr (HOWN.out.alloc _) HFR2.out (fun k hk => by omega)) HG.out hb (by decide)
                · rw [HF.out]
                  dsimp only
                  rw [← List.append_assoc, List.length_append, List.flatMap_append]
                  exact HO.out
              case measure => simp [intOf]; omega
            · have HF : Hid (leave2 X.2 p (k + 1) = G) := by show _ = _; rw [HS.out, ht]; simp [ho]
              have hbq : ((X.2.src k).own == (p : Int)) = false := by rw [beq_eq_false_iff_ne]; exact ho
              rw [ht] at hix
              clear ht ho
              generalize (X.2.src k).own = u2 at *
              go_wp2
              go_roundw
              case rel => exact ⟨k + 1, by omega, by go_num, HFR.out.alloc hsz _, by rw [HF.out]; exact HROOM.out.below (below_alloc _ _), by rw [HF.out]; exact HOWN.out.alloc _⟩
              case measure => simp [intOf]; omega
        · obtain rfl : k = 9 := by omega
          have c0 := HROOM.out.namec hp
          have f0 := HROOM.out.unfrozen p
          clear HP HL2 HLL
          generalize leave2 X.2 p 9 = G at *
          go_wp2
          go_ret
          rw [HL0.out]
          exact ⟨⟨_, rfl, (Row.of_owns HOWN.out).fr ((Fr.refl wr.heap.size (· = b) wr).setAt _ _) (Nat.le_refl _) (HROOM.out.typ (by decide))⟩, HROOM.out.setName hp [], HFR.out.setAt _ _⟩
end Go.Proofs.Rm
namespace Go.Proofs.Rm
open Go.RowKit Go.Proofs.Heap Go.Proofs.Mem
theorem muteTurns_len (R : Room) (n : Nat) (on : Bool) (p : Nat) : (muteTurns R n on p).length ≤ 2 := by
  unfold muteTurns waits
  split
  · simp
  · split <;> simp
theorem muteAll_len (R : Room) (n : Nat) (on : Bool) : ∀ l : List Nat, (l.flatMap (muteTurns R n on)).length ≤ 2 * l.length
  | [] => Nat.le_refl _
  | p :: l => by
    rw [List.flatMap_cons, List.length_append, List.length_cons]
    have := muteTurns_len R n on p
    have := muteAll_len R n on l
    omega
theorem flat_snoc {α : Type} (f : Nat → List α) {l : List Nat} {k : Nat} (h : k < l.length) : (l.take (k + 1)).flatMap f = (l.take k).flatMap f ++ f (l.getD k 0) := by
  rw [take_snoc h, List.flatMap_append]; simp
theorem subs_there {R : Room} {n : Nat} {j : Nat} (_hn : n < 9) (h : j < (subs R n).length) : (subs R n).getD j 0 < 9 ∧ (R.sub n ((subs R n).getD j 0)).there = true := by
  refine ⟨subs_mem h, ?_⟩
  rw [List.getD_eq_getElem?_getD, List.getElem?_eq_getElem h]
  have := (List.mem_filter.1 (List.getElem_mem h)).2
  simp only [hears, Bool.and_eq_true, Int.toNat_natCast] at this
  exact this.2
theorem srcCell_muted (s : Src) (on : Bool) : ∀ j, j < 5 → srcCell { s with muted := on } j = if j = 4 then .bool on else srcCell s j := by
  intro j hj
  have : j = 0 ∨ j = 1 ∨ j = 2 ∨ j = 3 ∨ j = 4 := by omega
  rcases this with rfl | rfl | rfl | rfl | rfl <;> rfl
set_option maxHeartbeats 2000000 in
theorem mute_on (b : Nat) (R : Room) (n : Nat) (w : World) (hR : RoomAt w b R) (hn : n < 9) :
    Calls Tryz.prog 140 #[.pointer (some ⟨b, 0, none⟩), .int .i64 n, .bool true] w fun e w' => (∃ v, e = .returned v ∧ TurnRow w' v (mute R n true).1) ∧ RoomAt w' b (mute R n true).2 ∧ Fr w.heap.size (· = b) w w' := by
  have hb := hR.lt
  obtain ⟨s0, s1, s2, s3, s4⟩ := hR.srcc hn
  have f4 := hR.unfrozen (9 + n * 5 + 4)
  have HR1 := Lib.hid (hR.setSrcCell hn (i := 4) (by omega) (srcCell_muted (R.src n) true) (hR.rows n hn))
  have HM0 : Hid (mute R n true = ((subs (R.setSrc n { R.src n with muted := true }) n).flatMap (muteTurns (R.setSrc n { R.src n with muted := true }) n true), R.setSrc n { R.src n with muted := true })) := rfl
  clear s0 s1 s2 s3
  generalize R.setSrc n { R.src n with muted := true } = R1 at *
  have CS := Lib.hid (Subs_any b R1 n _ HR1.out)
  have HM : Hid (∀ j, j < (subs R1 n).length → (subs R1 n).getD j 0 < 9) := fun j h => subs_mem h
  have HL := subs_len R1 n
  have HT : Hid (∀ k, k < (subs R1 n).length → ((subs R1 n).take (k + 1)).flatMap (muteTurns R1 n true) = ((subs R1 n).take k).flatMap (muteTurns R1 n true) ++ [⟨6, (subs R1 n).getD k 0, n, 0, 0⟩]) := fun k h => flat_snoc _ h
  have HTL : Hid (∀ k, (((subs R1 n).take k).flatMap (muteTurns R1 n true)).length ≤ 2 * ((subs R1 n).take k).length) := fun k => muteAll_len _ _ _ _
  clear hR
  generalize subs R1 n = L at *
  generalize muteTurns R1 n true = f at *
  go_enter Tryz.func140, Tryz.ntmps140
  go_wp2_with fail
  refine CS.out.mono ?_
  rintro e w1 ⟨⟨lv, rfl, hrow⟩, hb1⟩
  have HROW := Lib.hid hrow
  have HB := Lib.hid hb1
  have hsz : w.heap.size ≤ w1.heap.size := by have := hb1.size; rw [size_setCell] at this; exact this
  have HFR0 : Hid (Fr w.heap.size (· = b) w w1) := ((Fr.refl w.heap.size (· = b) w).setAt _ _).trans ((Fr.of_below _ hb1).mono (by rw [size_setCell]; exact Nat.le_refl _) (fun _ _ h => h))
  have HROOM0 := Lib.hid (HR1.out.below hb1)
  clear hb1 HB
  rcases Nat.eq_zero_or_pos L.length with h0 | h0
  · obtain ⟨la, lcap, rfl, hx⟩ := hrow
    clear hx
    have HLE : Hid (L = []) := List.eq_nil_of_length_eq_zero h0
    go_wp2_with fail
    go_loopw [7, 22] (fun v i w' => v = .slice none 0 0 ∧ i = .int .i64 0 ∧ w' = w1) (fun _ _ _ => 0)
    case atStart => exact ⟨rfl, rfl, rfl⟩
    case round =>
      obtain ⟨rfl, rfl, rfl⟩ := hrel
      go_wp2
      go_ret
      rw [HM0.out, HLE.out]
      exact ⟨⟨_, rfl, Row.nil _ _⟩, HROOM0.out, HFR0.out⟩
  · obtain ⟨g, off, cap, rfl, hg, hcells⟩ := int_open hrow h0
    have HC := Lib.hid hcells
    clear hrow hcells
    go_wp2_with fail
    go_loopw [7, 22] (fun v i w' => ∃ k : Nat, k ≤ L.length ∧ i = .int .i64 k ∧ Fr w.heap.size (· = b) w w' ∧ Row w' 3 (.slice (some ⟨g, off, none⟩) L.length cap) L.length (ints L) ∧ RoomAt w' b R1 ∧ w'.ownsRow w.heap.size 158 5 v ((L.take k).flatMap f).length (((L.take k).flatMap f).flatMap turnCells)) (fun _ i _ => L.length - (intOf i).toNat)
    case atStart => exact ⟨0, by omega, rfl, HFR0.out, HROW.out, HROOM0.out, World.ownsRow_nil _ _ _ _⟩
    case round =>
      obtain ⟨k, hk, rfl, hfr, hrow, hroom, hown⟩ := hrel
      have HFR := Lib.hid hfr
      have HROW2 := Lib.hid hrow
      have HROOM := Lib.hid hroom
      have HOWN := Lib.hid hown
      clear hfr hown hroom
      by_cases hkl : k < L.length
      · obtain ⟨g', off', cap', e1, hg', hcells⟩ := int_open hrow h0
        cases e1
        have hc := hcells k hkl
        have hp := HM.out k hkl
        have HS := Lib.hid (HT.out k hkl)
        have HGL := HTL.out k
        rw [List.length_take] at HGL
        clear hcells hrow
        generalize L.getD k 0 = p at *
        generalize (L.take k).flatMap f = G at *
        go_wp2_with (at_builtin; refine wpList_app rfl (.tmp 27) (.tmp 31) 98 rfl w.heap.size elemTurn _ G.length (G.flatMap turnCells) rfl ?a1 _ 1 ([⟨6, p, n, 0, 0⟩].flatMap turnCells) rfl ?a2 rfl ?a4 ?a5 ?a6 ?a7 (fun v' w3 HO HG => ?_))
        case a1 => exact HOWN.out.alloc _
        case a2 => exact row_new' _ _ 1 _ ([⟨6, p, n, 0, 0⟩].flatMap turnCells) (by decide) rfl
        case a4 => exact turns_one _
        case a5 => omega
        case a6 => omega
        case a7 => have h1 := HFR.out.size; simp; omega
        go_roundw
        case rel =>
          have h1 := HFR.out.size
          have hown2 := HOWN.out.alloc (.cells ([⟨6, p, n, 0, 0⟩].flatMap turnCells).toArray 158)
          have hbl := below_alloc wr (.cells ([⟨6, p, n, 0, 0⟩].flatMap turnCells).toArray 158)
          refine ⟨k + 1, by omega, by go_num, ?_, ?_, ?_, ?_⟩
          · exact (HFR.out.alloc (by omega) _).grown HG.out (by simp; omega) (own_le HOWN.out)
          · exact Row.grown (HROW2.out.below hbl) hown2 HG.out (by decide)
          · exact RoomAt.grown (HROOM.out.below hbl) hown2 HG.out hb (by decide)
          · rw [HS.out, List.length_append, List.flatMap_append]
            exact HO.out
        case measure => simp [intOf]; omega
      · have hkk : k = L.length := by omega
        have hT : L.take k = L := by rw [hkk, List.take_length]
        rw [hT] at HOWN
        clear hT hrow
        go_wp2
        go_ret
        rw [HM0.out]
        exact ⟨⟨_, rfl, Row.of_owns HOWN.out⟩, HROOM.out, HFR.out⟩
set_option maxHeartbeats 4000000 in
theorem mute_off (b : Nat) (R : Room) (n : Nat) (w : World) (hR : RoomAt w b R) (hn : n < 9) (hwant : ∀ p, p < 9 → (R.sub n p).there = true → 0 ≤ (R.sub n p).want ∧ (R.sub n p).want < (R.src n).ss.length) :
    Calls Tryz.prog 140 #[.pointer (some ⟨b, 0, none⟩), .int .i64 n, .bool false] w fun e w' => (∃ v, e = .returned v ∧ TurnRow w' v (mute R n false).1) ∧ RoomAt w' b (mute R n false).2 ∧ Fr w.heap.size (· = b) w w' := by
  have hb := hR.lt
  obtain ⟨s0, s1, s2, s3, s4⟩ := hR.srcc hn
  have f4 := hR.unfrozen (9 + n * 5 + 4)
  have HR1 := Lib.hid (hR.setSrcCell hn (i := 4) (by omega) (srcCell_muted (R.src n) false) (hR.rows n hn))
  have HM0 : Hid (mute R n false = ((subs (R.setSrc n { R.src n with muted := false }) n).flatMap (muteTurns (R.setSrc n { R.src n with muted := false }) n false), R.setSrc n { R.src n with muted := false })) := rfl
  have HW1 : Hid (∀ p, p < 9 → ((R.setSrc n { R.src n with muted := false }).sub n p).there = true → 0 ≤ ((R.setSrc n { R.src n with muted := false }).sub n p).want ∧ ((R.setSrc n { R.src n with muted := false }).sub n p).want < ((R.setSrc n { R.src n with muted := false }).src n).ss.length) := by
    intro p hp ht
    rw [src_setSrc]
    exact hwant p hp ht
  clear s0 s1 s2 s3 hwant
  generalize R.setSrc n { R.src n with muted := false } = R1 at *
  have CS := Lib.hid (Subs_any b R1 n _ HR1.out)
  have HM : Hid (∀ j, j < (subs R1 n).length → (subs R1 n).getD j 0 < 9 ∧ (R1.sub n ((subs R1 n).getD j 0)).there = true) := fun j h => subs_there hn h
  have HL := subs_len R1 n
  have HT : Hid (∀ k, k < (subs R1 n).length → ((subs R1 n).take (k + 1)).flatMap (muteTurns R1 n false) = ((subs R1 n).take k).flatMap (muteTurns R1 n false) ++ [⟨7, (subs R1 n).getD k 0, n, 0, 0⟩] ++ waits R1 ((subs R1 n).getD k 0) n) := fun k h => by rw [flat_snoc _ h, List.append_assoc]; rfl
  have HTL : Hid (∀ k, (((subs R1 n).take k).flatMap (muteTurns R1 n false)).length ≤ 2 * ((subs R1 n).take k).length) := fun k => muteAll_len _ _ _ _
  have HWL : Hid (∀ p, (waits R1 p n).length ≤ 1) := fun p => by unfold waits; split <;> simp
  clear hR
  generalize subs R1 n = L at *
  generalize muteTurns R1 n false = f at *
  go_enter Tryz.func140, Tryz.ntmps140
  go_wp2_with fail
  refine CS.out.mono ?_
  rintro e w1 ⟨⟨lv, rfl, hrow⟩, hb1⟩
  have HROW := Lib.hid hrow
  have HB := Lib.hid hb1
  have hsz : w.heap.size ≤ w1.heap.size := by have := hb1.size; rw [size_setCell] at this; exact this
  have HFR0 : Hid (Fr w.heap.size (· = b) w w1) := ((Fr.refl w.heap.size (· = b) w).setAt _ _).trans ((Fr.of_below _ hb1).mono (by rw [size_setCell]; exact Nat.le_refl _) (fun _ _ h => h))
  have HROOM0 := Lib.hid (HR1.out.below hb1)
  clear hb1 HB
  rcases Nat.eq_zero_or_pos L.length with h0 | h0
  · obtain ⟨la, lcap, rfl, hx⟩ := hrow
    clear hx
    have HLE : Hid (L = []) := List.eq_nil_of_length_eq_zero h0
    go_wp2_with fail
    go_loopw [7, 22] (fun v i w' => v = .slice none 0 0 ∧ i = .int .i64 0 ∧ w' = w1) (fun _ _ _ => 0)
    case atStart => exact ⟨rfl, rfl, rfl⟩
    case round =>
      obtain ⟨rfl, rfl, rfl⟩ := hrel
      go_wp2
      go_ret
      rw [HM0.out, HLE.out]
      exact ⟨⟨_, rfl, Row.nil _ _⟩, HROOM0.out, HFR0.out⟩
  · obtain ⟨g, off, cap, rfl, hg, hcells⟩ := int_open hrow h0
    have HC := Lib.hid hcells
    clear hrow hcells
    go_wp2_with fail
    go_loopw [7, 22] (fun v i w' => ∃ k : Nat, k ≤ L.length ∧ i = .int .i64 k ∧ Fr w.heap.size (· = b) w w' ∧ Row w' 3 (.slice (some ⟨g, off, none⟩) L.length cap) L.length (ints L) ∧ RoomAt w' b R1 ∧ w'.ownsRow w.heap.size 158 5 v ((L.take k).flatMap f).length (((L.take k).flatMap f).flatMap turnCells)) (fun _ i _ => L.length - (intOf i).toNat)
    case atStart => exact ⟨0, by omega, rfl, HFR0.out, HROW.out, HROOM0.out, World.ownsRow_nil _ _ _ _⟩
    case round =>
      obtain ⟨k, hk, rfl, hfr, hrow, hroom, hown⟩ := hrel
      have HFR := Lib.hid hfr
      have HROW2 := Lib.hid hrow
      have HROOM := Lib.hid hroom
      have HOWN := Lib.hid hown
      clear hfr hown hroom
      by_cases hkl : k < L.length
      · obtain ⟨g', off', cap', e1, hg', hcells⟩ := int_open hrow h0
        cases e1
        have hc := hcells k hkl
        have HP := Lib.hid (HM.out k hkl)
        have HS := Lib.hid (HT.out k hkl)
        have HGL := HTL.out k
        have HWLk := HWL.out (L.getD k 0)
        rw [List.length_take] at HGL
        clear hcells hrow
        generalize L.getD k 0 = p at *
        generalize (L.take k).flatMap f = G at *
        have h1 := HFR.out.size
        have CW : Hid (∀ w3, RoomAt w3 b R1 → Calls Tryz.prog 141 #[.pointer (some ⟨b, 0, none⟩), .int .i64 p, .int .i64 n] w3 fun e w' => (∃ v, e = .returned v ∧ TurnRow w' v (waits R1 p n)) ∧ Below w3.heap.size w3 w') := fun w3 h3 => waits_any b R1 p n w3 h3 hn HP.out.1 (HW1.out p HP.out.1 HP.out.2)
        have HO2 := Lib.hid (HOWN.out.alloc (.cells ([⟨7, p, n, 0, 0⟩].flatMap turnCells).toArray 158))
        have HBL := Lib.hid (below_alloc wr (.cells ([⟨7, p, n, 0, 0⟩].flatMap turnCells).toArray 158))
        generalize waits R1 p n = Wt at *
        go_wp2_with (first | (at_builtin; refine wpList_app rfl (.tmp 33) (.tmp 37) 98 rfl w.heap.size elemTurn _ G.length (G.flatMap turnCells) rfl ?a1 _ 1 ([⟨7, p, n, 0, 0⟩].flatMap turnCells) rfl ?a2 rfl ?a4 ?a5 ?a6 ?a7 (fun v' w3 HO HG => ?_)) | (go_at_call 141; refine (CW.out _ (RoomAt.grown (HROOM.out.below HBL.out) HO2.out HG.out hb (by decide))).mono ?_; rintro e w4 ⟨⟨tv, rfl, htr⟩, hb4⟩; have HTR := Lib.hid htr; have HB4 := Lib.hid hb4; clear htr hb4) | (at_builtin; refine wpList_app rfl (.tmp 39) (.tmp 43) 98 rfl w.heap.size elemTurn _ (G ++ [Turn.mk 7 p n 0 0]).length ((G ++ [Turn.mk 7 p n 0 0]).flatMap turnCells) rfl ?b1 _ Wt.length (Wt.flatMap turnCells) rfl ?b2 ?b3 ?b4 ?b5 ?b6 ?b7 (fun v' w5 HO5 HG5 => ?_)))
        case a1 => exact HOWN.out.alloc _
        case a2 => exact row_new' _ _ 1 _ ([⟨7, p, n, 0, 0⟩].flatMap turnCells) (by decide) rfl
        case a4 => exact turns_one _
        case a5 => omega
        case a6 => omega
        case a7 => simp; omega
        case b1 => rw [List.length_append, List.flatMap_append]; exact owns_below HO.out HB4.out
        case b2 => exact HTR.out
        case b3 => exact turns_len _
        case b4 => exact turns_one _
        case b5 => simp; omega
        case b6 => simp; omega
        case b7 => have h2 := HG.out.size; have h3 := HB4.out.size; simp at h2; omega
        go_roundw
        case rel =>
          have h2 := HG.out.size
          have h3 := HB4.out.size
          simp at h2
          have HO3 := owns_below HO.out HB4.out
          refine ⟨k + 1, by omega, by go_num, ?_, ?_, ?_, ?_⟩
          · have g1 := (HFR.out.alloc (by omega) _).grown HG.out (by simp; omega) (own_le HOWN.out)
            have g2 := g1.trans ((Fr.of_below _ HB4.out).mono (by omega) (fun _ _ h => h))
            exact g2.grown HG5.out (by omega) (own_le HO.out)
          · exact Row.grown ((Row.grown (HROW2.out.below HBL.out) HO2.out HG.out (by decide)).below HB4.out) HO3 HG5.out (by decide)
          · exact RoomAt.grown ((RoomAt.grown (HROOM.out.below HBL.out) HO2.out HG.out hb (by decide)).below HB4.out) HO3 HG5.out hb (by decide)
          · rw [HS.out, List.length_append, List.flatMap_append]
            exact HO5.out
        case measure => simp [intOf]; omega
      · have hkk : k = L.length := by omega
        have hT : L.take k = L := by rw [hkk, List.take_length]
        rw [hT] at HOWN
        clear hT hrow
        go_wp2
        go_ret
        rw [HM0.out]
        exact ⟨⟨_, rfl, Row.of_owns HOWN.out⟩, HROOM.out, HFR.out⟩
end Go.Proofs.Rm
