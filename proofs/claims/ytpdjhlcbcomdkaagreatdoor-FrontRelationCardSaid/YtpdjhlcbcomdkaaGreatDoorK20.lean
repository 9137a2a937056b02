/- Several texts in one: The walks of door.Owned and door.Heard. The walk of door.Item. -/
import Derived.Test.YtpdjhlcbcomdkaaGreatDoorK11
import Derived.Test.YtpdjhlcbcomdkaaGreatDoorK14
import Derived.Test.YtpdjhlcbcomdkaaGreatDoorK16
import Derived.Test.YtpdjhlcbcomdkaaGreatDoorK18
import Derived.Test.YtpdjhlcbcomdkaaGreatDoorK19
set_option linter.unusedSimpArgs false
namespace Go.Proofs.By
open Go.RowKit Go.Proofs.Heap
open Go.Proofs.Rm (TurnRow Turn Room RoomAt Inv of of_some of_lt Of_any Source_any Sub_any hears)
set_option maxHeartbeats 2000000 in
theorem Owned_any (b : Nat) (R : Room) (peer x : Int) (w : World) (hR : RoomAt w b R) (hI : Inv R) (hl : ∀ n, (R.src n).ss.length ≤ 1000000) :
    Calls Tryz.prog 130 #[.pointer (some ⟨b, 0, none⟩), .int .i64 peer, .int .u32 x] w fun e w' => (∃ n l : Int, e = .returned (.tuple #[.int .i64 n, .int .i64 l, .bool (owned R peer x)])) ∧ Below w.heap.size w w' := by
  obtain ⟨n, O2, O3, hO⟩ : ∃ (n : Nat) (O2 : Int) (O3 : Bool), of R x = ((n : Int), O2, O3) := ⟨(of R x).1.toNat, (of R x).2.1, (of R x).2.2, by rw [Int.toNat_of_nonneg (of_lt R x).1]⟩
  have HX : Hid (owned R peer x = (O3 && decide ((R.src n).own = peer))) := by
    show _ = _
    unfold owned
    rw [hO]
    rfl
  have HTH : Hid (O3 = true → (R.src n).there = true) := by
    show _ → _
    intro h3
    obtain ⟨m, _, h1, _, h2⟩ := of_some (R := R) (x := x) (by rw [hO]; exact h3)
    rw [hO] at h2
    have h4 : (n : Int) = (m : Int) := congrArg (·.1) h2
    have h4 : n = m := by omega
    rw [h4]; exact h1
  have COF : Hid (Calls Tryz.prog 127 #[.pointer (some ⟨b, 0, none⟩), .int .u32 x] w fun e w' => e = .returned (.tuple #[.int .i64 (n : Int), .int .i64 O2, .bool O3]) ∧ Below w.heap.size w w') := by
    have h := Of_any b R x w hR
    rw [hO] at h
    exact h
  have CSR := Lib.hid (fun (w2 : World) (h : Below w.heap.size w w2) => Source_any b R n w2 (hR.below h) hI hl)
  generalize owned R peer x = X at *
  clear hO hR hI hl
  cases O3 with
  | false =>
    have HX0 : Hid (X = false) := by show _ = _; rw [HX.out]; rfl
    clear HX HTH
    go_enter Tryz.func130, Tryz.ntmps130
    go_wp2_with (first | (go_at_call 127; refine COF.out.mono ?_; rintro e w2 ⟨rfl, hb2⟩; have HB2 := Lib.hid hb2; clear hb2) | (go_at_call 81; refine (CSR.out _ HB2.out).mono ?_; rintro e w3 ⟨⟨nm, ow, a, k, c, mu, has, rfl, hhas, how⟩, hb3⟩; have HB3 := Lib.hid (HB2.out.trans (hb3.mono HB2.out.size)); clear hb3 hhas how))
    go_ret3
    exact ⟨⟨0, 0, by rw [HX0.out]; rfl⟩, bel_alloc HB3.out (Nat.le_refl _) _⟩
  | true =>
    by_cases hp : (R.src n).own = peer
    · have HX0 : Hid (X = true) := by show _ = _; rw [HX.out, decide_eq_true hp]; rfl
      have HP := Lib.hid hp
      clear HX hp
      go_enter Tryz.func130, Tryz.ntmps130
      go_wp2_with (first | (go_at_call 127; refine COF.out.mono ?_; rintro e w2 ⟨rfl, hb2⟩; have HB2 := Lib.hid hb2; clear hb2) | (go_at_call 81; refine (CSR.out _ HB2.out).mono ?_; rintro e w3 ⟨⟨nm, ow, a, k, c, mu, has, rfl, hhas, how⟩, hb3⟩; have HB3 := Lib.hid (HB2.out.trans (hb3.mono HB2.out.size)); have how2 : ow = peer := ((how (by rw [hhas]; exact HTH.out (by first | rfl | trivial))).trans HP.out); have hbb : (ow != peer) = false := (by rw [how2]; simp); have hbb2 : (ow == peer) = true := (by rw [how2]; simp); clear hb3 hhas how how2))
      go_ret3
      exact ⟨⟨(n : Int), O2, by rw [HX0.out]; rfl⟩, bel_alloc HB3.out (Nat.le_refl _) _⟩
    · have HX0 : Hid (X = false) := by show _ = _; rw [HX.out, decide_eq_false hp]; rfl
      have HP := Lib.hid hp
      clear HX hp
      go_enter Tryz.func130, Tryz.ntmps130
      go_wp2_with (first | (go_at_call 127; refine COF.out.mono ?_; rintro e w2 ⟨rfl, hb2⟩; have HB2 := Lib.hid hb2; clear hb2) | (go_at_call 81; refine (CSR.out _ HB2.out).mono ?_; rintro e w3 ⟨⟨nm, ow, a, k, c, mu, has, rfl, hhas, how⟩, hb3⟩; have HB3 := Lib.hid (HB2.out.trans (hb3.mono HB2.out.size)); have how2 := how (by rw [hhas]; exact HTH.out (by first | rfl | trivial)); have hne : ow ≠ peer := (by rw [how2]; exact HP.out); have hbb : (ow != peer) = true := (by rw [bne_iff_ne]; exact hne); have hbb2 : (ow == peer) = false := (by rw [beq_eq_false_iff_ne]; exact hne); clear hb3 hhas how how2 hne))
      go_ret3
      exact ⟨⟨0, 0, by rw [HX0.out]; rfl⟩, bel_alloc HB3.out (Nat.le_refl _) _⟩
set_option maxHeartbeats 2000000 in
theorem Heard_any (b : Nat) (R : Room) (peer x : Int) (w : World) (hR : RoomAt w b R) (h0 : 0 ≤ x) (h1 : x < 4294967296) :
    Calls Tryz.prog 131 #[.pointer (some ⟨b, 0, none⟩), .int .i64 peer, .int .u32 x] w fun e w' => (∃ n : Int, e = .returned (.tuple #[.int .i64 n, .bool (heardBy R peer x)])) ∧ Below w.heap.size w w' := by
  have CW := Lib.hid (sWhose_any x w h0 h1)
  have HX : Hid (heardBy R peer x = ((whose x).2.2 && decide ((whose x).1 = peer) && hears R peer (whose x).2.1)) := rfl
  generalize whose x = W at *
  obtain ⟨wp, ws, wk⟩ := W
  dsimp only at CW HX
  have CS := Lib.hid (Sub_any b R peer ws w hR)
  generalize heardBy R peer x = X at *
  generalize hears R peer ws = hv at *
  generalize (R.sub ws.toNat peer.toNat).want = s1 at *
  generalize (R.sub ws.toNat peer.toNat).paused = s2 at *
  clear hR h0 h1
  cases wk with
  | false =>
    have HX0 : Hid (X = false) := by show _ = _; rw [HX.out]; rfl
    clear HX
    cases hv with
    | false =>
      rw [if_neg (by simp)] at CS
      go_enter Tryz.func131, Tryz.ntmps131
      go_wp2_with (first | (go_at_call 160; refine CW.out.mono ?_; rintro e w2 ⟨rfl, rfl⟩) | (go_at_call 83; refine CS.out.mono ?_; rintro e w3 ⟨rfl, hb3⟩; have HB3 := Lib.hid hb3; clear hb3))
      go_ret2
      exact ⟨⟨0, by rw [HX0.out]; rfl⟩, bel_alloc HB3.out (Nat.le_refl _) _⟩
    | true =>
      rw [if_pos rfl] at CS
      go_enter Tryz.func131, Tryz.ntmps131
      go_wp2_with (first | (go_at_call 160; refine CW.out.mono ?_; rintro e w2 ⟨rfl, rfl⟩) | (go_at_call 83; refine CS.out.mono ?_; rintro e w3 ⟨rfl, hb3⟩; have HB3 := Lib.hid hb3; clear hb3))
      go_ret2
      exact ⟨⟨0, by rw [HX0.out]; rfl⟩, bel_alloc HB3.out (Nat.le_refl _) _⟩
  | true =>
    by_cases hp : wp = peer
    · subst hp
      cases hv with
      | false =>
        have HX0 : Hid (X = false) := by show _ = _; rw [HX.out]; simp
        rw [if_neg (by simp)] at CS
        clear HX
        go_enter Tryz.func131, Tryz.ntmps131
        go_wp2_with (first | (go_at_call 160; refine CW.out.mono ?_; rintro e w2 ⟨rfl, rfl⟩) | (go_at_call 83; refine CS.out.mono ?_; rintro e w3 ⟨rfl, hb3⟩; have HB3 := Lib.hid hb3; clear hb3))
        go_ret2
        exact ⟨⟨0, by rw [HX0.out]; rfl⟩, bel_alloc HB3.out (Nat.le_refl _) _⟩
      | true =>
        have HX0 : Hid (X = true) := by show _ = _; rw [HX.out]; simp
        rw [if_pos rfl] at CS
        clear HX
        go_enter Tryz.func131, Tryz.ntmps131
        go_wp2_with (first | (go_at_call 160; refine CW.out.mono ?_; rintro e w2 ⟨rfl, rfl⟩) | (go_at_call 83; refine CS.out.mono ?_; rintro e w3 ⟨rfl, hb3⟩; have HB3 := Lib.hid hb3; clear hb3))
        go_ret2
        exact ⟨⟨ws, by rw [HX0.out]; rfl⟩, bel_alloc HB3.out (Nat.le_refl _) _⟩
    · have HX0 : Hid (X = false) := by show _ = _; rw [HX.out, decide_eq_false hp]; simp
      have hbb : (wp != peer) = true := by rw [bne_iff_ne]; exact hp
      have hbb2 : (wp == peer) = false := by rw [beq_eq_false_iff_ne]; exact hp
      clear HX hp
      cases hv with
      | false =>
        rw [if_neg (by simp)] at CS
        go_enter Tryz.func131, Tryz.ntmps131
        go_wp2_with (first | (go_at_call 160; refine CW.out.mono ?_; rintro e w2 ⟨rfl, rfl⟩) | (go_at_call 83; refine CS.out.mono ?_; rintro e w3 ⟨rfl, hb3⟩; have HB3 := Lib.hid hb3; clear hb3))
        go_ret2
        exact ⟨⟨0, by rw [HX0.out]; rfl⟩, bel_alloc HB3.out (Nat.le_refl _) _⟩
      | true =>
        rw [if_pos rfl] at CS
        go_enter Tryz.func131, Tryz.ntmps131
        go_wp2_with (first | (go_at_call 160; refine CW.out.mono ?_; rintro e w2 ⟨rfl, rfl⟩) | (go_at_call 83; refine CS.out.mono ?_; rintro e w3 ⟨rfl, hb3⟩; have HB3 := Lib.hid hb3; clear hb3))
        go_ret2
        exact ⟨⟨0, by rw [HX0.out]; rfl⟩, bel_alloc HB3.out (Nat.le_refl _) _⟩
end Go.Proofs.By
set_option linter.unusedSimpArgs false
namespace Go.Proofs.By
open Go.RowKit Go.Proofs.Heap
open Go.Proofs.Rm (TurnRow Turn Room RoomAt Inv Slim u32s turnCells elemTurn turns_len turns_one owns_fr own_le goneOp Gone_any inv_goneOp slim_goneOp)
theorem take_snocG {l : List Int} {k : Nat} (h : k < l.length) : l.take (k + 1) = l.take k ++ [l.getD k 0] := by
  rw [List.take_succ_eq_append_getElem h, List.getD_eq_getElem?_getD, List.getElem?_eq_getElem h]; rfl
set_option maxRecDepth 100000 in
set_option maxHeartbeats 4000000 in
theorem ItemDo_any (b : Nat) (R : Room) (peer : Int) (x : ItmV) (w : World) (hR : RoomAt w b R) (hI : Inv R) (hS : Slim R) (hok : ItmOk x.i) (hx : ItmR w x) :
    Calls Tryz.prog 108 #[.pointer (some ⟨b, 0, none⟩), .int .i64 peer, .agg (itmvCells x).toArray] w fun e w' =>
      (∃ v, e = .returned (.tuple #[v, .int .i64 (itemDo R peer x.i).2]) ∧ TurnRow w' v (itemDo R peer x.i).1.1) ∧ RoomAt w' b (itemDo R peer x.i).1.2 ∧ Fr w.heap.size (· = b) w w' := by
  obtain ⟨i, bv, gv, pv⟩ := x
  obtain ⟨ba, bc, hbv⟩ := Row.form hx.b
  obtain ⟨ga, gc, hgv⟩ := Row.form hx.g
  obtain ⟨pa, pc, hpv⟩ := Row.form hx.p
  have hgr := hx.g
  obtain ⟨kd, ss, nt, tm, pk, oc, bs, gn, md, ps⟩ := i
  have hm0 := hok.m0
  have hm1 := hok.m1
  have hgl := hok.g
  clear hok hx
  dsimp only at hbv hgv hpv hgr hm0 hm1 hgl ⊢
  subst hbv; subst hgv; subst hpv
  dsimp only [itmvCells]
  have HB1 : Hid (Below w.heap.size w (w.alloc (.cells #[.int .i64 kd, .int .u32 ss, .int .u64 nt, .int .u32 tm, .int .u32 pk, .int .u32 oc, .slice ba bs.length bc, .slice ga gn.length gc, .int .u32 md, .slice pa ps.length pc] 173))) := below_alloc w _
  have hz := heap_new w (.cells #[.int .i64 kd, .int .u32 ss, .int .u64 nt, .int .u32 tm, .int .u32 pk, .int .u32 oc, .slice ba bs.length bc, .slice ga gn.length gc, .int .u32 md, .slice pa ps.length pc] 173)
  have HR := Lib.hid hR
  have HR1 := Lib.hid (hR.below HB1.out)
  have hb := hR.lt
  have HIT : Hid (itemDo R peer ⟨kd, ss, nt, tm, pk, oc, bs, gn, md, ps⟩ = if kd = 200 then (([], R), if owned R peer ss then 0 else 1) else if kd = 205 ∨ kd = 206 then (([], R), if heardBy R peer md then 0 else 1) else if kd = 203 then goneAll peer gn R else (([], R), 0)) := rfl
  generalize itemDo R peer ⟨kd, ss, nt, tm, pk, oc, bs, gn, md, ps⟩ = X at *
  generalize bs.length = bl at *
  generalize ps.length = pl at *
  by_cases k200 : kd = 200
  · subst k200
    have HX1 : Hid (X = (([], R), if owned R peer ss then 0 else 1)) := by show _ = _; rw [HIT.out]; simp
    have CO := Lib.hid (Owned_any b R peer ss _ HR1.out hI hS.short)
    clear HIT hI hS hgr hR hm0 hm1 hgl
    generalize owned R peer ss = O at *
    cases O with
    | false =>
      have HX : Hid (X = (([], R), 1)) := by show _ = _; rw [HX1.out]; rfl
      clear HX1
      go_enter Tryz.func108, Tryz.ntmps108
      go_wp2_with (go_at_call 130; refine CO.out.mono ?_; rintro e w2 ⟨⟨n, l, rfl⟩, hb2⟩; have HBW := Lib.hid (HB1.out.trans (hb2.mono HB1.out.size)); have hz2 := (hb2.block w.heap.size (hp_lt hz)).trans hz; have c0 := cell_of hz2 0; simp only [List.getElem?_toArray, List.getElem?_cons_zero] at c0; clear hb2 hz2)
      go_ret2
      exact ⟨⟨.slice none 0 0, by rw [HX.out]; rfl, by rw [HX.out]; exact Row.nil _ _⟩, by rw [HX.out]; exact HR.out.below HBW.out, Fr.of_below _ HBW.out⟩
    | true =>
      have HX : Hid (X = (([], R), 0)) := by show _ = _; rw [HX1.out]; rfl
      clear HX1
      go_enter Tryz.func108, Tryz.ntmps108
      go_wp2_with (go_at_call 130; refine CO.out.mono ?_; rintro e w2 ⟨⟨n, l, rfl⟩, hb2⟩; have HBW := Lib.hid (HB1.out.trans (hb2.mono HB1.out.size)); have hz2 := (hb2.block w.heap.size (hp_lt hz)).trans hz; have c0 := cell_of hz2 0; simp only [List.getElem?_toArray, List.getElem?_cons_zero] at c0; clear hb2 hz2)
      go_ret2
      exact ⟨⟨.slice none 0 0, by rw [HX.out]; rfl, by rw [HX.out]; exact Row.nil _ _⟩, by rw [HX.out]; exact HR.out.below HBW.out, Fr.of_below _ HBW.out⟩
  by_cases k205 : kd = 205
  · subst k205
    have HX1 : Hid (X = (([], R), if heardBy R peer md then 0 else 1)) := by show _ = _; rw [HIT.out]; simp
    have CO := Lib.hid (Heard_any b R peer md _ HR1.out hm0 hm1)
    clear HIT hI hS hgr hR hm0 hm1 hgl
    generalize heardBy R peer md = O at *
    cases O with
    | false =>
      have HX : Hid (X = (([], R), 1)) := by show _ = _; rw [HX1.out]; rfl
      clear HX1
      go_enter Tryz.func108, Tryz.ntmps108
      go_wp2_with (go_at_call 131; refine CO.out.mono ?_; rintro e w2 ⟨⟨n, rfl⟩, hb2⟩; have HBW := Lib.hid (HB1.out.trans (hb2.mono HB1.out.size)); have hz2 := (hb2.block w.heap.size (hp_lt hz)).trans hz; have c0 := cell_of hz2 0; simp only [List.getElem?_toArray, List.getElem?_cons_zero] at c0; clear hb2 hz2)
      go_ret2
      exact ⟨⟨.slice none 0 0, by rw [HX.out]; rfl, by rw [HX.out]; exact Row.nil _ _⟩, by rw [HX.out]; exact HR.out.below HBW.out, Fr.of_below _ HBW.out⟩
    | true =>
      have HX : Hid (X = (([], R), 0)) := by show _ = _; rw [HX1.out]; rfl
      clear HX1
      go_enter Tryz.func108, Tryz.ntmps108
      go_wp2_with (go_at_call 131; refine CO.out.mono ?_; rintro e w2 ⟨⟨n, rfl⟩, hb2⟩; have HBW := Lib.hid (HB1.out.trans (hb2.mono HB1.out.size)); have hz2 := (hb2.block w.heap.size (hp_lt hz)).trans hz; have c0 := cell_of hz2 0; simp only [List.getElem?_toArray, List.getElem?_cons_zero] at c0; clear hb2 hz2)
      go_ret2
      exact ⟨⟨.slice none 0 0, by rw [HX.out]; rfl, by rw [HX.out]; exact Row.nil _ _⟩, by rw [HX.out]; exact HR.out.below HBW.out, Fr.of_below _ HBW.out⟩
  by_cases k206 : kd = 206
  · subst k206
    have HX1 : Hid (X = (([], R), if heardBy R peer md then 0 else 1)) := by show _ = _; rw [HIT.out]; simp
    have CO := Lib.hid (Heard_any b R peer md _ HR1.out hm0 hm1)
    clear HIT hI hS hgr hR hm0 hm1 hgl
    generalize heardBy R peer md = O at *
    cases O with
    | false =>
      have HX : Hid (X = (([], R), 1)) := by show _ = _; rw [HX1.out]; rfl
      clear HX1
      go_enter Tryz.func108, Tryz.ntmps108
      go_wp2_with (go_at_call 131; refine CO.out.mono ?_; rintro e w2 ⟨⟨n, rfl⟩, hb2⟩; have HBW := Lib.hid (HB1.out.trans (hb2.mono HB1.out.size)); have hz2 := (hb2.block w.heap.size (hp_lt hz)).trans hz; have c0 := cell_of hz2 0; simp only [List.getElem?_toArray, List.getElem?_cons_zero] at c0; clear hb2 hz2)
      go_ret2
      exact ⟨⟨.slice none 0 0, by rw [HX.out]; rfl, by rw [HX.out]; exact Row.nil _ _⟩, by rw [HX.out]; exact HR.out.below HBW.out, Fr.of_below _ HBW.out⟩
    | true =>
      have HX : Hid (X = (([], R), 0)) := by show _ = _; rw [HX1.out]; rfl
      clear HX1
      go_enter Tryz.func108, Tryz.ntmps108
      go_wp2_with (go_at_call 131; refine CO.out.mono ?_; rintro e w2 ⟨⟨n, rfl⟩, hb2⟩; have HBW := Lib.hid (HB1.out.trans (hb2.mono HB1.out.size)); have hz2 := (hb2.block w.heap.size (hp_lt hz)).trans hz; have c0 := cell_of hz2 0; simp only [List.getElem?_toArray, List.getElem?_cons_zero] at c0; clear hb2 hz2)
      go_ret2
      exact ⟨⟨.slice none 0 0, by rw [HX.out]; rfl, by rw [HX.out]; exact Row.nil _ _⟩, by rw [HX.out]; exact HR.out.below HBW.out, Fr.of_below _ HBW.out⟩
  have e1 : (kd == 200) = false := by rw [beq_eq_false_iff_ne]; exact k200
  have e2 : (kd == 205) = false := by rw [beq_eq_false_iff_ne]; exact k205
  have e3 : (kd == 206) = false := by rw [beq_eq_false_iff_ne]; exact k206
  have HX2 : Hid (X = if kd = 203 then goneAll peer gn R else (([], R), 0)) := by show _ = _; rw [HIT.out, if_neg k200, if_neg (by omega)]
  clear HIT hm0 hm1
  by_cases k203 : kd = 203
  rotate_left
  · have HX : Hid (X = (([], R), 0)) := by show _ = _; rw [HX2.out, if_neg k203]
    have e4 : (kd == 203) = false := by rw [beq_eq_false_iff_ne]; exact k203
    have e5 : (kd != 203) = true := by rw [bne_iff_ne]; exact k203
    have HBW := HB1
    clear HX2 hgr hI hS hR
    go_enter Tryz.func108, Tryz.ntmps108
    go_wp2_with fail
    go_ret2
    exact ⟨⟨.slice none 0 0, by rw [HX.out]; rfl, by rw [HX.out]; exact Row.nil _ _⟩, by rw [HX.out]; exact HR.out.below HBW.out, Fr.of_below _ HBW.out⟩
  subst k203
  have HX : Hid (X = goneAll peer gn R) := by show _ = _; rw [HX2.out, if_pos rfl]
  have HGR := Lib.hid hgr
  have HTY : Hid (∀ k c fr, k = b → w.heap[k]? ≠ some (.cells c 66 fr)) := hR.typ (by decide)
  have HIV : Hid (∀ j, Inv (goneAll peer (gn.take j) R).1.2 ∧ (goneAll peer (gn.take j) R).1.1.length ≤ 18 * (gn.take j).length ∧ 0 ≤ (goneAll peer (gn.take j) R).2 ∧ (goneAll peer (gn.take j) R).2 ≤ (gn.take j).length) := fun j => by
    have h := goneAll_ok peer (gn.take j) R hI hS
    exact ⟨h.1, h.2.2⟩
  clear HX2 hgr hI hS e1 e2 e3 k200 k205 k206
  go_enter Tryz.func108, Tryz.ntmps108
  go_wp2_with fail
  go_loopw [6, 7, 45] (fun s6 s7 s45 w' => ∃ j : Nat, j ≤ gn.length ∧ s45 = .int .i64 (j : Int) ∧ s7 = .int .i64 (goneAll peer (gn.take j) R).2 ∧ Fr w.heap.size (· = b) w w' ∧ RoomAt w' b (goneAll peer (gn.take j) R).1.2 ∧ w'.ownsRow w.heap.size 158 5 s6 (goneAll peer (gn.take j) R).1.1.length ((goneAll peer (gn.take j) R).1.1.flatMap turnCells)) (fun _ _ s45 _ => gn.length - (intOf s45).toNat)
  case atStart => exact ⟨0, by omega, rfl, rfl, Fr.of_below _ HB1.out, HR1.out, World.ownsRow_nil _ _ _ _⟩
  case round =>
    obtain ⟨j, hj, rfl, rfl, hfr, hroom, hown⟩ := hrel
    have HFR := Lib.hid hfr
    have HROOM := Lib.hid hroom
    have HOWN := Lib.hid hown
    have hsz := hfr.size
    obtain ⟨oa, oc', hs6, -⟩ := Row.of_owns hown
    subst hs6
    clear hfr hroom hown
    by_cases hjl : j < gn.length
    · have hrow := HGR.out.fr HFR.out (Nat.le_refl _) HTY.out
      obtain ⟨g', off', cap', e1, -, -, hg', hcells⟩ := Rm.u32_open (l := gn) hrow (by omega)
      cases e1
      have hc := hcells j hjl
      have HT := Lib.hid (take_snocG hjl)
      have hiv := HIV.out j
      have hcn := cnt_le
      rw [List.length_take] at hiv
      obtain ⟨-, hi2, hi3, hi4⟩ := hiv
      clear hcells hrow
      generalize gn.getD j 0 = p at *
      have HS := Lib.hid (goneAll_snoc peer p (gn.take j) R)
      have CG := Lib.hid (Gone_any b (goneAll peer (gn.take j) R).1.2 peer p wr HROOM.out)
      have HGL := goneOp_len (goneAll peer (gn.take j) R).1.2 peer p
      generalize goneAll peer (gn.take j) R = G at *
      generalize goneOp G.1.2 peer p = Y at *
      obtain ⟨⟨Y1, Y2⟩, ye⟩ := Y
      obtain ⟨⟨G1, G2⟩, gu⟩ := G
      dsimp only at CG HS HGL HROOM HOWN hi2 hi3 hi4
      by_cases hye : ye = 0
      · subst hye
        have HS2 : Hid (goneAll peer (gn.take j ++ [p]) R = ((G1 ++ Y1, Y2), gu)) := by show _ = _; rw [HS.out]; simp [cnt]
        clear HS hcn
        go_wp2_with (first | (go_at_call 132; refine CG.out.mono ?_; rintro e w2 ⟨⟨tv, rfl, htr⟩, hroom2, hfr2⟩; obtain ⟨ta, tc, htv, -⟩ := id htr; subst htv; have HTR := Lib.hid htr; have HROOM2 := Lib.hid hroom2; have HFR2 := Lib.hid hfr2; have hs2 := hfr2.size; clear hroom2 hfr2 htr) | (at_builtin; refine wpList_app rfl (.tmp 60) (.tmp 61) 98 rfl w.heap.size elemTurn _ G1.length (G1.flatMap turnCells) rfl ?b1 _ Y1.length (Y1.flatMap turnCells) rfl ?b2 ?b3 ?b4 ?b5 ?b6 ?b7 (fun v' w3 HO HG => ?_)))
        case b1 => exact owns_fr HOWN.out HFR2.out (fun k hk => by omega)
        case b2 => exact HTR.out
        case b3 => exact turns_len _
        case b4 => exact turns_one _
        case b5 => omega
        case b6 => omega
        case b7 => omega
        go_roundw
        case rel =>
          refine ⟨j + 1, by omega, by go_num, by rw [HT.out, HS2.out], ?_, ?_, ?_⟩
          · exact (HFR.out.trans (HFR2.out.mono hsz (fun _ _ h => h))).grown HG.out (by omega) (own_le HOWN.out)
          · rw [HT.out, HS2.out]
            exact RoomAt.grown HROOM2.out (owns_fr HOWN.out HFR2.out (fun k hk => by omega)) HG.out hb (by decide)
          · rw [HT.out, HS2.out]
            dsimp only
            rw [List.length_append, List.flatMap_append]
            exact HO.out
        case measure => simp [intOf]; omega
      · have hn1 : (ye == 0) = false := by rw [beq_eq_false_iff_ne]; exact hye
        have hn2 : (ye != 0) = true := by rw [bne_iff_ne]; exact hye
        have HS2 : Hid (goneAll peer (gn.take j ++ [p]) R = ((G1 ++ Y1, Y2), gu + 1)) := by show _ = _; rw [HS.out]; simp [cnt, hye]
        clear HS hcn
        go_wp2_with (first | (go_at_call 132; refine CG.out.mono ?_; rintro e w2 ⟨⟨tv, rfl, htr⟩, hroom2, hfr2⟩; obtain ⟨ta, tc, htv, -⟩ := id htr; subst htv; have HTR := Lib.hid htr; have HROOM2 := Lib.hid hroom2; have HFR2 := Lib.hid hfr2; have hs2 := hfr2.size; clear hroom2 hfr2 htr) | (at_builtin; refine wpList_app rfl (.tmp 60) (.tmp 61) 98 rfl w.heap.size elemTurn _ G1.length (G1.flatMap turnCells) rfl ?b1 _ Y1.length (Y1.flatMap turnCells) rfl ?b2 ?b3 ?b4 ?b5 ?b6 ?b7 (fun v' w3 HO HG => ?_)))
        case b1 => exact owns_fr HOWN.out HFR2.out (fun k hk => by omega)
        case b2 => exact HTR.out
        case b3 => exact turns_len _
        case b4 => exact turns_one _
        case b5 => omega
        case b6 => omega
        case b7 => omega
        go_roundw
        case rel =>
          refine ⟨j + 1, by omega, by go_num, by rw [HT.out, HS2.out], ?_, ?_, ?_⟩
          · exact (HFR.out.trans (HFR2.out.mono hsz (fun _ _ h => h))).grown HG.out (by omega) (own_le HOWN.out)
          · rw [HT.out, HS2.out]
            exact RoomAt.grown HROOM2.out (owns_fr HOWN.out HFR2.out (fun k hk => by omega)) HG.out hb (by decide)
          · rw [HT.out, HS2.out]
            dsimp only
            rw [List.length_append, List.flatMap_append]
            exact HO.out
        case measure => simp [intOf]; omega
    · have hjj : j = gn.length := by omega
      have hT : gn.take j = gn := by rw [hjj, List.take_length]
      rw [hT] at HROOM HOWN ⊢
      clear HIV HGR
      generalize goneAll peer gn R = G at *
      go_wp2
      go_ret2
      exact ⟨⟨_, by rw [HX.out]; rfl, by rw [HX.out]; exact Row.of_owns HOWN.out⟩, by rw [HX.out]; exact HROOM.out, HFR.out⟩
end Go.Proofs.By
