/- Several texts in one: The walk of a view's send. The walk of a view's Sent. The walks of relation.Admits and relation.Sent. The script of law 21's shown: what comes of it. Plain. An operation that is taken early, with the way by which a later one waits for it: for regions whose guards stand in a row (to look for the way takes the kernel too long there). -/
import Derived.Test.YtpdjhlcbcomdkaaGreatDoorW13
import Derived.Test.YtpdjhlcbcomdkaaGreatDoorW19
import Derived.Test.YtpdjhlcbcomdkaaGreatDoorW26
set_option linter.unusedVariables false
set_option linter.unusedSimpArgs false
set_option linter.unusedSimpArgs false
namespace Go.Proofs.By
open Go.RowKit Go.Proofs.Heap Go.Proofs
open Go.Proofs.Rm (below_drewN own_le)
/-- What was sent so far, in block K; o0: what lies in the block's cell, ov: the row of the call's own. -/
structure SO (w w' : World) (K : Nat) (z : Snd) (o0 ov : Value) : Prop where
  bel : Below w.heap.size w w'
  blk : w'.heap[K]? = some (.cells #[o0, .int .i64 z.opn, .int .u32 z.begin, .int .u16 z.starts] 162 (0, 0))
  own : w'.ownsRow w.heap.size 70 6 ov z.out.length (z.out.flatMap emiCells)
  ge : w.heap.size ≤ K
section
variable {w w1 w2 : World} {K : Nat} {z : Snd} {o0 ov : Value}
theorem SO.below (h : SO w w1 K z o0 ov) (hb : Below w1.heap.size w1 w2) : SO w w2 K z o0 ov := ⟨h.bel.trans (hb.mono h.bel.size), (hb.block _ (hp_lt h.blk)).trans h.blk, owns_bel h.own hb, h.ge⟩
theorem SO.facts (h : SO w w1 K z o0 ov) : w1.cell? ⟨K, 0, none⟩ = some o0 ∧ w1.cell? ⟨K, 1, none⟩ = some (.int .i64 z.opn) ∧ w1.cell? ⟨K, 2, none⟩ = some (.int .u32 z.begin) ∧ w1.cell? ⟨K, 3, none⟩ = some (.int .u16 z.starts) :=
  ⟨by rw [cell_of h.blk 0]; rfl, by rw [cell_of h.blk 1]; rfl, by rw [cell_of h.blk 2]; rfl, by rw [cell_of h.blk 3]; rfl⟩
theorem SO.set (h : SO w w1 K z o0 ov) (o : Nat) (u : Value) (z' : Snd) (o0' : Value) (hz : z'.out = z.out) (hs : [o0, .int .i64 z.opn, .int .u32 z.begin, .int .u16 z.starts].set o u = [o0', .int .i64 z'.opn, .int .u32 z'.begin, .int .u16 z'.starts]) : SO w (w1.setCell ⟨K, o, none⟩ u) K z' o0' ov := by
  have h2 := hp_set h.blk o u
  rw [List.setIfInBounds_toArray, hs] at h2
  refine ⟨((Fr.of_below NoB h.bel).setCell (p := ⟨K, o, none⟩) (Or.inl h.ge) _).below, h2, ?_, h.ge⟩
  rw [hz]
  refine owns_block h.own (fun i hi => RowKit.Below.heap_setCell w1 ⟨K, o, none⟩ u i (fun e => ?_))
  have e : i = K := e
  subst e
  exact owns_typ h.own (by decide) _ _ _ hi h.blk
theorem SO.grow (h : SO w w1 K z o0 ov) (hg : w1.grownBy w2 ov.ownBlock) {ov' : Value} {l : List Emi} (ho : w2.ownsRow w.heap.size 70 6 ov' l.length (l.flatMap emiCells)) : SO w w2 K { z with out := l } o0 ov' :=
  ⟨((Fr.of_below NoB h.bel).grown hg h.bel.size (own_le h.own)).below, (hg.block _ (hp_lt h.blk) (fun e => owns_typ h.own (by decide) _ _ _ e.symm h.blk)).trans h.blk, ho, h.ge⟩
end
theorem emi_one (e : Emi) : ∀ u ∈ emiCells e, u.oneCell' = true := by
  intro u hu
  simp only [emiCells, List.mem_cons, List.mem_nil_iff, or_false] at hu
  rcases hu with rfl | rfl | rfl | rfl | rfl | rfl <;> rfl
section
variable {w : World} {V k : Nat} {ov av mv lv : Value} {L : List OpB} {x : Life} {wv cv qv : Value}
set_option maxRecDepth 100000 in
set_option maxHeartbeats 8000000 in
theorem Vsend_any (h : VB w V k ov av mv lv L x wv cv qv) {j : Nat} (hj : j < L.length) (hL : L.length ≤ 256) {s : VS} (hs : VAt w wv cv qv j s) (K : Nat) (z : Snd) (uv : Value) (w1 : World) (hso : SO w w1 K z uv uv) (hok : SndOk j z) :
    Calls Tryz.prog 91 #[.pointer (some ⟨V, 0, none⟩), .pointer (some ⟨K, 0, none⟩), .int .i64 (j : Int)] w1 fun e w2 => e = .returned (.tuple #[]) ∧ ∃ uv', SO w w2 K (sendV L x s z j) uv' uv' := by
  obtain ⟨g, o, c, a1, n1, c1, a2, n2, c2, a3, n3, c3, hmv, hm⟩ := med_at h hj
  subst hmv
  have CN0 := Lib.hid (fun (w' : World) (hb : Below w.heap.size w w') => Vopens_any (h.below hb) hj (hs.below hb))
  have HV := Lib.hid h.view
  have HBK := Lib.hid h.book
  have HMED := Lib.hid (fun (q : Nat) (hq : q < L.length) => med_at h hq)
  have HRDY := Lib.hid (ready_ok hok)
  have hlen := hok.len
  have HX : Hid (sendV L x s z j = { readyV z j (opensV s (takenAt L j).dsc) (takenAt L j).dsc.start with out := z.out ++ [emiV L x (readyV z j (opensV s (takenAt L j).dsc) (takenAt L j).dsc.start) j (opensV s (takenAt L j).dsc)] }) := rfl
  have hjI : (j : Int) < (L.length : Int) := Int.ofNat_lt.2 hj
  clear h hs hok
  generalize sendV L x s z j = X at *
  obtain ⟨xp, xs, xb, xf⟩ := x
  dsimp only at HV
  have HEM : Hid (∀ r op, emiV L ⟨xp, xs, xb, xf⟩ r j op = ⟨j, IntKind.u16.wrap r.out.length, IntKind.u32.wrap (IntKind.u32.wrap ((takenAt L j).pkt.time - (takenAt L r.opn.toNat).pkt.time) + r.begin), outOf xp xs, IntKind.u16.wrap (r.starts - 1), op⟩) := fun _ _ => rfl
  generalize opensV s (takenAt L j).dsc = op at *
  have hm1 : w1.rangeAt g (o + j * 15) [.bool (takenAt L j).pkt.marker, .int .i64 (takenAt L j).pkt.type, .int .u16 (takenAt L j).pkt.seq, .int .u32 (takenAt L j).pkt.time, .int .u32 (takenAt L j).pkt.ssrc, .slice a1 n1 c1, .bool (takenAt L j).pkt.hasExt, .int .u16 (takenAt L j).pkt.profile, .slice a2 n2 c2, .slice a3 n3 c3, .int .i64 (takenAt L j).pkt.pad, .int .i64 (takenAt L j).dsc.layer, .bool (takenAt L j).dsc.key, .bool (takenAt L j).dsc.start, .int .u16 (takenAt L j).dsc.frame] := fun m v hv => cell_old (hm m v hv) hso.bel
  generalize (takenAt L j).pkt = P at *
  generalize (takenAt L j).dsc = D at *
  have hz := heap_new w1 (.cells #[.bool false, .int .i64 0, .int .u16 0, .int .u32 0, .int .u32 0, .slice none 0 0, .bool false, .int .u16 0, .slice none 0 0, .slice none 0 0, .int .i64 0, .int .i64 0, .bool false, .bool false, .int .u16 0] 97)
  have HSO2 : Hid (SO w ((w1.alloc (.cells #[.bool false, .int .i64 0, .int .u16 0, .int .u32 0, .int .u32 0, .slice none 0 0, .bool false, .int .u16 0, .slice none 0 0, .slice none 0 0, .int .i64 0, .int .i64 0, .bool false, .bool false, .int .u16 0] 97)).setRow w1.heap.size #[.bool P.marker, .int .i64 P.type, .int .u16 P.seq, .int .u32 P.time, .int .u32 P.ssrc, .slice a1 n1 c1, .bool P.hasExt, .int .u16 P.profile, .slice a2 n2 c2, .slice a3 n3 c3, .int .i64 P.pad, .int .i64 D.layer, .bool D.key, .bool D.start, .int .u16 D.frame]) K z uv uv) := hso.below (below_setRow (below_alloc w1 _) (Nat.le_refl _) _)
  have HT2 : Hid (((w1.alloc (.cells #[.bool false, .int .i64 0, .int .u16 0, .int .u32 0, .int .u32 0, .slice none 0 0, .bool false, .int .u16 0, .slice none 0 0, .slice none 0 0, .int .i64 0, .int .i64 0, .bool false, .bool false, .int .u16 0] 97)).setRow w1.heap.size #[.bool P.marker, .int .i64 P.type, .int .u16 P.seq, .int .u32 P.time, .int .u32 P.ssrc, .slice a1 n1 c1, .bool P.hasExt, .int .u16 P.profile, .slice a2 n2 c2, .slice a3 n3 c3, .int .i64 P.pad, .int .i64 D.layer, .bool D.key, .bool D.start, .int .u16 D.frame]).heap[w1.heap.size]? = some (.cells #[.bool P.marker, .int .i64 P.type, .int .u16 P.seq, .int .u32 P.time, .int .u32 P.ssrc, .slice a1 n1 c1, .bool P.hasExt, .int .u16 P.profile, .slice a2 n2 c2, .slice a3 n3 c3, .int .i64 P.pad, .int .i64 D.layer, .bool D.key, .bool D.start, .int .u16 D.frame] 97 (0, 0))) := setRow_heap _ _ _ #[.bool P.marker, .int .i64 P.type, .int .u16 P.seq, .int .u32 P.time, .int .u32 P.ssrc, .slice a1 n1 c1, .bool P.hasExt, .int .u16 P.profile, .slice a2 n2 c2, .slice a3 n3 c3, .int .i64 P.pad, .int .i64 D.layer, .bool D.key, .bool D.start, .int .u16 D.frame] _ _ hz
  have v0 : w1.cell? ⟨V, 0, none⟩ = some (.pointer (some ⟨k, 0, none⟩)) := by rw [cell_of ((hso.bel.block _ (hp_lt HV.out)).trans HV.out) 0]; rfl
  have b2 : w1.cell? ⟨k, 2, none⟩ = some (.slice (some ⟨g, o, none⟩) L.length c) := by rw [cell_of ((hso.bel.block _ (hp_lt HBK.out)).trans HBK.out) 2]; rfl
  clear hm hso
  go_enter Tryz.func91, Tryz.ntmps91
  go_upto_region 1 with (first | (with_reducible refine load_at 97 (.tmp 17) rfl ?_; refine wpList_load_mid rfl 97 (.tmp 17) rfl g (o + j * 15) rfl [.bool P.marker, .int .i64 P.type, .int .u16 P.seq, .int .u32 P.time, .int .u32 P.ssrc, .slice a1 n1 c1, .bool P.hasExt, .int .u16 P.profile, .slice a2 n2 c2, .slice a3 n3 c3, .int .i64 P.pad, .int .i64 D.layer, .bool D.key, .bool D.start, .int .u16 D.frame] _ hm1 Tryz.underlying97 rfl (by kernel_rfl) ?_) | (with_reducible refine store_at 97 (.tmp 6) (.tmp 18) rfl ?_; refine store_rowTo2 rfl 97 (.tmp 6) (.tmp 18) rfl rfl w1.heap.size #[.bool P.marker, .int .i64 P.type, .int .u16 P.seq, .int .u32 P.time, .int .u32 P.ssrc, .slice a1 n1 c1, .bool P.hasExt, .int .u16 P.profile, .slice a2 n2 c2, .slice a3 n3 c3, .int .i64 P.pad, .int .i64 D.layer, .bool D.key, .bool D.start, .int .u16 D.frame] rfl rfl 97 #[.bool false, .int .i64 0, .int .u16 0, .int .u32 0, .int .u32 0, .slice none 0 0, .bool false, .int .u16 0, .slice none 0 0, .slice none 0 0, .int .i64 0, .int .i64 0, .bool false, .bool false, .int .u16 0] hz (by kernel_rfl) (by kernel_rfl) (by kernel_rfl) ?_))
  clear hz hm1 v0 b2
  generalize ((w1.alloc (.cells #[.bool false, .int .i64 0, .int .u16 0, .int .u32 0, .int .u32 0, .slice none 0 0, .bool false, .int .u16 0, .slice none 0 0, .slice none 0 0, .int .i64 0, .int .i64 0, .bool false, .bool false, .int .u16 0] 97)).setRow w1.heap.size #[.bool P.marker, .int .i64 P.type, .int .u16 P.seq, .int .u32 P.time, .int .u32 P.ssrc, .slice a1 n1 c1, .bool P.hasExt, .int .u16 P.profile, .slice a2 n2 c2, .slice a3 n3 c3, .int .i64 P.pad, .int .i64 D.layer, .bool D.key, .bool D.start, .int .u16 D.frame]) = w2 at *
  generalize w1.heap.size = T at *
  obtain ⟨out, opn, bg0, st0⟩ := z
  obtain ⟨ua, uc, rfl⟩ := Row.form (Row.of_owns HSO2.out.own)
  dsimp only at HX HRDY hlen HSO2
  have CN := Lib.hid (CN0.out w2 HSO2.out.bel)
  clear CN0
  go_upto_if 22 with (go_at_call 89; refine CN.out.mono ?_; rintro e w3 ⟨rfl, hb3⟩; have HSO3 := Lib.hid (HSO2.out.below hb3); have HT3 : Hid (w3.heap[T]? = some (.cells #[.bool P.marker, .int .i64 P.type, .int .u16 P.seq, .int .u32 P.time, .int .u32 P.ssrc, .slice a1 n1 c1, .bool P.hasExt, .int .u16 P.profile, .slice a2 n2 c2, .slice a3 n3 c3, .int .i64 P.pad, .int .i64 D.layer, .bool D.key, .bool D.start, .int .u16 D.frame] 97 (0, 0))) := (hb3.block _ (hp_lt HT2.out)).trans HT2.out; clear hb3 HSO2 HT2)
  go_cut [] (fun wx => SO w wx K ⟨out, if op then j else opn, if op then (if 0 < out.length then IntKind.u32.wrap ((lastE out).time + 3000) else bg0) else bg0, st0⟩ (.slice ua out.length uc) (.slice ua out.length uc) ∧ wx.heap[T]? = some (.cells #[.bool P.marker, .int .i64 P.type, .int .u16 P.seq, .int .u32 P.time, .int .u32 P.ssrc, .slice a1 n1 c1, .bool P.hasExt, .int .u16 P.profile, .slice a2 n2 c2, .slice a3 n3 c3, .int .i64 P.pad, .int .i64 D.layer, .bool D.key, .bool D.start, .int .u16 D.frame] 97 (0, 0)))
  case first =>
    cases op with
    | false =>
      go_wp2_with fail
      go_meet
      exact ⟨HSO3.out, HT3.out⟩
    | true =>
      obtain ⟨u0, u1, u2, u3⟩ := HSO3.out.facts
      have f1 := frozen_of HSO3.out.blk 1
      have f2 := frozen_of HSO3.out.blk 2
      have hKT : T ≠ K := fun e => by
        have h1 := HT3.out
        rw [e, HSO3.out.blk] at h1
        injection h1 with h1
        injection h1 with _ h1
        exact absurd h1 (by decide)
      by_cases hl : 0 < out.length
      · obtain ⟨m, hm⟩ : ∃ m, out.length = m + 1 := ⟨out.length - 1, by omega⟩
        obtain ⟨ge, oe, hea, -, x2⟩ := emi_at (m := m) (Row.of_owns HSO3.out.own) (by show m < out.length; omega)
        subst hea
        have HLA : Hid (lastE out = out.getD m noEmi) := by show _ = _; unfold lastE; rw [hm]; rfl
        have hw1 : IntKind.i64.wrap ((out.length : Int) - 1) = (m : Int) := by rw [IntWalk.i64_in _ (by omega)]; omega
        have hmI : (m : Int) < (out.length : Int) := by omega
        have hmN : m < out.length := by omega
        have dl : decide (0 < (out.length : Int)) = true := decide_eq_true (by omega)
        have hl1 : ((out.length : Int) - 1) = (m : Int) := by omega
        have HH : Hid (0 < out.length) := hl
        dsimp only at x2
        generalize out.getD m noEmi = E at *
        clear hm hl
        go_wp2_with fail
        go_meet
        rw [if_pos trivial, if_pos trivial, if_pos HH.out, HLA.out, IntKind.wrap_u32]
        exact ⟨(HSO3.out.set 1 (.int .i64 (j : Int)) ⟨out, j, bg0, st0⟩ _ rfl rfl).set 2 _ ⟨out, j, (E.time + 3000) % 4294967296, st0⟩ _ rfl rfl, (RowKit.Below.heap_setCell _ ⟨K, 2, none⟩ _ T hKT).trans ((RowKit.Below.heap_setCell _ ⟨K, 1, none⟩ _ T hKT).trans HT3.out)⟩
      · have dl : decide (0 < (out.length : Int)) = false := decide_eq_false (by omega)
        have dl2 : decide (0 < out.length) = false := decide_eq_false hl
        have HH : Hid (¬ 0 < out.length) := hl
        clear hl
        go_wp2_with fail
        go_meet
        rw [if_pos trivial, if_pos trivial, if_neg HH.out]
        exact ⟨HSO3.out.set 1 (.int .i64 (j : Int)) ⟨out, j, bg0, st0⟩ _ rfl rfl, (RowKit.Below.heap_setCell _ ⟨K, 1, none⟩ _ T hKT).trans HT3.out⟩
  case rest =>
    obtain ⟨w4, rfl⟩ : ∃ W : World, W = wc := ⟨_, rfl⟩
    have HSO4 := Lib.hid hcut.1
    have HT4 := Lib.hid hcut.2
    clear hcut HSO3 HT3
    have hrd := (HRDY.out op D.start).1
    have HXR : Hid (∀ st, readyV ⟨out, opn, bg0, st0⟩ j op st = ⟨out, if op then j else opn, if op then (if 0 < out.length then IntKind.u32.wrap ((lastE out).time + 3000) else bg0) else bg0, if st then IntKind.u16.wrap (st0 + 1) else st0⟩) := fun _ => rfl
    rw [HXR.out] at hrd
    dsimp only at hrd
    generalize (if op then (if 0 < out.length then IntKind.u32.wrap ((lastE out).time + 3000) else bg0) else bg0) = bg at *
    generalize hq : (if op then (j : Int) else opn) = oq at *
    obtain ⟨q, rfl⟩ : ∃ q : Nat, oq = (q : Int) := ⟨oq.toNat, by omega⟩
    have hqL : q < L.length := by omega
    clear hrd HRDY hq
    have y13 : w4.cell? ⟨T, 13, none⟩ = some (.bool D.start) := by rw [cell_of HT4.out 13]; rfl
    go_upto_if 50 with fail
    clear y13
    go_cut [] (fun wx => SO w wx K ⟨out, q, bg, if D.start then IntKind.u16.wrap (st0 + 1) else st0⟩ (.slice ua out.length uc) (.slice ua out.length uc) ∧ wx.heap[T]? = some (.cells #[.bool P.marker, .int .i64 P.type, .int .u16 P.seq, .int .u32 P.time, .int .u32 P.ssrc, .slice a1 n1 c1, .bool P.hasExt, .int .u16 P.profile, .slice a2 n2 c2, .slice a3 n3 c3, .int .i64 P.pad, .int .i64 D.layer, .bool D.key, .bool D.start, .int .u16 D.frame] 97 (0, 0)))
    case first =>
      have hKT : T ≠ K := fun e => by
        have h1 := HT4.out
        rw [e, HSO4.out.blk] at h1
        injection h1 with h1
        injection h1 with _ h1
        exact absurd h1 (by decide)
      obtain ⟨u0, u1, u2, u3⟩ := HSO4.out.facts
      have f3 := frozen_of HSO4.out.blk 3
      dsimp only at u3
      obtain ⟨dly, dke, dst, dfm⟩ := D
      cases dst with
      | false =>
        go_wp2_with fail
        go_meet
        exact ⟨HSO4.out, HT4.out⟩
      | true =>
        go_wp2_with fail
        go_meet
        rw [if_pos trivial]
        exact ⟨HSO4.out.set 3 _ ⟨out, q, bg, IntKind.u16.wrap (st0 + 1)⟩ _ rfl rfl, (RowKit.Below.heap_setCell _ ⟨K, 3, none⟩ _ T hKT).trans HT4.out⟩
    case rest =>
      obtain ⟨w5, rfl⟩ : ∃ W : World, W = wc := ⟨_, rfl⟩
      have HSO5 := Lib.hid (hcut.1.below (Below.refl _ _).drew)
      have HT5 : Hid (w5.drew.heap[T]? = some (.cells #[.bool P.marker, .int .i64 P.type, .int .u16 P.seq, .int .u32 P.time, .int .u32 P.ssrc, .slice a1 n1 c1, .bool P.hasExt, .int .u16 P.profile, .slice a2 n2 c2, .slice a3 n3 c3, .int .i64 P.pad, .int .i64 D.layer, .bool D.key, .bool D.start, .int .u16 D.frame] 97 (0, 0))) := hcut.2
      clear hcut HSO4 HT4
      have HXF : Hid (X = ⟨out ++ [emiV L ⟨xp, xs, xb, xf⟩ ⟨out, q, bg, if D.start then IntKind.u16.wrap (st0 + 1) else st0⟩ j op], q, bg, if D.start then IntKind.u16.wrap (st0 + 1) else st0⟩) := by show _ = _; rw [HX.out, HXR.out]
      rw [HEM.out] at HXF
      generalize (if D.start then IntKind.u16.wrap (st0 + 1) else st0) = sts at *
      dsimp only at HXF
      rw [Int.toNat_natCast] at HXF
      obtain ⟨g', o', c', b1, r1, s1, b2', r2, s2, b3, r3, s3, hgo, hmq⟩ := HMED.out q hqL
      cases hgo
      have HTQ : Hid (w.cell? ⟨g, o + q * 15 + 3, none⟩ = some (.int .u32 (takenAt L q).pkt.time)) := range_at hmq 3 rfl
      generalize (takenAt L q).pkt = PQ at *
      clear HX HXR HEM hmq HMED
      have hqI : (q : Int) < (L.length : Int) := Int.ofNat_lt.2 hqL
      have FACTS : Hid (∀ w', SO w w' K ⟨out, q, bg, sts⟩ (.slice ua out.length uc) (.slice ua out.length uc) → w'.heap[T]? = some (.cells #[.bool P.marker, .int .i64 P.type, .int .u16 P.seq, .int .u32 P.time, .int .u32 P.ssrc, .slice a1 n1 c1, .bool P.hasExt, .int .u16 P.profile, .slice a2 n2 c2, .slice a3 n3 c3, .int .i64 P.pad, .int .i64 D.layer, .bool D.key, .bool D.start, .int .u16 D.frame] 97 (0, 0)) → w'.cell? ⟨K, 0, none⟩ = some (.slice ua out.length uc) ∧ w'.cell? ⟨K, 1, none⟩ = some (.int .i64 (q : Int)) ∧ w'.cell? ⟨K, 2, none⟩ = some (.int .u32 bg) ∧ w'.cell? ⟨K, 3, none⟩ = some (.int .u16 sts) ∧ w'.cell? ⟨T, 3, none⟩ = some (.int .u32 P.time) ∧ w'.cell? ⟨V, 0, none⟩ = some (.pointer (some ⟨k, 0, none⟩)) ∧ w'.cell? ⟨V, 1, none⟩ = some (.int .i64 xp) ∧ w'.cell? ⟨V, 2, none⟩ = some (.int .i64 xs) ∧ w'.cell? ⟨k, 2, none⟩ = some (.slice (some ⟨g, o, none⟩) L.length c) ∧ w'.cell? ⟨g, o + q * 15 + 3, none⟩ = some (.int .u32 PQ.time)) := fun w' h1 h2 =>
        ⟨h1.facts.1, h1.facts.2.1, h1.facts.2.2.1, h1.facts.2.2.2, by rw [cell_of h2 3]; rfl, by rw [cell_of ((h1.bel.block _ (hp_lt HV.out)).trans HV.out) 0]; rfl, by rw [cell_of ((h1.bel.block _ (hp_lt HV.out)).trans HV.out) 1]; rfl, by rw [cell_of ((h1.bel.block _ (hp_lt HV.out)).trans HV.out) 2]; rfl, by rw [cell_of ((h1.bel.block _ (hp_lt HBK.out)).trans HBK.out) 2]; rfl, cell_old HTQ.out h1.bel⟩
      have CO := Lib.hid (sOut_any xp xs w5.drew)
      go_upto_region 9 with fail
      refine wp_region_noPanic ?_
      refine AnyT.region_start (d := 56) (S := (fun w' => w'.cell? ⟨K, 0, none⟩ = some (.slice ua out.length uc) ∧ w'.cell? ⟨K, 1, none⟩ = some (.int .i64 (q : Int)) ∧ w'.cell? ⟨K, 2, none⟩ = some (.int .u32 bg) ∧ w'.cell? ⟨K, 3, none⟩ = some (.int .u16 sts) ∧ w'.cell? ⟨T, 3, none⟩ = some (.int .u32 P.time) ∧ w'.cell? ⟨V, 0, none⟩ = some (.pointer (some ⟨k, 0, none⟩)) ∧ w'.cell? ⟨V, 1, none⟩ = some (.int .i64 xp) ∧ w'.cell? ⟨V, 2, none⟩ = some (.int .i64 xs) ∧ w'.cell? ⟨k, 2, none⟩ = some (.slice (some ⟨g, o, none⟩) L.length c) ∧ w'.cell? ⟨g, o + q * 15 + 3, none⟩ = some (.int .u32 PQ.time))) (by kernel_rfl) ?_ (fun hHeld0 => ?_)
      · (try dsimp only)
        exact FACTS.out _ HSO5.out HT5.out
      refine AnyT.tp 0 ?_ rfl ?_ <| AnyT.tp 1 ?_ rfl ?_ <| AnyT.tp 2 ?_ rfl ?_ <| AnyT.tp 3 ?_ rfl ?_ <| AnyT.tp 5 ?_ rfl ?_ <| AnyT.tp 6 ?_ rfl ?_ <| AnyT.tp 7 ?_ rfl ?_ <| AnyT.tp 8 ?_ rfl ?_ <| AnyT.tp 9 ?_ rfl ?_ <| AnyT.tp 13 ?_ rfl ?_ <| AnyT.tp 14 ?_ rfl ?_ <| AnyT.tp 16 ?_ rfl ?_ <| ?_
      any_goals (intro wS hSw; (try dsimp only at hSw); (try simp only [AnyT.pt]); go_simp; try with_reducible rfl)
      try simp only [AnyT.pt]
      refine AnyT.tp 17 ?_ rfl ?_ <| AnyT.tp 18 ?_ rfl ?_ <| AnyT.tp 23 ?_ rfl ?_ <| AnyT.tp 24 ?_ rfl ?_ <| AnyT.tp 25 ?_ rfl ?_ <| AnyT.tp 32 ?_ rfl ?_ <| AnyT.tp 33 ?_ rfl ?_ <| AnyT.tp 34 ?_ rfl ?_ <| AnyT.tp 37 ?_ rfl ?_ <| AnyT.tp 38 ?_ rfl ?_ <| AnyT.tp 39 ?_ rfl ?_ <| AnyT.tp 40 ?_ rfl ?_ <| ?_
      any_goals (intro wS hSw; (try dsimp only at hSw); (try simp only [AnyT.pt]); go_simp; try with_reducible rfl)
      try simp only [AnyT.pt]
      refine AnyT.tp 42 ?_ rfl ?_ <| AnyT.tp 43 ?_ rfl ?_ <| AnyT.tp 44 ?_ rfl ?_ <| AnyT.tp 45 ?_ rfl ?_ <| AnyT.tp 48 ?_ rfl ?_ <| AnyT.tp 49 ?_ rfl ?_ <| AnyT.tp 50 ?_ rfl ?_ <| AnyT.tk 4 ?_ rfl ?_ <| AnyT.tk 10 ?_ rfl ?_ <| AnyT.tp 11 ?_ rfl ?_ <| AnyT.tp 12 ?_ rfl ?_ <| AnyT.tk 15 ?_ rfl ?_ <| ?_
      any_goals (intro wS hSw; (try dsimp only at hSw); (try simp only [AnyT.pt]); go_simp; try with_reducible rfl)
      try simp only [AnyT.pt]
      refine AnyT.tk 19 ?_ rfl ?_ <| AnyT.tp 20 ?_ rfl ?_ <| AnyT.tp 21 ?_ rfl ?_ <| AnyT.tk 22 ?_ rfl ?_ <| AnyT.tk 26 ?_ rfl ?_ <| AnyT.tp 27 ?_ rfl ?_ <| AnyT.tp 28 ?_ rfl ?_ <| AnyT.tp 29 ?_ rfl ?_ <| AnyT.tk 30 ?_ rfl ?_ <| AnyT.tp 31 ?_ rfl ?_ <| AnyT.tk 35 ?_ rfl ?_ <| AnyT.tp 36 ?_ rfl ?_ <| ?_
      any_goals (intro wS hSw; (try dsimp only at hSw); (try simp only [AnyT.pt]); go_simp; try with_reducible rfl)
      try simp only [AnyT.pt]
      refine AnyT.tk 41 ?_ rfl ?_ <| AnyT.tk 46 ?_ rfl ?_ <| AnyT.tk 51 ?_ rfl ?_ <| AnyT.tp 52 ?_ rfl ?_ <| ?_
      any_goals (intro wS hSw; (try dsimp only at hSw); (try simp only [AnyT.pt]); go_simp; try with_reducible rfl)
      try simp only [AnyT.pt]
      refine AnyT.till_ready (rs := [47]) (by kernel_rfl) (by simp) ?_
      refine AnyT.each_cons (i := 47) rfl (fun K hK => ?_) AnyT.each_nil
      go_simp
      refine CO.out.mono ?_
      rintro e w' ⟨rfl, rfl⟩
      go_wp2_with fail
      refine AnyT.go_on hK _ _ ?_ (fun hHeld1 => ?_)
      · (try dsimp only)
        exact FACTS.out _ HSO5.out HT5.out
      clear hK K
      try simp only [AnyT.pt]
      refine AnyT.tp 53 ?_ rfl ?_ <| AnyT.tp 54 ?_ rfl ?_ <| ?_
      any_goals (intro wS hSw; (try dsimp only at hSw); (try simp only [AnyT.pt]); go_simp; try with_reducible rfl)
      try simp only [AnyT.pt]
      refine AnyT.till_ready (rs := [55]) (by kernel_rfl) (by simp) ?_
      refine AnyT.each_cons (i := 55) rfl (fun K hK => ?_) AnyT.each_nil
      refine step_slice1 (by rfl) elemEmi (.tmp 112) (by rfl) #[.int .i64 (j : Int), .int .u16 (IntKind.u16.wrap (out.length : Int)), .int .u32 (IntKind.u32.wrap (IntKind.u32.wrap (P.time - PQ.time) + bg)), .int .u32 (outOf xp xs), .int .u16 (IntKind.u16.wrap (sts - 1)), .bool op] (by rfl) (by rfl) (by decide) ?_
      have HR : Hid (Row (w5.drew.alloc (.cells #[.int .i64 (j : Int), .int .u16 (IntKind.u16.wrap (out.length : Int)), .int .u32 (IntKind.u32.wrap (IntKind.u32.wrap (P.time - PQ.time) + bg)), .int .u32 (outOf xp xs), .int .u16 (IntKind.u16.wrap (sts - 1)), .bool op] 70)) 70 (.slice (some ⟨w5.drew.heap.size, 0, none⟩) 1 1) 1 [.int .i64 (j : Int), .int .u16 (IntKind.u16.wrap (out.length : Int)), .int .u32 (IntKind.u32.wrap (IntKind.u32.wrap (P.time - PQ.time) + bg)), .int .u32 (outOf xp xs), .int .u16 (IntKind.u16.wrap (sts - 1)), .bool op]) := rowNew w5.drew 70 1 [.int .i64 (j : Int), .int .u16 (IntKind.u16.wrap (out.length : Int)), .int .u32 (IntKind.u32.wrap (IntKind.u32.wrap (P.time - PQ.time) + bg)), .int .u32 (outOf xp xs), .int .u16 (IntKind.u16.wrap (sts - 1)), .bool op] (by decide)
      have hal := below_alloc w5.drew (.cells #[.int .i64 (j : Int), .int .u16 (IntKind.u16.wrap (out.length : Int)), .int .u32 (IntKind.u32.wrap (IntKind.u32.wrap (P.time - PQ.time) + bg)), .int .u32 (outOf xp xs), .int .u16 (IntKind.u16.wrap (sts - 1)), .bool op] 70)
      have HSO5 := Lib.hid (HSO5.out.below hal)
      have HT5 := Lib.hid ((hal.block _ (hp_lt HT5.out)).trans HT5.out)
      clear hal
      refine AnyT.go_on hK _ _ ?_ (fun hHeld2 => ?_)
      · (try dsimp only)
        exact FACTS.out _ HSO5.out HT5.out
      clear hK K
      try simp only [AnyT.pt]
      refine AnyT.till_ready (rs := [56]) (by kernel_rfl) (by simp) ?_
      refine AnyT.each_cons (i := 56) rfl (fun K hK => ?_) AnyT.each_nil
      refine step_app (by rfl) (.tmp 62) (.tmp 113) 61 (by rfl) w.heap.size elemEmi (.slice ua out.length uc) out.length (out.flatMap emiCells) (by rfl) HSO5.out.own _ 1 [.int .i64 (j : Int), .int .u16 (IntKind.u16.wrap (out.length : Int)), .int .u32 (IntKind.u32.wrap (IntKind.u32.wrap (P.time - PQ.time) + bg)), .int .u32 (outOf xp xs), .int .u16 (IntKind.u16.wrap (sts - 1)), .bool op] (by rfl) HR.out rfl (emi_one ⟨(j : Int), IntKind.u16.wrap (out.length : Int), IntKind.u32.wrap (IntKind.u32.wrap (P.time - PQ.time) + bg), outOf xp xs, IntKind.u16.wrap (sts - 1), op⟩) (by omega) (by omega) HSO5.out.bel.size ?_
      intro v6 w6 HO6 HG6
      have HA6 : Hid (w6.ownsRow w.heap.size 70 6 v6 (out ++ [(⟨j, IntKind.u16.wrap out.length, IntKind.u32.wrap (IntKind.u32.wrap (P.time - PQ.time) + bg), outOf xp xs, IntKind.u16.wrap (sts - 1), op⟩ : Emi)]).length ((out ++ [(⟨j, IntKind.u16.wrap out.length, IntKind.u32.wrap (IntKind.u32.wrap (P.time - PQ.time) + bg), outOf xp xs, IntKind.u16.wrap (sts - 1), op⟩ : Emi)]).flatMap emiCells)) := (by rw [List.length_append, List.flatMap_append]; exact HO6.out)
      have HSO6 := Lib.hid (HSO5.out.grow HG6.out HA6.out)
      obtain ⟨na, nc, hnv⟩ : ∃ a c, v6 = .slice a (out.length + 1) c := by obtain ⟨a, c, h⟩ := Row.form (Row.of_owns HA6.out); exact ⟨a, c, by rw [h, List.length_append]; rfl⟩
      subst hnv
      obtain ⟨u0, u1, u2, u3⟩ := HSO6.out.facts
      have f0 := frozen_of HSO6.out.blk 0
      refine AnyT.go_past hK _ _ (by kernel_rfl) ?_
      clear hK K
      try simp only [AnyT.pt]
      refine AnyT.tp 57 ?_ rfl ?_ <| AnyT.tp 58 ?_ rfl ?_ <| ?_
      any_goals (intro wS hSw; (try dsimp only at hSw); (try simp only [AnyT.pt]); go_simp; try with_reducible rfl)
      try simp only [AnyT.pt]
      refine AnyT.till_ready (rs := [59]) (by kernel_rfl) (by simp) ?_
      refine AnyT.each_cons (i := 59) rfl (fun K hK => ?_) AnyT.each_nil
      go_simp
      have HSO7 := Lib.hid (HSO6.out.set 0 (.slice na (out.length + 1) nc) _ (.slice na (out.length + 1) nc) rfl rfl)
      refine AnyT.go_past hK _ _ (by kernel_rfl) ?_
      clear hK K
      try simp only [AnyT.pt]
      refine AnyT.till_done (by kernel_rfl) ?_ _
      refine NoPanic.normal ?_
      go_wp2_with fail
      first | refine bodyPost_end (results_none (by rfl) _ _ _) rfl ?_ | refine bodyPost_ret (v := .tuple #[]) (results_none (by rfl) _ _ _) rfl ?_
      exact ⟨rfl, _, by rw [HXF.out]; exact HSO7.out⟩
end
end Go.Proofs.By
set_option linter.unusedSimpArgs false
namespace Go.Proofs.By
open Go.RowKit Go.Proofs.Heap Go.Proofs
open Go.Proofs.Rm (below_drewN own_le)
theorem VSent_nil (w : World) : Calls Tryz.prog 56 #[.pointer none] w fun e w' => e = .returned (.slice none 0 0) ∧ w = w' := by
  go_enter Tryz.func56, Tryz.ntmps56
  go_wp2_with fail
  go_ret
  exact ⟨rfl, rfl⟩
section
variable {w : World} {V k : Nat} {ov av mv lv : Value} {L : List OpB} {x : Life} {wv cv qv : Value}
set_option maxRecDepth 100000 in
set_option maxHeartbeats 8000000 in
theorem VSent_any (h : VB w V k ov av mv lv L x wv cv qv) (hr : VRows w wv cv qv (statesV L x (L.length + 1))) (hL : L.length ≤ 256) :
    Calls Tryz.prog 56 #[.pointer (some ⟨V, 0, none⟩)] w fun e w' => (∃ ev, e = .returned ev ∧ w'.ownsRow w.heap.size 70 6 ev (sentTo L x L.length).out.length ((sentTo L x L.length).out.flatMap emiCells)) ∧ Below w.heap.size w w' := by
  have HVB := Lib.hid h
  have HVR := Lib.hid hr
  obtain ⟨oa, oc, hov, -, -⟩ := h.ops.form
  subst hov
  have HS0 : Hid (SO w (w.alloc (.cells #[.slice none 0 0, .int .i64 0, .int .u32 0, .int .u16 0] 162)) w.heap.size (sentTo L x 0) (.slice none 0 0) (.slice none 0 0)) := ⟨below_alloc w _, heap_new w _, World.ownsRow_nil _ _ _ _, Nat.le_refl _⟩
  have hVl := hp_lt h.view
  have hkl := hp_lt h.book
  have v0 : w.cell? ⟨V, 0, none⟩ = some (.pointer (some ⟨k, 0, none⟩)) := by rw [cell_of h.view 0]; rfl
  have b0 : w.cell? ⟨k, 0, none⟩ = some (.slice oa L.length oc) := by rw [cell_of h.book 0]; rfl
  clear h hr
  go_enter Tryz.func56, Tryz.ntmps56
  go_wp2_with fail
  clear v0 b0 hVl hkl
  generalize w.alloc (.cells #[.slice none 0 0, .int .i64 0, .int .u32 0, .int .u16 0] 162) = w0 at *
  go_loopw [15] (fun s15 w' => ∃ (j : Nat) (uv : Value), j ≤ L.length ∧ s15 = .int .i64 (j : Int) ∧ SO w w' w.heap.size (sentTo L x j) uv uv) (fun s15 _ => L.length - (intOf s15).toNat)
  case atStart => exact ⟨0, _, by omega, rfl, HS0.out⟩
  case round =>
    obtain ⟨j, uv, hj, rfl, hso⟩ := hrel
    clear HS0
    have HSO := Lib.hid hso
    clear hso
    by_cases hjl : j < L.length
    · have hjI : (j : Int) < (L.length : Int) := Int.ofNat_lt.2 hjl
      have HOK := Lib.hid (sentTo_ok L x j)
      have HST : Hid (sentTo L x (j + 1) = sentStep L x (stateV L x j) (sentTo L x j) j) := rfl
      have HVA := Lib.hid (HVR.out.at (statesV_at L x (Nat.lt_succ_of_lt hjl)))
      generalize sentTo L x j = z at *
      generalize stateV L x j = s at *
      have hzl : z.out.length ≤ 1000 := by have := HOK.out.len; omega
      have HEV : Hid (∀ e ∈ z.out, 0 ≤ e.event ∧ e.event < L.length) := fun e he => by have := HOK.out.ev e he; omega
      obtain ⟨ua, uc, rfl⟩ := Row.form (Row.of_owns HSO.out.own)
      obtain ⟨gq, oq, mq, cq, hqv, hjq, hqc⟩ := HVA.out.quiet
      have HQC := Lib.hid hqc
      have hjqI : (j : Int) < (mq : Int) := Int.ofNat_lt.2 hjq
      subst hqv
      have CP := Lib.hid (Vpacket_any (HVB.out.below HSO.out.bel) hjl)
      have HX0 : Hid (sentStep L x s z j = if packetAt L x j && !s.quiet && (opensV s (takenAt L j).dsc || goesV L s z.out j) then sendV L x s z j else z) := rfl
      generalize hS : sentStep L x s z j = ZZ at *
      have HSS := Lib.hid hS
      clear hS hqc
      generalize hop : opensV s (takenAt L j).dsc = op at *
      have HOP := Lib.hid hop
      generalize hgo : goesV L s z.out j = go at *
      have HGO := Lib.hid hgo
      generalize packetAt L x j = pk at *
      generalize s.quiet = qt at *
      clear hop hgo
      cases pk with
      | false =>
        have HX : Hid (ZZ = z) := by show _ = _; rw [HX0.out]; rfl
        go_wp2_with (go_at_call 88; refine CP.out.mono ?_; rintro e w2 ⟨rfl, hb2⟩; have HS2 := Lib.hid (HSO.out.below hb2); have q7 : w2.cell? ⟨V, 7, none⟩ = some (.slice (some ⟨gq, oq, none⟩) mq cq) := (by rw [cell_of (HVB.out.below HS2.out.bel).view 7]; rfl); have qc : w2.cell? ⟨gq, oq + j, none⟩ = some (.bool qt) := cell_old HQC.out HS2.out.bel; have CN := Lib.hid (Vopens_any (HVB.out.below HS2.out.bel) hjl (HVA.out.below HS2.out.bel)); rw [HOP.out] at CN; clear hb2)
        go_roundw
        case rel => exact ⟨j + 1, _, by omega, by go_num, by rw [HST.out, HX.out]; exact HS2.out⟩
        case measure => simp [intOf]; omega
      | true =>
      cases qt with
      | true =>
        have HX : Hid (ZZ = z) := by show _ = _; rw [HX0.out]; rfl
        go_wp2_with (go_at_call 88; refine CP.out.mono ?_; rintro e w2 ⟨rfl, hb2⟩; have HS2 := Lib.hid (HSO.out.below hb2); have q7 : w2.cell? ⟨V, 7, none⟩ = some (.slice (some ⟨gq, oq, none⟩) mq cq) := (by rw [cell_of (HVB.out.below HS2.out.bel).view 7]; rfl); have qc : w2.cell? ⟨gq, oq + j, none⟩ = some (.bool true) := cell_old HQC.out HS2.out.bel; have CN := Lib.hid (Vopens_any (HVB.out.below HS2.out.bel) hjl (HVA.out.below HS2.out.bel)); rw [HOP.out] at CN; clear hb2)
        go_roundw
        case rel => exact ⟨j + 1, _, by omega, by go_num, by rw [HST.out, HX.out]; exact HS2.out⟩
        case measure => simp [intOf]; omega
      | false =>
      cases op with
      | true =>
        have HX : Hid (ZZ = sendV L x s z j) := by show _ = _; rw [HX0.out]; rfl
        go_wp2_with (first | (go_at_call 88; refine CP.out.mono ?_; rintro e w2 ⟨rfl, hb2⟩; have HS2 := Lib.hid (HSO.out.below hb2); have q7 : w2.cell? ⟨V, 7, none⟩ = some (.slice (some ⟨gq, oq, none⟩) mq cq) := (by rw [cell_of (HVB.out.below HS2.out.bel).view 7]; rfl); have qc : w2.cell? ⟨gq, oq + j, none⟩ = some (.bool false) := cell_old HQC.out HS2.out.bel; have CN := Lib.hid (Vopens_any (HVB.out.below HS2.out.bel) hjl (HVA.out.below HS2.out.bel)); rw [HOP.out] at CN; clear hb2) | (go_at_call 89; refine CN.out.mono ?_; rintro e w3 ⟨rfl, hb3⟩; have HS3 := Lib.hid (HS2.out.below hb3); obtain ⟨e0, e1, e2, e3⟩ := HS3.out.facts; have CG := Lib.hid (Vgoes_any (HVB.out.below HS3.out.bel) hjl (HVA.out.below HS3.out.bel) ua uc z.out z.opn z.begin z.starts (Row.of_owns HS3.out.own) HEV.out hzl); rw [HGO.out] at CG; have CSE := Lib.hid (Vsend_any HVB.out hjl hL HVA.out w.heap.size z _ w3 HS3.out HOK.out); clear hb3) | (go_at_call 91; refine CSE.out.mono ?_; rintro e w5 ⟨rfl, uv', hso'⟩; have HS5 := Lib.hid hso'; clear hso'))
        go_roundw
        case rel => exact ⟨j + 1, _, by omega, by go_num, by rw [HST.out, HX.out]; exact HS5.out⟩
        case measure => simp [intOf]; omega
      | false =>
      cases go with
      | true =>
        have HX : Hid (ZZ = sendV L x s z j) := by show _ = _; rw [HX0.out]; rfl
        go_wp2_with (first | (go_at_call 88; refine CP.out.mono ?_; rintro e w2 ⟨rfl, hb2⟩; have HS2 := Lib.hid (HSO.out.below hb2); have q7 : w2.cell? ⟨V, 7, none⟩ = some (.slice (some ⟨gq, oq, none⟩) mq cq) := (by rw [cell_of (HVB.out.below HS2.out.bel).view 7]; rfl); have qc : w2.cell? ⟨gq, oq + j, none⟩ = some (.bool false) := cell_old HQC.out HS2.out.bel; have CN := Lib.hid (Vopens_any (HVB.out.below HS2.out.bel) hjl (HVA.out.below HS2.out.bel)); rw [HOP.out] at CN; clear hb2) | (go_at_call 89; refine CN.out.mono ?_; rintro e w3 ⟨rfl, hb3⟩; have HS3 := Lib.hid (HS2.out.below hb3); obtain ⟨e0, e1, e2, e3⟩ := HS3.out.facts; have CG := Lib.hid (Vgoes_any (HVB.out.below HS3.out.bel) hjl (HVA.out.below HS3.out.bel) ua uc z.out z.opn z.begin z.starts (Row.of_owns HS3.out.own) HEV.out hzl); rw [HGO.out] at CG; have CSE := Lib.hid (Vsend_any HVB.out hjl hL HVA.out w.heap.size z _ w3 HS3.out HOK.out); clear hb3) | (go_at_call 90; refine CG.out.mono ?_; rintro e w4 ⟨rfl, hb4⟩; have HS4 := Lib.hid (HS3.out.below hb4); clear CSE; have CSE := Lib.hid (Vsend_any HVB.out hjl hL HVA.out w.heap.size z _ w4 HS4.out HOK.out); clear hb4) | (go_at_call 91; refine CSE.out.mono ?_; rintro e w5 ⟨rfl, uv', hso'⟩; have HS5 := Lib.hid hso'; clear hso'))
        go_roundw
        case rel => exact ⟨j + 1, _, by omega, by go_num, by rw [HST.out, HX.out]; exact HS5.out⟩
        case measure => simp [intOf]; omega
      | false =>
        have HX : Hid (ZZ = z) := by show _ = _; rw [HX0.out]; rfl
        go_wp2_with (first | (go_at_call 88; refine CP.out.mono ?_; rintro e w2 ⟨rfl, hb2⟩; have HS2 := Lib.hid (HSO.out.below hb2); have q7 : w2.cell? ⟨V, 7, none⟩ = some (.slice (some ⟨gq, oq, none⟩) mq cq) := (by rw [cell_of (HVB.out.below HS2.out.bel).view 7]; rfl); have qc : w2.cell? ⟨gq, oq + j, none⟩ = some (.bool false) := cell_old HQC.out HS2.out.bel; have CN := Lib.hid (Vopens_any (HVB.out.below HS2.out.bel) hjl (HVA.out.below HS2.out.bel)); rw [HOP.out] at CN; clear hb2) | (go_at_call 89; refine CN.out.mono ?_; rintro e w3 ⟨rfl, hb3⟩; have HS3 := Lib.hid (HS2.out.below hb3); obtain ⟨e0, e1, e2, e3⟩ := HS3.out.facts; have CG := Lib.hid (Vgoes_any (HVB.out.below HS3.out.bel) hjl (HVA.out.below HS3.out.bel) ua uc z.out z.opn z.begin z.starts (Row.of_owns HS3.out.own) HEV.out hzl); rw [HGO.out] at CG; have CSE := Lib.hid (Vsend_any HVB.out hjl hL HVA.out w.heap.size z _ w3 HS3.out HOK.out); clear hb3) | (go_at_call 90; refine CG.out.mono ?_; rintro e w4 ⟨rfl, hb4⟩; have HS4 := Lib.hid (HS3.out.below hb4); clear CSE; have CSE := Lib.hid (Vsend_any HVB.out hjl hL HVA.out w.heap.size z _ w4 HS4.out HOK.out); clear hb4))
        go_roundw
        case rel => exact ⟨j + 1, _, by omega, by go_num, by rw [HST.out, HX.out]; exact HS4.out⟩
        case measure => simp [intOf]; omega
    · have hjj : j = L.length := by omega
      subst hjj
      obtain ⟨ua, uc, rfl⟩ := Row.form (Row.of_owns HSO.out.own)
      obtain ⟨u0, u1, u2, u3⟩ := HSO.out.facts
      clear hjl
      go_wp2_with fail
      go_ret
      exact ⟨⟨_, rfl, HSO.out.own⟩, HSO.out.bel⟩
end
end Go.Proofs.By
set_option linter.unusedSimpArgs false
namespace Go.Proofs.By
open Go.RowKit Go.Proofs.Heap Go.Proofs
open Go.Proofs.Lab (Tabs)
open Go.Proofs.Mem
theorem RAdmits_any (v : Value) (L : List OpB) (w : World) (hT : Tabs w) (h : OpBsR w v L) (hL : L.length ≤ 256) :
    Calls Tryz.prog 24 #[v] w fun e w' => (∃ av, e = .returned av ∧ Row w' 35 av L.length ((admsTo L L.length).flatMap admC4)) ∧ Below w.heap.size w w' := by
  have C := Lib.hid (Read_any v L w hT h hL)
  clear hT h hL
  go_enter Tryz.func24, Tryz.ntmps24
  go_wp2_with (go_at_call 53; refine C.out.mono ?_; rintro e w2 ⟨k, g, b, ov, av, mv, lv, M, R, ep, rfl, -, hrs⟩; have HRS := Lib.hid hrs; have k1 : w2.cell? ⟨k, 1, none⟩ = some av := (by rw [cell_of hrs.book.blk 1]; rfl); clear hrs)
  go_ret
  refine ⟨⟨av, rfl, ?_⟩, HRS.out.bel⟩
  have h := Row.of_owns HRS.out.book.adm
  rwa [admsTo_len] at h
theorem owns_mono {w : World} {b b' : Nat} {e : TypeId} {size : Nat} {v : Value} {n : Nat} {xs : List Value} (h : w.ownsRow b e size v n xs) (hb : b' ≤ b) : w.ownsRow b' e size v n xs := by
  obtain ⟨h1, h2⟩ := h
  refine ⟨h1, ?_⟩
  rcases h2 with h2 | ⟨g, cap, cur, hv, hg, r⟩
  · exact Or.inl h2
  · exact Or.inr ⟨g, cap, cur, hv, Nat.le_trans hb hg, r⟩
/-- All that is sent in a life; nothing: there is none such. -/
def sentOf (L : List OpB) (x : Life) : List Emi := if x ∈ livesTo L L.length L.length then (sentTo L x L.length).out else []
set_option maxHeartbeats 2000000 in
theorem RSentO_any (v : Value) (L : List OpB) (x : Life) (w : World) (hT : Tabs w) (h : OpBsR w v L) (hL : L.length ≤ 256) :
    Calls Tryz.prog 29 #[v, .agg (lifeCells x).toArray] w fun e w' => (∃ ev, e = .returned ev ∧ w'.ownsRow w.heap.size 70 6 ev (sentOf L x).length ((sentOf L x).flatMap emiCells)) ∧ Below w.heap.size w w' := by
  have HZ0 : Hid (Below w.heap.size w (w.alloc (.cells (lifeCells x).toArray 59))) := below_alloc w _
  have hz : (w.alloc (.cells (lifeCells x).toArray 59)).heap[w.heap.size]? = some (.cells (lifeCells x).toArray 59 (0, 0)) := heap_new w _
  by_cases hx : x ∈ livesTo L L.length L.length
  · have CV := Lib.hid (Rview_some v L x (w.alloc (.cells (lifeCells x).toArray 59)) (Utf8Tabs_below hT HZ0.out) (h.below HZ0.out) hL hx)
    have HX : Hid (sentOf L x = (sentTo L x L.length).out) := by show _ = _; unfold sentOf; rw [if_pos hx]
    have HL := Lib.hid hL
    generalize sentOf L x = X at *
    clear hx hT h hL
    obtain ⟨p, sr, b, f⟩ := x
    dsimp only [lifeCells] at CV HZ0 hz ⊢
    go_enter Tryz.func29, Tryz.ntmps29
    go_wp2_with (first | (with_reducible refine load_at 59 (.tmp 3) rfl ?_; refine load_rowTo2 rfl 59 (.tmp 3) rfl w.heap.size rfl 59 #[.int .i64 p, .int .i64 sr, .int .i64 b, .int .i64 f] (0, 0) _ hz Tryz.underlying59 rfl (by kernel_rfl) ?_) | (go_at_call 55; refine CV.out.mono ?_; rintro e w2 ⟨⟨V, k, ov, av, mv, lv, wv, cv, qv, rfl, hvb, hvr⟩, hb2⟩; have HB2 := Lib.hid (HZ0.out.trans (hb2.mono HZ0.out.size)); have CW := Lib.hid (VSent_any hvb hvr HL.out); clear hvb hvr hb2) | (go_at_call 56; refine CW.out.mono ?_; rintro e w3 ⟨⟨ev, rfl, hev⟩, hb3⟩; have HEV := Lib.hid hev; have HB3 := Lib.hid (HB2.out.trans (hb3.mono HB2.out.size)); clear hev hb3))
    go_ret
    exact ⟨⟨ev, rfl, by rw [HX.out]; exact owns_mono HEV.out HB2.out.size⟩, HB3.out⟩
  · have CV := Lib.hid (Rview_none v L x (w.alloc (.cells (lifeCells x).toArray 59)) (Utf8Tabs_below hT HZ0.out) (h.below HZ0.out) hL hx)
    have HX : Hid (sentOf L x = []) := by show _ = _; unfold sentOf; rw [if_neg hx]
    generalize sentOf L x = X at *
    clear hx hT h hL
    obtain ⟨p, sr, b, f⟩ := x
    dsimp only [lifeCells] at CV HZ0 hz ⊢
    go_enter Tryz.func29, Tryz.ntmps29
    go_wp2_with (first | (with_reducible refine load_at 59 (.tmp 3) rfl ?_; refine load_rowTo2 rfl 59 (.tmp 3) rfl w.heap.size rfl 59 #[.int .i64 p, .int .i64 sr, .int .i64 b, .int .i64 f] (0, 0) _ hz Tryz.underlying59 rfl (by kernel_rfl) ?_) | (go_at_call 55; refine CV.out.mono ?_; rintro e w2 ⟨rfl, hb2⟩; have HB2 := Lib.hid (HZ0.out.trans (hb2.mono HZ0.out.size)); have CW := Lib.hid (VSent_nil w2); clear hb2) | (go_at_call 56; refine CW.out.mono ?_; rintro e w' ⟨rfl, rfl⟩))
    go_ret
    exact ⟨⟨_, rfl, by rw [HX.out]; exact World.ownsRow_nil _ _ _ _⟩, HB2.out⟩
theorem RSent_any (v : Value) (L : List OpB) (x : Life) (w : World) (hT : Tabs w) (h : OpBsR w v L) (hL : L.length ≤ 256) :
    Calls Tryz.prog 29 #[v, .agg (lifeCells x).toArray] w fun e w' => (∃ ev, e = .returned ev ∧ Row w' 70 ev (sentOf L x).length ((sentOf L x).flatMap emiCells)) ∧ Below w.heap.size w w' :=
  (RSentO_any v L x w hT h hL).mono fun e w' ⟨⟨ev, h1, h2⟩, h3⟩ => ⟨⟨ev, h1, Row.of_owns h2⟩, h3⟩
end Go.Proofs.By
namespace Go.Proofs.By
def bX : Life := ⟨2, 3, 3, 5⟩
theorem bAdms (h : Nat) : admsTo (bOps h) 5 = [⟨2, 0, 1, 0⟩, ⟨2, 0, 2, 0⟩, ⟨2, 0, 3, 0⟩, ⟨2, 0, 4, 0⟩, ⟨1, 3, 4, 0⟩] := by kernel_rfl
theorem bLives (h : Nat) : livesTo (bOps h) ((5 : Nat) : Int) 5 = [bX] := by kernel_rfl
end Go.Proofs.By
namespace Go.Proofs.AnyT
open Go Go.RowKit
section
variable {P : Program} {md : Region.Mode} {ops : Array Oper} {Q : Exit → Act → World → Prop} {S : World → Prop} {d : Nat}
/-- Each of a row waits for the next, the last for i. -/
def along (md : Region.Mode) (ops : Array Oper) (i : Nat) : Nat → List Nat → Bool
  | d, [] => match ops[d]? with
    | some o => o.after.any fun e => Region.binds md e && e.on == i
    | none => false
  | d, b :: l => (match ops[d]? with
    | some o => o.after.any fun e => Region.binds md e && e.on == b
    | none => false) && along md ops i b l
theorem along_waits {i : Nat} : ∀ (l : List Nat) (d n : Nat), l.length < n → along md ops i d l = true → waits md ops i n d = true
  | [], d, n + 1, _, h => by
    unfold along at h
    unfold waits
    cases ho : ops[d]? with
    | none => rw [ho] at h; cases h
    | some o =>
      rw [ho] at h
      obtain ⟨e, he, hb⟩ := Array.any_eq_true'.1 h
      have hb := (Bool.and_eq_true _ _).mp hb
      exact Array.any_eq_true'.2 ⟨e, he, by rw [hb.1, hb.2]; rfl⟩
  | b :: l, d, n + 1, hn, h => by
    unfold along at h
    have h := (Bool.and_eq_true _ _).mp h
    have ih := along_waits l b n (by rw [List.length_cons] at hn; omega) h.2
    unfold waits
    cases ho : ops[d]? with
    | none => rw [ho] at h; cases h.1
    | some o =>
      rw [ho] at h
      obtain ⟨e, he, hb⟩ := Array.any_eq_true'.1 h.1
      have hb := (Bool.and_eq_true _ _).mp hb
      have heb : e.on = b := by simpa using hb.2
      exact Array.any_eq_true'.2 ⟨e, he, by rw [hb.1, heb, ih, Bool.or_true]; rfl⟩
theorem tkp (i : Nat) (l : List Nat) (v : Value) {oi : Oper} {n : Nat} {done : Array Bool} {a : Act} {w : World} (hi : ops[i]? = some oi) (hy : ∀ w, S w → (execOp a.eval oi).run P w = .ok (.value v) w)
    (h : till P md ops Q S d n (done.setIfInBounds i true) (a.put oi.dst v) w)
    (hc : (Region.noSelect ops && Region.free md ops done i && (Region.ready md ops done).contains i && ((i != d) && along md ops i d l && decide (l.length < ops.size) && closed md ops done && !(done.getD d true))) = true := by kernel_rfl)
    (hw : Region.wanted oi (yielded ops a.tmps) = true := by rfl) (hQ : ∀ c a w, Q (.panic c) (a.put oi.dst v) w → Q (.panic c) a w := by exact fun _ _ _ h => h) (hS : S w := by assumption) : till P md ops Q S d (n + 1) done a w := by
  simp only [Bool.and_eq_true] at hc
  obtain ⟨⟨⟨h1, h2⟩, h3⟩, ⟨⟨⟨h4, h5⟩, h6⟩, h7⟩, h8⟩ := hc
  refine till_take hi h1 h2 h3 ?_ hQ (Or.inl ⟨hw, hy⟩) hS h
  simp only [Bool.and_eq_true]
  exact ⟨⟨⟨h4, along_waits l d ops.size (of_decide_eq_true h6) h5⟩, h7⟩, h8⟩
end
end Go.Proofs.AnyT
