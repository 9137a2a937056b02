/- Several texts in one: The walk of sift.Flat: feedback. The walks of package stamp's SSRCs, and of the reference's: Out, Whose. The walks of door.Owned and door.Heard. The walk of door.Item. -/
import Derived.Test.YtpdjhlcbcomdkaaGreatDoorChecked
import Derived.Test.YtpdjhlcbcomdkaaGreatDoorW02
import Derived.Test.YtpdjhlcbcomdkaaGreatDoorW04
import Derived.Test.YtpdjhlcbcomdkaaGreatDoorW11
import Derived.Test.YtpdjhlcbcomdkaaGreatDoorW13
import Derived.Test.YtpdjhlcbcomdkaaGreatDoorW15
import Derived.Test.YtpdjhlcbcomdkaaGreatDoorW16
set_option linter.unusedVariables false
set_option linter.unusedSimpArgs false
set_option linter.unusedSimpArgs false
namespace Go.Proofs.By
open Go.RowKit Go.Proofs.Heap
theorem as_media (v : Value) (w : World) : (Instr.typeAssert (.iface 213 v) 188 97 true).run Tryz.prog w = .ok (.tuple #[.agg #[.bool false, .int .i64 0, .int .u16 0, .int .u32 0, .int .u32 0, .slice none 0 0, .bool false, .int .u16 0, .slice none 0 0, .slice none 0 0, .int .i64 0, .int .i64 0, .bool false, .bool false, .int .u16 0], .bool false]) w := by kernel_rfl
theorem as_feed (v : Value) (w : World) : (Instr.typeAssert (.iface 213 v) 188 213 true).run Tryz.prog w = .ok (.tuple #[v, .bool true]) w := by kernel_rfl
theorem results_cells2 {P : Program} {fn : Func} {p q u : Tmp} {t1 t2 : TypeId} (h : fn.results = #[.cell p t1, .cell q t2, .tmp u]) (tmps : Array Value) (w : World) (g1 g2 : Nat) (e1 e2 : TypeId) (c1 c2 : Array Value) (f1 f2 : Nat × Nat) (d1 d2 : TypeDesc)
    (hp : tmps.getD p undef = .pointer (some ⟨g1, 0, none⟩)) (hg : w.heap[g1]? = some (.cells c1 e1 f1)) (hu : P.underlying t1 = some d1) (hd : (match d1 with | .struct _ | .array _ _ => true | _ => false) = true) (hi : (P.info? t1).map (·.size) = some c1.size)
    (hp2 : tmps.getD q undef = .pointer (some ⟨g2, 0, none⟩)) (hg2 : w.heap[g2]? = some (.cells c2 e2 f2)) (hu2 : P.underlying t2 = some d2) (hd2 : (match d2 with | .struct _ | .array _ _ => true | _ => false) = true) (hi2 : (P.info? t2).map (·.size) = some c2.size) :
    (results fn tmps).run P w = .ok (.tuple #[.agg c1, .agg c2, tmps.getD u undef]) w := by
  have hp' : tmps[p]?.getD undef = .pointer (some ⟨g1, 0, none⟩) := by simpa using hp
  have hq' : tmps[q]?.getD undef = .pointer (some ⟨g2, 0, none⟩) := by simpa using hp2
  simp [results, h, hp', hq', asAddr, run_loadVar_row w g1 e1 t1 c1 f1 d1 hg hu hd hi, run_loadVar_row w g2 e2 t2 c2 f2 d2 hg2 hu2 hd2 hi2]
set_option maxRecDepth 100000 in
set_option maxHeartbeats 4000000 in
theorem Flat_any (iv : Value) (l : List Itm) (w : World) (hv : ItmsRow w iv l) (hok : ∀ i ∈ l, ItmOk i) (hl : l.length ≤ 1000) :
    Calls Tryz.prog 107 #[.iface 213 (.agg #[iv])] w fun e w' => (∃ v', e = .returned (.tuple #[.agg #[.bool false, .int .i64 0, .int .u16 0, .int .u32 0, .int .u32 0, .slice none 0 0, .bool false, .int .u16 0, .slice none 0 0, .slice none 0 0, .int .i64 0], .agg #[.int .i64 0, .bool false, .bool false, .int .u16 0], v']) ∧ ItmsRow w' v' l) ∧ Below w.heap.size w w' := by
  obtain ⟨ia, ic, rfl⟩ := ItmsRow.form hv
  have CO := Lib.hid (fun (w' : World) (h : Below w.heap.size w w') => OwnItems_any (.slice ia l.length ic) l w' (hv.below h) hok hl)
  have as1 := as_media
  have as2 := as_feed
  have e1 : (w.alloc (.cells #[.bool false, .int .i64 0, .int .u16 0, .int .u32 0, .int .u32 0, .slice none 0 0, .bool false, .int .u16 0, .slice none 0 0, .slice none 0 0, .int .i64 0] 79)).heap.size = w.heap.size + 1 := by show (w.heap.push _).size = _; rw [Array.size_push]
  have e2 : ((w.alloc (.cells #[.bool false, .int .i64 0, .int .u16 0, .int .u32 0, .int .u32 0, .slice none 0 0, .bool false, .int .u16 0, .slice none 0 0, .slice none 0 0, .int .i64 0] 79)).alloc (.cells #[.int .i64 0, .bool false, .bool false, .int .u16 0] 81)).heap.size = w.heap.size + 2 := by show ((w.heap.push _).push _).size = _; rw [Array.size_push, Array.size_push]
  have e3 : (((w.alloc (.cells #[.bool false, .int .i64 0, .int .u16 0, .int .u32 0, .int .u32 0, .slice none 0 0, .bool false, .int .u16 0, .slice none 0 0, .slice none 0 0, .int .i64 0] 79)).alloc (.cells #[.int .i64 0, .bool false, .bool false, .int .u16 0] 81)).alloc (.cells #[.bool false, .int .i64 0, .int .u16 0, .int .u32 0, .int .u32 0, .slice none 0 0, .bool false, .int .u16 0, .slice none 0 0, .slice none 0 0, .int .i64 0, .int .i64 0, .bool false, .bool false, .int .u16 0] 97)).heap.size = w.heap.size + 3 := by show (((w.heap.push _).push _).push _).size = _; rw [Array.size_push, Array.size_push, Array.size_push]
  have hP : (((w.alloc (.cells #[.bool false, .int .i64 0, .int .u16 0, .int .u32 0, .int .u32 0, .slice none 0 0, .bool false, .int .u16 0, .slice none 0 0, .slice none 0 0, .int .i64 0] 79)).alloc (.cells #[.int .i64 0, .bool false, .bool false, .int .u16 0] 81)).alloc (.cells #[.bool false, .int .i64 0, .int .u16 0, .int .u32 0, .int .u32 0, .slice none 0 0, .bool false, .int .u16 0, .slice none 0 0, .slice none 0 0, .int .i64 0, .int .i64 0, .bool false, .bool false, .int .u16 0] 97)).heap[w.heap.size]? = some (.cells #[.bool false, .int .i64 0, .int .u16 0, .int .u32 0, .int .u32 0, .slice none 0 0, .bool false, .int .u16 0, .slice none 0 0, .slice none 0 0, .int .i64 0] 79 (0, 0)) := by
    rw [(below_alloc ((w.alloc (.cells #[.bool false, .int .i64 0, .int .u16 0, .int .u32 0, .int .u32 0, .slice none 0 0, .bool false, .int .u16 0, .slice none 0 0, .slice none 0 0, .int .i64 0] 79)).alloc (.cells #[.int .i64 0, .bool false, .bool false, .int .u16 0] 81)) _).block _ (by rw [e2]; omega), (below_alloc (w.alloc (.cells #[.bool false, .int .i64 0, .int .u16 0, .int .u32 0, .int .u32 0, .slice none 0 0, .bool false, .int .u16 0, .slice none 0 0, .slice none 0 0, .int .i64 0] 79)) _).block _ (by rw [e1]; omega)]
    exact heap_new w _
  have hD : (((w.alloc (.cells #[.bool false, .int .i64 0, .int .u16 0, .int .u32 0, .int .u32 0, .slice none 0 0, .bool false, .int .u16 0, .slice none 0 0, .slice none 0 0, .int .i64 0] 79)).alloc (.cells #[.int .i64 0, .bool false, .bool false, .int .u16 0] 81)).alloc (.cells #[.bool false, .int .i64 0, .int .u16 0, .int .u32 0, .int .u32 0, .slice none 0 0, .bool false, .int .u16 0, .slice none 0 0, .slice none 0 0, .int .i64 0, .int .i64 0, .bool false, .bool false, .int .u16 0] 97)).heap[w.heap.size + 1]? = some (.cells #[.int .i64 0, .bool false, .bool false, .int .u16 0] 81 (0, 0)) := by
    rw [(below_alloc ((w.alloc (.cells #[.bool false, .int .i64 0, .int .u16 0, .int .u32 0, .int .u32 0, .slice none 0 0, .bool false, .int .u16 0, .slice none 0 0, .slice none 0 0, .int .i64 0] 79)).alloc (.cells #[.int .i64 0, .bool false, .bool false, .int .u16 0] 81)) _).block _ (by rw [e2]; omega)]
    have h := heap_new (w.alloc (.cells #[.bool false, .int .i64 0, .int .u16 0, .int .u32 0, .int .u32 0, .slice none 0 0, .bool false, .int .u16 0, .slice none 0 0, .slice none 0 0, .int .i64 0] 79)) (.cells #[.int .i64 0, .bool false, .bool false, .int .u16 0] 81)
    rw [e1] at h
    exact h
  have hM : (((w.alloc (.cells #[.bool false, .int .i64 0, .int .u16 0, .int .u32 0, .int .u32 0, .slice none 0 0, .bool false, .int .u16 0, .slice none 0 0, .slice none 0 0, .int .i64 0] 79)).alloc (.cells #[.int .i64 0, .bool false, .bool false, .int .u16 0] 81)).alloc (.cells #[.bool false, .int .i64 0, .int .u16 0, .int .u32 0, .int .u32 0, .slice none 0 0, .bool false, .int .u16 0, .slice none 0 0, .slice none 0 0, .int .i64 0, .int .i64 0, .bool false, .bool false, .int .u16 0] 97)).heap[w.heap.size + 2]? = some (.cells #[.bool false, .int .i64 0, .int .u16 0, .int .u32 0, .int .u32 0, .slice none 0 0, .bool false, .int .u16 0, .slice none 0 0, .slice none 0 0, .int .i64 0, .int .i64 0, .bool false, .bool false, .int .u16 0] 97 (0, 0)) := by
    have h := heap_new ((w.alloc (.cells #[.bool false, .int .i64 0, .int .u16 0, .int .u32 0, .int .u32 0, .slice none 0 0, .bool false, .int .u16 0, .slice none 0 0, .slice none 0 0, .int .i64 0] 79)).alloc (.cells #[.int .i64 0, .bool false, .bool false, .int .u16 0] 81)) (.cells #[.bool false, .int .i64 0, .int .u16 0, .int .u32 0, .int .u32 0, .slice none 0 0, .bool false, .int .u16 0, .slice none 0 0, .slice none 0 0, .int .i64 0, .int .i64 0, .bool false, .bool false, .int .u16 0] 97)
    rw [e2] at h
    exact h
  have hP2 : ((((w.alloc (.cells #[.bool false, .int .i64 0, .int .u16 0, .int .u32 0, .int .u32 0, .slice none 0 0, .bool false, .int .u16 0, .slice none 0 0, .slice none 0 0, .int .i64 0] 79)).alloc (.cells #[.int .i64 0, .bool false, .bool false, .int .u16 0] 81)).alloc (.cells #[.bool false, .int .i64 0, .int .u16 0, .int .u32 0, .int .u32 0, .slice none 0 0, .bool false, .int .u16 0, .slice none 0 0, .slice none 0 0, .int .i64 0, .int .i64 0, .bool false, .bool false, .int .u16 0] 97)).setRow (w.heap.size + 2) #[.bool false, .int .i64 0, .int .u16 0, .int .u32 0, .int .u32 0, .slice none 0 0, .bool false, .int .u16 0, .slice none 0 0, .slice none 0 0, .int .i64 0, .int .i64 0, .bool false, .bool false, .int .u16 0]).heap[w.heap.size]? = some (.cells #[.bool false, .int .i64 0, .int .u16 0, .int .u32 0, .int .u32 0, .slice none 0 0, .bool false, .int .u16 0, .slice none 0 0, .slice none 0 0, .int .i64 0] 79 (0, 0)) := (setRow_other _ _ _ _ (by omega)).trans hP
  have hD2 : ((((w.alloc (.cells #[.bool false, .int .i64 0, .int .u16 0, .int .u32 0, .int .u32 0, .slice none 0 0, .bool false, .int .u16 0, .slice none 0 0, .slice none 0 0, .int .i64 0] 79)).alloc (.cells #[.int .i64 0, .bool false, .bool false, .int .u16 0] 81)).alloc (.cells #[.bool false, .int .i64 0, .int .u16 0, .int .u32 0, .int .u32 0, .slice none 0 0, .bool false, .int .u16 0, .slice none 0 0, .slice none 0 0, .int .i64 0, .int .i64 0, .bool false, .bool false, .int .u16 0] 97)).setRow (w.heap.size + 2) #[.bool false, .int .i64 0, .int .u16 0, .int .u32 0, .int .u32 0, .slice none 0 0, .bool false, .int .u16 0, .slice none 0 0, .slice none 0 0, .int .i64 0, .int .i64 0, .bool false, .bool false, .int .u16 0]).heap[w.heap.size + 1]? = some (.cells #[.int .i64 0, .bool false, .bool false, .int .u16 0] 81 (0, 0)) := (setRow_other _ _ _ _ (by omega)).trans hD
  have HBD : Hid (Below w.heap.size w ((((w.alloc (.cells #[.bool false, .int .i64 0, .int .u16 0, .int .u32 0, .int .u32 0, .slice none 0 0, .bool false, .int .u16 0, .slice none 0 0, .slice none 0 0, .int .i64 0] 79)).alloc (.cells #[.int .i64 0, .bool false, .bool false, .int .u16 0] 81)).alloc (.cells #[.bool false, .int .i64 0, .int .u16 0, .int .u32 0, .int .u32 0, .slice none 0 0, .bool false, .int .u16 0, .slice none 0 0, .slice none 0 0, .int .i64 0, .int .i64 0, .bool false, .bool false, .int .u16 0] 97)).setRow (w.heap.size + 2) #[.bool false, .int .i64 0, .int .u16 0, .int .u32 0, .int .u32 0, .slice none 0 0, .bool false, .int .u16 0, .slice none 0 0, .slice none 0 0, .int .i64 0, .int .i64 0, .bool false, .bool false, .int .u16 0])) := below_setRow (bel_alloc (bel_alloc (below_alloc w _) (Nat.le_refl _) _) (Nat.le_refl _) _) (by omega) _
  clear hv hok hl e1 e2 e3 hP hD
  go_enter Tryz.func107, Tryz.ntmps107
  go_upto_region 4 with (with_reducible refine store_at 97 (.tmp 5) (.tmp 12) rfl ?_; refine store_rowTo2 rfl 97 (.tmp 5) (.tmp 12) rfl rfl (w.heap.size + 2) #[.bool false, .int .i64 0, .int .u16 0, .int .u32 0, .int .u32 0, .slice none 0 0, .bool false, .int .u16 0, .slice none 0 0, .slice none 0 0, .int .i64 0, .int .i64 0, .bool false, .bool false, .int .u16 0] rfl rfl 97 #[.bool false, .int .i64 0, .int .u16 0, .int .u32 0, .int .u32 0, .slice none 0 0, .bool false, .int .u16 0, .slice none 0 0, .slice none 0 0, .int .i64 0, .int .i64 0, .bool false, .bool false, .int .u16 0] hM (by kernel_rfl) (by kernel_rfl) (by kernel_rfl) ?_)
  clear hM
  generalize ((((w.alloc (.cells #[.bool false, .int .i64 0, .int .u16 0, .int .u32 0, .int .u32 0, .slice none 0 0, .bool false, .int .u16 0, .slice none 0 0, .slice none 0 0, .int .i64 0] 79)).alloc (.cells #[.int .i64 0, .bool false, .bool false, .int .u16 0] 81)).alloc (.cells #[.bool false, .int .i64 0, .int .u16 0, .int .u32 0, .int .u32 0, .slice none 0 0, .bool false, .int .u16 0, .slice none 0 0, .slice none 0 0, .int .i64 0, .int .i64 0, .bool false, .bool false, .int .u16 0] 97)).setRow (w.heap.size + 2) #[.bool false, .int .i64 0, .int .u16 0, .int .u32 0, .int .u32 0, .slice none 0 0, .bool false, .int .u16 0, .slice none 0 0, .slice none 0 0, .int .i64 0, .int .i64 0, .bool false, .bool false, .int .u16 0]) = w3 at *
  have hl3 := hp_lt hP2
  have hl4 := hp_lt hD2
  have HB4 : Hid (Below w3.heap.size w3 (w3.alloc (.cells #[.slice ia l.length ic] 213))) := below_alloc w3 _
  have HBE : Hid (Below w.heap.size w (w3.alloc (.cells #[.slice ia l.length ic] 213))) := HBD.out.trans (HB4.out.mono HBD.out.size)
  have hP4 := (HB4.out.block _ hl3).trans hP2
  have hD4 := (HB4.out.block _ hl4).trans hD2
  have hl5 := hp_lt hP4
  have hl6 := hp_lt hD4
  clear hP2 hD2 hl3 hl4
  go_wp2_with (first | (go_at_call 129; refine (CO.out _ HBE.out).mono ?_; rintro e w5 ⟨⟨v', rfl, hit⟩, hb5⟩; obtain ⟨ja, jc, hjv⟩ := ItmsRow.form hit; subst hjv; have hP5 := (hb5.block _ hl5).trans hP4; have hD5 := (setRow_other w5 w.heap.size (w.heap.size + 1) #[.bool false, .int .i64 0, .int .u16 0, .int .u32 0, .int .u32 0, .slice none 0 0, .bool false, .int .u16 0, .slice none 0 0, .slice none 0 0, .int .i64 0] (by omega)).trans ((hb5.block _ hl6).trans hD4); have HBW := Lib.hid (HBE.out.trans (hb5.mono HBE.out.size)); have HIT := Lib.hid hit; clear hb5 hit) | (with_reducible refine store_at 79 (.tmp 2) (.tmp 26) rfl ?_; refine store_rowTo2 rfl 79 (.tmp 2) (.tmp 26) rfl rfl w.heap.size #[.bool false, .int .i64 0, .int .u16 0, .int .u32 0, .int .u32 0, .slice none 0 0, .bool false, .int .u16 0, .slice none 0 0, .slice none 0 0, .int .i64 0] rfl rfl 79 #[.bool false, .int .i64 0, .int .u16 0, .int .u32 0, .int .u32 0, .slice none 0 0, .bool false, .int .u16 0, .slice none 0 0, .slice none 0 0, .int .i64 0] hP5 (by kernel_rfl) (by kernel_rfl) (by kernel_rfl) ?_) | (with_reducible refine store_at 81 (.tmp 3) (.tmp 27) rfl ?_; refine store_rowTo2 rfl 81 (.tmp 3) (.tmp 27) rfl rfl (w.heap.size + 1) #[.int .i64 0, .bool false, .bool false, .int .u16 0] rfl rfl 81 #[.int .i64 0, .bool false, .bool false, .int .u16 0] hD5 (by kernel_rfl) (by kernel_rfl) (by kernel_rfl) ?_))
  refine bodyPost_ret (v := .tuple #[.agg #[.bool false, .int .i64 0, .int .u16 0, .int .u32 0, .int .u32 0, .slice none 0 0, .bool false, .int .u16 0, .slice none 0 0, .slice none 0 0, .int .i64 0], .agg #[.int .i64 0, .bool false, .bool false, .int .u16 0], .slice ja l.length jc]) ?_ rfl ?_
  · refine (results_cells2 (p := 2) (q := 3) (u := 4) (t1 := 79) (t2 := 81) rfl _ _ w.heap.size (w.heap.size + 1) 79 81 #[.bool false, .int .i64 0, .int .u16 0, .int .u32 0, .int .u32 0, .slice none 0 0, .bool false, .int .u16 0, .slice none 0 0, .slice none 0 0, .int .i64 0] #[.int .i64 0, .bool false, .bool false, .int .u16 0] (0, 0) (0, 0) _ _ (by rfl) ((setRow_other _ _ _ _ (by omega)).trans (setRow_heap _ _ _ _ _ _ hP5)) Tryz.underlying79 rfl (by kernel_rfl) (by rfl) (setRow_heap _ _ _ _ _ _ hD5) Tryz.underlying81 rfl (by kernel_rfl)).trans ?_
    rfl
  refine ⟨⟨_, rfl, ?_⟩, below_setRow (below_setRow HBW.out (Nat.le_refl _) _) (Nat.le_succ _) _⟩
  have k1 : ItmsRow (w5.setRow w.heap.size #[.bool false, .int .i64 0, .int .u16 0, .int .u32 0, .int .u32 0, .slice none 0 0, .bool false, .int .u16 0, .slice none 0 0, .slice none 0 0, .int .i64 0]) (.slice ja l.length jc) l := HIT.out.fr (fr_setRow w5 _ _) (fun k hk => by have hk : k = w.heap.size := hk; subst hk; exact ⟨_, _, _, hP5, by decide, by decide, by decide, by decide, by decide, by decide, by decide⟩)
  exact k1.fr (fr_setRow _ _ _) (fun k hk => by have hk : k = w.heap.size + 1 := hk; subst hk; exact ⟨_, _, _, hD5, by decide, by decide, by decide, by decide, by decide, by decide, by decide⟩)
end Go.Proofs.By
set_option linter.unusedSimpArgs false
namespace Go.Proofs.By
open Go.RowKit Go.Proofs.Heap
open Go.Proofs.Rm (inn)
theorem sin8_any (n : Int) (w : World) : Calls Tryz.prog 66 #[.int .i64 n, .int .i64 8] w fun e w' => e = .returned (.bool (inn n 9)) ∧ w = w' := by
  have HW : Hid (inn n 9 = (decide (1 ≤ n) && decide (n < 9))) := rfl
  generalize inn n 9 = x at *
  by_cases h1 : 1 ≤ n
  · have HF : Hid (x = decide (n ≤ 8)) := by show _ = _; rw [HW.out, decide_eq_true h1]; simp only [Bool.true_and]; exact decide_eq_decide.2 (by omega)
    have d1 : decide (1 ≤ n) = true := decide_eq_true h1
    clear HW
    go_enter Tryz.func66, Tryz.ntmps66
    go_wp2
    go_ret
    exact ⟨ret_bool HF.out.symm, rfl⟩
  · have HF : Hid (x = false) := by show _ = _; rw [HW.out, decide_eq_false h1]; simp
    have d1 : decide (1 ≤ n) = false := decide_eq_false h1
    clear HW
    go_enter Tryz.func66, Tryz.ntmps66
    go_wp2
    go_ret
    exact ⟨ret_bool HF.out.symm, rfl⟩
theorem ret_u32 {a b : Int} (h : a = b) : Ending.returned (.int .u32 a) = .returned (.int .u32 b) := by rw [h]
theorem sOut_any (p s : Int) (w : World) : Calls Tryz.prog 37 #[.int .i64 p, .int .i64 s] w fun e w' => e = .returned (.int .u32 (outOf p s)) ∧ w = w' := by
  have CP := Lib.hid (sin8_any p w)
  have CS := Lib.hid (sin8_any s w)
  cases h1 : inn p 9
  · have HF : Hid (outOf p s = 0) := by show _ = _; unfold outOf; rw [h1]; rfl
    rw [h1] at CP
    generalize outOf p s = x at *
    clear CS h1
    go_enter Tryz.func37, Tryz.ntmps37
    go_wp2_with (go_at_call 66; refine CP.out.mono ?_; rintro e w' ⟨rfl, rfl⟩)
    go_ret
    exact ⟨ret_u32 HF.out.symm, rfl⟩
  · cases h2 : inn s 9
    · have HF : Hid (outOf p s = 0) := by show _ = _; unfold outOf; rw [h1, h2]; rfl
      rw [h1] at CP
      rw [h2] at CS
      generalize outOf p s = x at *
      clear h1 h2
      go_enter Tryz.func37, Tryz.ntmps37
      go_wp2_with fail
      refine CP.out.mono ?_; rintro e w' ⟨rfl, rfl⟩
      go_wp2_with fail
      refine CS.out.mono ?_; rintro e w' ⟨rfl, rfl⟩
      go_wp2_with fail
      go_ret
      exact ⟨ret_u32 HF.out.symm, rfl⟩
    · have HF : Hid (outOf p s = 3221225472 + (256 * p + s)) := by show _ = _; unfold outOf; rw [h1, h2]; rfl
      rw [h1] at CP
      rw [h2] at CS
      obtain ⟨b1, b2⟩ := inn_iff.1 h1
      obtain ⟨b3, b4⟩ := inn_iff.1 h2
      generalize outOf p s = x at *
      clear h1 h2
      go_enter Tryz.func37, Tryz.ntmps37
      go_wp2_with fail
      refine CP.out.mono ?_; rintro e w' ⟨rfl, rfl⟩
      go_wp2_with fail
      refine CS.out.mono ?_; rintro e w' ⟨rfl, rfl⟩
      go_wp2_with fail
      go_ret
      exact ⟨ret_u32 (by rw [HF.out]), rfl⟩
theorem sWhose_any (x : Int) (w : World) (h0 : 0 ≤ x) (h1 : x < 4294967296) :
    Calls Tryz.prog 160 #[.int .u32 x] w fun e w' => e = .returned (.tuple #[.int .i64 (whose x).1, .int .i64 (whose x).2.1, .bool (whose x).2.2]) ∧ w = w' := by
  have hw : IntKind.u32.wrap (x - 3221225472) = (x + 1073741824) % 4294967296 := by rw [IntKind.wrap_u32]; omega
  have HE : Hid (whose x = if inn ((x + 1073741824) % 4294967296 / 256) 9 && inn ((x + 1073741824) % 4294967296 % 256) 9 then ((x + 1073741824) % 4294967296 / 256, (x + 1073741824) % 4294967296 % 256, true) else (0, 0, false)) := rfl
  have hx : ∀ n : Int, n = (x + 1073741824) % 4294967296 → inn (n / 256) 9 = true → inn (n % 256) 9 = true → 3221225472 + (256 * (n / 256) + n % 256) = x := fun n hn ha hb => by
    rw [inn_iff] at ha hb; omega
  have hb0 : 0 ≤ (x + 1073741824) % 4294967296 := by omega
  have hb1 : (x + 1073741824) % 4294967296 < 4294967296 := by omega
  generalize whose x = X at *
  generalize (x + 1073741824) % 4294967296 = n at *
  have CO := Lib.hid (sOut_any (n / 256) (n % 256) w)
  have hq0 : 0 ≤ n / 256 := by omega
  have hq1 : n / 256 < 16777216 := by omega
  have hr0 : 0 ≤ n % 256 := by omega
  have hr1 : n % 256 < 256 := by omega
  by_cases hc : (inn (n / 256) 9 && inn (n % 256) 9) = true
  · have hX : X = (n / 256, n % 256, true) := by rw [HE.out, if_pos hc]
    subst hX
    have hc' := hc
    rw [Bool.and_eq_true] at hc'
    have e : outOf (n / 256) (n % 256) = x := by unfold outOf; rw [if_pos hc, hx n rfl hc'.1 hc'.2]
    rw [e] at CO
    have hne : 3221225472 ≤ x := by have := hx n rfl hc'.1 hc'.2; omega
    have b1 : (x == 0) = false := by rw [beq_eq_false_iff_ne]; omega
    have b2 : (x != x) = false := by simp
    clear HE hx hc hc' e
    go_enter Tryz.func160, Tryz.ntmps160
    go_wp2_with fail
    refine CO.out.mono ?_
    rintro e w' ⟨rfl, rfl⟩
    go_wp2_with fail
    go_ret3
    exact ⟨rfl, rfl⟩
  · have hX : X = (0, 0, false) := by rw [HE.out, if_neg hc]
    subst hX
    have e : outOf (n / 256) (n % 256) = 0 := by unfold outOf; rw [if_neg hc]
    rw [e] at CO
    clear HE hx hc e
    go_enter Tryz.func160, Tryz.ntmps160
    go_wp2_with fail
    refine CO.out.mono ?_
    rintro e w' ⟨rfl, rfl⟩
    go_wp2_with fail
    go_ret3
    exact ⟨rfl, rfl⟩
end Go.Proofs.By
set_option linter.unusedSimpArgs false
namespace Go.Proofs.By
open Go.RowKit Go.Proofs.Heap
open Go.Proofs.Rm (TurnRow Turn Room RoomAt Inv of of_some of_lt Of_any Source_any Sub_any hears)
set_option maxHeartbeats 2000000 in
theorem Owned_any (b : Nat) (R : Room) (peer x : Int) (w : World) (hR : RoomAt w b R) (hI : Inv R) (hl : ∀ n, (R.src n).ss.length ≤ 1000000) :
    Calls Tryz.prog 130 #[.pointer (some ⟨b, 0, none⟩), .int .i64 peer, .int .u32 x] w fun e w' => (∃ n l : Int, e = .returned (.tuple #[.int .i64 n, .int .i64 l, .bool (owned R peer x)])) ∧ Below w.heap.size w w' := by
  obtain ⟨n, O2, O3, hO⟩ : ∃ (n : Nat) (O2 : Int) (O3 : Bool), of R x = ((n : Int), O2, O3) := ⟨(of R x).1.toNat, (of R x).2.1, (of R x).2.2, by rw [Int.toNat_of_nonneg (of_lt R x).1]⟩
  have HX : Hid (owned R peer x = (O3 && decide ((R.src n).own = peer))) := by
    show _ = _
    unfold owned
    rw [hO]
    rfl
  have HTH : Hid (O3 = true → (R.src n).there = true) := by
    show _ → _
    intro h3
    obtain ⟨m, _, h1, _, h2⟩ := of_some (R := R) (x := x) (by rw [hO]; exact h3)
    rw [hO] at h2
    have h4 : (n : Int) = (m : Int) := congrArg (·.1) h2
    have h4 : n = m := by omega
    rw [h4]; exact h1
  have COF : Hid (Calls Tryz.prog 127 #[.pointer (some ⟨b, 0, none⟩), .int .u32 x] w fun e w' => e = .returned (.tuple #[.int .i64 (n : Int), .int .i64 O2, .bool O3]) ∧ Below w.heap.size w w') := by
    have h := Of_any b R x w hR
    rw [hO] at h
    exact h
  have CSR := Lib.hid (fun (w2 : World) (h : Below w.heap.size w w2) => Source_any b R n w2 (hR.below h) hI hl)
  generalize owned R peer x = X at *
  clear hO hR hI hl
  cases O3 with
  | false =>
    have HX0 : Hid (X = false) := by show _ = _; rw [HX.out]; rfl
    clear HX HTH
    go_enter Tryz.func130, Tryz.ntmps130
    go_wp2_with (first | (go_at_call 127; refine COF.out.mono ?_; rintro e w2 ⟨rfl, hb2⟩; have HB2 := Lib.hid hb2; clear hb2) | (go_at_call 81; refine (CSR.out _ HB2.out).mono ?_; rintro e w3 ⟨⟨nm, ow, a, k, c, mu, has, rfl, hhas, how⟩, hb3⟩; have HB3 := Lib.hid (HB2.out.trans (hb3.mono HB2.out.size)); clear hb3 hhas how))
    go_ret3
    exact ⟨⟨0, 0, by rw [HX0.out]; rfl⟩, bel_alloc HB3.out (Nat.le_refl _) _⟩
  | true =>
    by_cases hp : (R.src n).own = peer
    · have HX0 : Hid (X = true) := by show _ = _; rw [HX.out, decide_eq_true hp]; rfl
      have HP := Lib.hid hp
      clear HX hp
      go_enter Tryz.func130, Tryz.ntmps130
      go_wp2_with (first | (go_at_call 127; refine COF.out.mono ?_; rintro e w2 ⟨rfl, hb2⟩; have HB2 := Lib.hid hb2; clear hb2) | (go_at_call 81; refine (CSR.out _ HB2.out).mono ?_; rintro e w3 ⟨⟨nm, ow, a, k, c, mu, has, rfl, hhas, how⟩, hb3⟩; have HB3 := Lib.hid (HB2.out.trans (hb3.mono HB2.out.size)); have how2 : ow = peer := ((how (by rw [hhas]; exact HTH.out (by first | rfl | trivial))).trans HP.out); have hbb : (ow != peer) = false := (by rw [how2]; simp); have hbb2 : (ow == peer) = true := (by rw [how2]; simp); clear hb3 hhas how how2))
      go_ret3
      exact ⟨⟨(n : Int), O2, by rw [HX0.out]; rfl⟩, bel_alloc HB3.out (Nat.le_refl _) _⟩
    · have HX0 : Hid (X = false) := by show _ = _; rw [HX.out, decide_eq_false hp]; rfl
      have HP := Lib.hid hp
      clear HX hp
      go_enter Tryz.func130, Tryz.ntmps130
      go_wp2_with (first | (go_at_call 127; refine COF.out.mono ?_; rintro e w2 ⟨rfl, hb2⟩; have HB2 := Lib.hid hb2; clear hb2) | (go_at_call 81; refine (CSR.out _ HB2.out).mono ?_; rintro e w3 ⟨⟨nm, ow, a, k, c, mu, has, rfl, hhas, how⟩, hb3⟩; have HB3 := Lib.hid (HB2.out.trans (hb3.mono HB2.out.size)); have how2 := how (by rw [hhas]; exact HTH.out (by first | rfl | trivial)); have hne : ow ≠ peer := (by rw [how2]; exact HP.out); have hbb : (ow != peer) = true := (by rw [bne_iff_ne]; exact hne); have hbb2 : (ow == peer) = false := (by rw [beq_eq_false_iff_ne]; exact hne); clear hb3 hhas how how2 hne))
      go_ret3
      exact ⟨⟨0, 0, by rw [HX0.out]; rfl⟩, bel_alloc HB3.out (Nat.le_refl _) _⟩
set_option maxHeartbeats 2000000 in
theorem Heard_any (b : Nat) (R : Room) (peer x : Int) (w : World) (hR : RoomAt w b R) (h0 : 0 ≤ x) (h1 : x < 4294967296) :
    Calls Tryz.prog 131 #[.pointer (some ⟨b, 0, none⟩), .int .i64 peer, .int .u32 x] w fun e w' => (∃ n : Int, e = .returned (.tuple #[.int .i64 n, .bool (heardBy R peer x)])) ∧ Below w.heap.size w w' := by
  have CW := Lib.hid (sWhose_any x w h0 h1)
  have HX : Hid (heardBy R peer x = ((whose x).2.2 && decide ((whose x).1 = peer) && hears R peer (whose x).2.1)) := rfl
  generalize whose x = W at *
  obtain ⟨wp, ws, wk⟩ := W
  dsimp only at CW HX
  have CS := Lib.hid (Sub_any b R peer ws w hR)
  generalize heardBy R peer x = X at *
  generalize hears R peer ws = hv at *
  generalize (R.sub ws.toNat peer.toNat).want = s1 at *
  generalize (R.sub ws.toNat peer.toNat).paused = s2 at *
  clear hR h0 h1
  cases wk with
  | false =>
    have HX0 : Hid (X = false) := by show _ = _; rw [HX.out]; rfl
    clear HX
    cases hv with
    | false =>
      rw [if_neg (by simp)] at CS
      go_enter Tryz.func131, Tryz.ntmps131
      go_wp2_with (first | (go_at_call 160; refine CW.out.mono ?_; rintro e w2 ⟨rfl, rfl⟩) | (go_at_call 83; refine CS.out.mono ?_; rintro e w3 ⟨rfl, hb3⟩; have HB3 := Lib.hid hb3; clear hb3))
      go_ret2
      exact ⟨⟨0, by rw [HX0.out]; rfl⟩, bel_alloc HB3.out (Nat.le_refl _) _⟩
    | true =>
      rw [if_pos rfl] at CS
      go_enter Tryz.func131, Tryz.ntmps131
      go_wp2_with (first | (go_at_call 160; refine CW.out.mono ?_; rintro e w2 ⟨rfl, rfl⟩) | (go_at_call 83; refine CS.out.mono ?_; rintro e w3 ⟨rfl, hb3⟩; have HB3 := Lib.hid hb3; clear hb3))
      go_ret2
      exact ⟨⟨0, by rw [HX0.out]; rfl⟩, bel_alloc HB3.out (Nat.le_refl _) _⟩
  | true =>
    by_cases hp : wp = peer
    · subst hp
      cases hv with
      | false =>
        have HX0 : Hid (X = false) := by show _ = _; rw [HX.out]; simp
        rw [if_neg (by simp)] at CS
        clear HX
        go_enter Tryz.func131, Tryz.ntmps131
        go_wp2_with (first | (go_at_call 160; refine CW.out.mono ?_; rintro e w2 ⟨rfl, rfl⟩) | (go_at_call 83; refine CS.out.mono ?_; rintro e w3 ⟨rfl, hb3⟩; have HB3 := Lib.hid hb3; clear hb3))
        go_ret2
        exact ⟨⟨0, by rw [HX0.out]; rfl⟩, bel_alloc HB3.out (Nat.le_refl _) _⟩
      | true =>
        have HX0 : Hid (X = true) := by show _ = _; rw [HX.out]; simp
        rw [if_pos rfl] at CS
        clear HX
        go_enter Tryz.func131, Tryz.ntmps131
        go_wp2_with (first | (go_at_call 160; refine CW.out.mono ?_; rintro e w2 ⟨rfl, rfl⟩) | (go_at_call 83; refine CS.out.mono ?_; rintro e w3 ⟨rfl, hb3⟩; have HB3 := Lib.hid hb3; clear hb3))
        go_ret2
        exact ⟨⟨ws, by rw [HX0.out]; rfl⟩, bel_alloc HB3.out (Nat.le_refl _) _⟩
    · have HX0 : Hid (X = false) := by show _ = _; rw [HX.out, decide_eq_false hp]; simp
      have hbb : (wp != peer) = true := by rw [bne_iff_ne]; exact hp
      have hbb2 : (wp == peer) = false := by rw [beq_eq_false_iff_ne]; exact hp
      clear HX hp
      cases hv with
      | false =>
        rw [if_neg (by simp)] at CS
        go_enter Tryz.func131, Tryz.ntmps131
        go_wp2_with (first | (go_at_call 160; refine CW.out.mono ?_; rintro e w2 ⟨rfl, rfl⟩) | (go_at_call 83; refine CS.out.mono ?_; rintro e w3 ⟨rfl, hb3⟩; have HB3 := Lib.hid hb3; clear hb3))
        go_ret2
        exact ⟨⟨0, by rw [HX0.out]; rfl⟩, bel_alloc HB3.out (Nat.le_refl _) _⟩
      | true =>
        rw [if_pos rfl] at CS
        go_enter Tryz.func131, Tryz.ntmps131
        go_wp2_with (first | (go_at_call 160; refine CW.out.mono ?_; rintro e w2 ⟨rfl, rfl⟩) | (go_at_call 83; refine CS.out.mono ?_; rintro e w3 ⟨rfl, hb3⟩; have HB3 := Lib.hid hb3; clear hb3))
        go_ret2
        exact ⟨⟨0, by rw [HX0.out]; rfl⟩, bel_alloc HB3.out (Nat.le_refl _) _⟩
end Go.Proofs.By
set_option linter.unusedSimpArgs false
namespace Go.Proofs.By
open Go.RowKit Go.Proofs.Heap
open Go.Proofs.Rm (TurnRow Turn Room RoomAt Inv Slim u32s turnCells elemTurn turns_len turns_one owns_fr own_le goneOp Gone_any inv_goneOp slim_goneOp)
theorem take_snocG {l : List Int} {k : Nat} (h : k < l.length) : l.take (k + 1) = l.take k ++ [l.getD k 0] := by
  rw [List.take_succ_eq_append_getElem h, List.getD_eq_getElem?_getD, List.getElem?_eq_getElem h]; rfl
set_option maxRecDepth 100000 in
set_option maxHeartbeats 4000000 in
theorem ItemDo_any (b : Nat) (R : Room) (peer : Int) (x : ItmV) (w : World) (hR : RoomAt w b R) (hI : Inv R) (hS : Slim R) (hok : ItmOk x.i) (hx : ItmR w x) :
    Calls Tryz.prog 108 #[.pointer (some ⟨b, 0, none⟩), .int .i64 peer, .agg (itmvCells x).toArray] w fun e w' =>
      (∃ v, e = .returned (.tuple #[v, .int .i64 (itemDo R peer x.i).2]) ∧ TurnRow w' v (itemDo R peer x.i).1.1) ∧ RoomAt w' b (itemDo R peer x.i).1.2 ∧ Fr w.heap.size (· = b) w w' := by
  obtain ⟨i, bv, gv, pv⟩ := x
  obtain ⟨ba, bc, hbv⟩ := Row.form hx.b
  obtain ⟨ga, gc, hgv⟩ := Row.form hx.g
  obtain ⟨pa, pc, hpv⟩ := Row.form hx.p
  have hgr := hx.g
  obtain ⟨kd, ss, nt, tm, pk, oc, bs, gn, md, ps⟩ := i
  have hm0 := hok.m0
  have hm1 := hok.m1
  have hgl := hok.g
  clear hok hx
  dsimp only at hbv hgv hpv hgr hm0 hm1 hgl ⊢
  subst hbv; subst hgv; subst hpv
  dsimp only [itmvCells]
  have HB1 : Hid (Below w.heap.size w (w.alloc (.cells #[.int .i64 kd, .int .u32 ss, .int .u64 nt, .int .u32 tm, .int .u32 pk, .int .u32 oc, .slice ba bs.length bc, .slice ga gn.length gc, .int .u32 md, .slice pa ps.length pc] 173))) := below_alloc w _
  have hz := heap_new w (.cells #[.int .i64 kd, .int .u32 ss, .int .u64 nt, .int .u32 tm, .int .u32 pk, .int .u32 oc, .slice ba bs.length bc, .slice ga gn.length gc, .int .u32 md, .slice pa ps.length pc] 173)
  have HR := Lib.hid hR
  have HR1 := Lib.hid (hR.below HB1.out)
  have hb := hR.lt
  have HIT : Hid (itemDo R peer ⟨kd, ss, nt, tm, pk, oc, bs, gn, md, ps⟩ = if kd = 200 then (([], R), if owned R peer ss then 0 else 1) else if kd = 205 ∨ kd = 206 then (([], R), if heardBy R peer md then 0 else 1) else if kd = 203 then goneAll peer gn R else (([], R), 0)) := rfl
  generalize itemDo R peer ⟨kd, ss, nt, tm, pk, oc, bs, gn, md, ps⟩ = X at *
  generalize bs.length = bl at *
  generalize ps.length = pl at *
  by_cases k200 : kd = 200
  · subst k200
    have HX1 : Hid (X = (([], R), if owned R peer ss then 0 else 1)) := by show _ = _; rw [HIT.out]; simp
    have CO := Lib.hid (Owned_any b R peer ss _ HR1.out hI hS.short)
    clear HIT hI hS hgr hR hm0 hm1 hgl
    generalize owned R peer ss = O at *
    cases O with
    | false =>
      have HX : Hid (X = (([], R), 1)) := by show _ = _; rw [HX1.out]; rfl
      clear HX1
      go_enter Tryz.func108, Tryz.ntmps108
      go_wp2_with (go_at_call 130; refine CO.out.mono ?_; rintro e w2 ⟨⟨n, l, rfl⟩, hb2⟩; have HBW := Lib.hid (HB1.out.trans (hb2.mono HB1.out.size)); have hz2 := (hb2.block w.heap.size (hp_lt hz)).trans hz; have c0 := cell_of hz2 0; simp only [List.getElem?_toArray, List.getElem?_cons_zero] at c0; clear hb2 hz2)
      go_ret2
      exact ⟨⟨.slice none 0 0, by rw [HX.out]; rfl, by rw [HX.out]; exact Row.nil _ _⟩, by rw [HX.out]; exact HR.out.below HBW.out, Fr.of_below _ HBW.out⟩
    | true =>
      have HX : Hid (X = (([], R), 0)) := by show _ = _; rw [HX1.out]; rfl
      clear HX1
      go_enter Tryz.func108, Tryz.ntmps108
      go_wp2_with (go_at_call 130; refine CO.out.mono ?_; rintro e w2 ⟨⟨n, l, rfl⟩, hb2⟩; have HBW := Lib.hid (HB1.out.trans (hb2.mono HB1.out.size)); have hz2 := (hb2.block w.heap.size (hp_lt hz)).trans hz; have c0 := cell_of hz2 0; simp only [List.getElem?_toArray, List.getElem?_cons_zero] at c0; clear hb2 hz2)
      go_ret2
      exact ⟨⟨.slice none 0 0, by rw [HX.out]; rfl, by rw [HX.out]; exact Row.nil _ _⟩, by rw [HX.out]; exact HR.out.below HBW.out, Fr.of_below _ HBW.out⟩
  by_cases k205 : kd = 205
  · subst k205
    have HX1 : Hid (X = (([], R), if heardBy R peer md then 0 else 1)) := by show _ = _; rw [HIT.out]; simp
    have CO := Lib.hid (Heard_any b R peer md _ HR1.out hm0 hm1)
    clear HIT hI hS hgr hR hm0 hm1 hgl
    generalize heardBy R peer md = O at *
    cases O with
    | false =>
      have HX : Hid (X = (([], R), 1)) := by show _ = _; rw [HX1.out]; rfl
      clear HX1
      go_enter Tryz.func108, Tryz.ntmps108
      go_wp2_with (go_at_call 131; refine CO.out.mono ?_; rintro e w2 ⟨⟨n, rfl⟩, hb2⟩; have HBW := Lib.hid (HB1.out.trans (hb2.mono HB1.out.size)); have hz2 := (hb2.block w.heap.size (hp_lt hz)).trans hz; have c0 := cell_of hz2 0; simp only [List.getElem?_toArray, List.getElem?_cons_zero] at c0; clear hb2 hz2)
      go_ret2
      exact ⟨⟨.slice none 0 0, by rw [HX.out]; rfl, by rw [HX.out]; exact Row.nil _ _⟩, by rw [HX.out]; exact HR.out.below HBW.out, Fr.of_below _ HBW.out⟩
    | true =>
      have HX : Hid (X = (([], R), 0)) := by show _ = _; rw [HX1.out]; rfl
      clear HX1
      go_enter Tryz.func108, Tryz.ntmps108
      go_wp2_with (go_at_call 131; refine CO.out.mono ?_; rintro e w2 ⟨⟨n, rfl⟩, hb2⟩; have HBW := Lib.hid (HB1.out.trans (hb2.mono HB1.out.size)); have hz2 := (hb2.block w.heap.size (hp_lt hz)).trans hz; have c0 := cell_of hz2 0; simp only [List.getElem?_toArray, List.getElem?_cons_zero] at c0; clear hb2 hz2)
      go_ret2
      exact ⟨⟨.slice none 0 0, by rw [HX.out]; rfl, by rw [HX.out]; exact Row.nil _ _⟩, by rw [HX.out]; exact HR.out.below HBW.out, Fr.of_below _ HBW.out⟩
  by_cases k206 : kd = 206
  · subst k206
    have HX1 : Hid (X = (([], R), if heardBy R peer md then 0 else 1)) := by show _ = _; rw [HIT.out]; simp
    have CO := Lib.hid (Heard_any b R peer md _ HR1.out hm0 hm1)
    clear HIT hI hS hgr hR hm0 hm1 hgl
    generalize heardBy R peer md = O at *
    cases O with
    | false =>
      have HX : Hid (X = (([], R), 1)) := by show _ = _; rw [HX1.out]; rfl
      clear HX1
      go_enter Tryz.func108, Tryz.ntmps108
      go_wp2_with (go_at_call 131; refine CO.out.mono ?_; rintro e w2 ⟨⟨n, rfl⟩, hb2⟩; have HBW := Lib.hid (HB1.out.trans (hb2.mono HB1.out.size)); have hz2 := (hb2.block w.heap.size (hp_lt hz)).trans hz; have c0 := cell_of hz2 0; simp only [List.getElem?_toArray, List.getElem?_cons_zero] at c0; clear hb2 hz2)
      go_ret2
      exact ⟨⟨.slice none 0 0, by rw [HX.out]; rfl, by rw [HX.out]; exact Row.nil _ _⟩, by rw [HX.out]; exact HR.out.below HBW.out, Fr.of_below _ HBW.out⟩
    | true =>
      have HX : Hid (X = (([], R), 0)) := by show _ = _; rw [HX1.out]; rfl
      clear HX1
      go_enter Tryz.func108, Tryz.ntmps108
      go_wp2_with (go_at_call 131; refine CO.out.mono ?_; rintro e w2 ⟨⟨n, rfl⟩, hb2⟩; have HBW := Lib.hid (HB1.out.trans (hb2.mono HB1.out.size)); have hz2 := (hb2.block w.heap.size (hp_lt hz)).trans hz; have c0 := cell_of hz2 0; simp only [List.getElem?_toArray, List.getElem?_cons_zero] at c0; clear hb2 hz2)
      go_ret2
      exact ⟨⟨.slice none 0 0, by rw [HX.out]; rfl, by rw [HX.out]; exact Row.nil _ _⟩, by rw [HX.out]; exact HR.out.below HBW.out, Fr.of_below _ HBW.out⟩
  have e1 : (kd == 200) = false := by rw [beq_eq_false_iff_ne]; exact k200
  have e2 : (kd == 205) = false := by rw [beq_eq_false_iff_ne]; exact k205
  have e3 : (kd == 206) = false := by rw [beq_eq_false_iff_ne]; exact k206
  have HX2 : Hid (X = if kd = 203 then goneAll peer gn R else (([], R), 0)) := by show _ = _; rw [HIT.out, if_neg k200, if_neg (by omega)]
  clear HIT hm0 hm1
  by_cases k203 : kd = 203
  rotate_left
  · have HX : Hid (X = (([], R), 0)) := by show _ = _; rw [HX2.out, if_neg k203]
    have e4 : (kd == 203) = false := by rw [beq_eq_false_iff_ne]; exact k203
    have e5 : (kd != 203) = true := by rw [bne_iff_ne]; exact k203
    have HBW := HB1
    clear HX2 hgr hI hS hR
    go_enter Tryz.func108, Tryz.ntmps108
    go_wp2_with fail
    go_ret2
    exact ⟨⟨.slice none 0 0, by rw [HX.out]; rfl, by rw [HX.out]; exact Row.nil _ _⟩, by rw [HX.out]; exact HR.out.below HBW.out, Fr.of_below _ HBW.out⟩
  subst k203
  have HX : Hid (X = goneAll peer gn R) := by show _ = _; rw [HX2.out, if_pos rfl]
  have HGR := Lib.hid hgr
  have HTY : Hid (∀ k c fr, k = b → w.heap[k]? ≠ some (.cells c 66 fr)) := hR.typ (by decide)
  have HIV : Hid (∀ j, Inv (goneAll peer (gn.take j) R).1.2 ∧ (goneAll peer (gn.take j) R).1.1.length ≤ 18 * (gn.take j).length ∧ 0 ≤ (goneAll peer (gn.take j) R).2 ∧ (goneAll peer (gn.take j) R).2 ≤ (gn.take j).length) := fun j => by
    have h := goneAll_ok peer (gn.take j) R hI hS
    exact ⟨h.1, h.2.2⟩
  clear HX2 hgr hI hS e1 e2 e3 k200 k205 k206
  go_enter Tryz.func108, Tryz.ntmps108
  go_wp2_with fail
  go_loopw [6, 7, 45] (fun s6 s7 s45 w' => ∃ j : Nat, j ≤ gn.length ∧ s45 = .int .i64 (j : Int) ∧ s7 = .int .i64 (goneAll peer (gn.take j) R).2 ∧ Fr w.heap.size (· = b) w w' ∧ RoomAt w' b (goneAll peer (gn.take j) R).1.2 ∧ w'.ownsRow w.heap.size 158 5 s6 (goneAll peer (gn.take j) R).1.1.length ((goneAll peer (gn.take j) R).1.1.flatMap turnCells)) (fun _ _ s45 _ => gn.length - (intOf s45).toNat)
  case atStart => exact ⟨0, by omega, rfl, rfl, Fr.of_below _ HB1.out, HR1.out, World.ownsRow_nil _ _ _ _⟩
  case round =>
    obtain ⟨j, hj, rfl, rfl, hfr, hroom, hown⟩ := hrel
    have HFR := Lib.hid hfr
    have HROOM := Lib.hid hroom
    have HOWN := Lib.hid hown
    have hsz := hfr.size
    obtain ⟨oa, oc', hs6, -⟩ := Row.of_owns hown
    subst hs6
    clear hfr hroom hown
    by_cases hjl : j < gn.length
    · have hrow := HGR.out.fr HFR.out (Nat.le_refl _) HTY.out
      obtain ⟨g', off', cap', e1, -, -, hg', hcells⟩ := Rm.u32_open (l := gn) hrow (by omega)
      cases e1
      have hc := hcells j hjl
      have HT := Lib.hid (take_snocG hjl)
      have hiv := HIV.out j
      have hcn := cnt_le
      rw [List.length_take] at hiv
      obtain ⟨-, hi2, hi3, hi4⟩ := hiv
      clear hcells hrow
      generalize gn.getD j 0 = p at *
      have HS := Lib.hid (goneAll_snoc peer p (gn.take j) R)
      have CG := Lib.hid (Gone_any b (goneAll peer (gn.take j) R).1.2 peer p wr HROOM.out)
      have HGL := goneOp_len (goneAll peer (gn.take j) R).1.2 peer p
      generalize goneAll peer (gn.take j) R = G at *
      generalize goneOp G.1.2 peer p = Y at *
      obtain ⟨⟨Y1, Y2⟩, ye⟩ := Y
      obtain ⟨⟨G1, G2⟩, gu⟩ := G
      dsimp only at CG HS HGL HROOM HOWN hi2 hi3 hi4
      by_cases hye : ye = 0
      · subst hye
        have HS2 : Hid (goneAll peer (gn.take j ++ [p]) R = ((G1 ++ Y1, Y2), gu)) := by show _ = _; rw [HS.out]; simp [cnt]
        clear HS hcn
        go_wp2_with (first | (go_at_call 132; refine CG.out.mono ?_; rintro e w2 ⟨⟨tv, rfl, htr⟩, hroom2, hfr2⟩; obtain ⟨ta, tc, htv, -⟩ := id htr; subst htv; have HTR := Lib.hid htr; have HROOM2 := Lib.hid hroom2; have HFR2 := Lib.hid hfr2; have hs2 := hfr2.size; clear hroom2 hfr2 htr) | (at_builtin; refine wpList_app rfl (.tmp 60) (.tmp 61) 98 rfl w.heap.size elemTurn _ G1.length (G1.flatMap turnCells) rfl ?b1 _ Y1.length (Y1.flatMap turnCells) rfl ?b2 ?b3 ?b4 ?b5 ?b6 ?b7 (fun v' w3 HO HG => ?_)))
        case b1 => exact owns_fr HOWN.out HFR2.out (fun k hk => by omega)
        case b2 => exact HTR.out
        case b3 => exact turns_len _
        case b4 => exact turns_one _
        case b5 => omega
        case b6 => omega
        case b7 => omega
        go_roundw
        case rel =>
          refine ⟨j + 1, by omega, by go_num, by rw [HT.out, HS2.out], ?_, ?_, ?_⟩
          · exact (HFR.out.trans (HFR2.out.mono hsz (fun _ _ h => h))).grown HG.out (by omega) (own_le HOWN.out)
          · rw [HT.out, HS2.out]
            exact RoomAt.grown HROOM2.out (owns_fr HOWN.out HFR2.out (fun k hk => by omega)) HG.out hb (by decide)
          · rw [HT.out, HS2.out]
            dsimp only
            rw [List.length_append, List.flatMap_append]
            exact HO.out
        case measure => simp [intOf]; omega
      · have hn1 : (ye == 0) = false := by rw [beq_eq_false_iff_ne]; exact hye
        have hn2 : (ye != 0) = true := by rw [bne_iff_ne]; exact hye
        have HS2 : Hid (goneAll peer (gn.take j ++ [p]) R = ((G1 ++ Y1, Y2), gu + 1)) := by show _ = _; rw [HS.out]; simp [cnt, hye]
        clear HS hcn
        go_wp2_with (first | (go_at_call 132; refine CG.out.mono ?_; rintro e w2 ⟨⟨tv, rfl, htr⟩, hroom2, hfr2⟩; obtain ⟨ta, tc, htv, -⟩ := id htr; subst htv; have HTR := Lib.hid htr; have HROOM2 := Lib.hid hroom2; have HFR2 := Lib.hid hfr2; have hs2 := hfr2.size; clear hroom2 hfr2 htr) | (at_builtin; refine wpList_app rfl (.tmp 60) (.tmp 61) 98 rfl w.heap.size elemTurn _ G1.length (G1.flatMap turnCells) rfl ?b1 _ Y1.length (Y1.flatMap turnCells) rfl ?b2 ?b3 ?b4 ?b5 ?b6 ?b7 (fun v' w3 HO HG => ?_)))
        case b1 => exact owns_fr HOWN.out HFR2.out (fun k hk => by omega)
        case b2 => exact HTR.out
        case b3 => exact turns_len _
        case b4 => exact turns_one _
        case b5 => omega
        case b6 => omega
        case b7 => omega
        go_roundw
        case rel =>
          refine ⟨j + 1, by omega, by go_num, by rw [HT.out, HS2.out], ?_, ?_, ?_⟩
          · exact (HFR.out.trans (HFR2.out.mono hsz (fun _ _ h => h))).grown HG.out (by omega) (own_le HOWN.out)
          · rw [HT.out, HS2.out]
            exact RoomAt.grown HROOM2.out (owns_fr HOWN.out HFR2.out (fun k hk => by omega)) HG.out hb (by decide)
          · rw [HT.out, HS2.out]
            dsimp only
            rw [List.length_append, List.flatMap_append]
            exact HO.out
        case measure => simp [intOf]; omega
    · have hjj : j = gn.length := by omega
      have hT : gn.take j = gn := by rw [hjj, List.take_length]
      rw [hT] at HROOM HOWN ⊢
      clear HIV HGR
      generalize goneAll peer gn R = G at *
      go_wp2
      go_ret2
      exact ⟨⟨_, by rw [HX.out]; rfl, by rw [HX.out]; exact Row.of_owns HOWN.out⟩, by rw [HX.out]; exact HROOM.out, HFR.out⟩
end Go.Proofs.By
