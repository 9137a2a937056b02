/- Several texts in one: The walks of package door: refused, control. The walks of package room, each function once: what is only asked. The walks of package room, each function once: Of, Source, Sub, Subs. The walks of package room, each function once: Subs, gone, leave, begin, mute. -/
import Derived.BigQuiet
import Derived.Deep.QuietTactic
import Derived.Laws.ResultCell
import Derived.WalkSpells
import Derived.Test.YtpdjhlcbcomdkaaGreatDoorW04
import Derived.Test.YtpdjhlcbcomdkaaGreatDoorW06
set_option linter.unusedVariables false
set_option linter.unusedSimpArgs false
set_option linter.unusedSimpArgs false
namespace Go.Proofs.By
open Go.RowKit Go.Proofs.Heap
open Go.Proofs.Rm (TurnRow Turn Room RoomAt)
theorem cell_new {w : World} {g o : Nat} {u : Value} (h : w.cell? ⟨g, o, none⟩ = some u) (x : Obj) : (w.alloc x).cell? ⟨g, o, none⟩ = some u := by
  rw [World.cell?_of_block (w := w) ((below_alloc w x).block g (World.block_lt_of_cell? w ⟨g, o, none⟩ h))]; exact h
set_option maxHeartbeats 1000000 in
theorem refused_any (k x : Int) (w : World) : Calls Tryz.prog 78 #[.int .i64 k, .int .i64 x] w fun e w' => (∃ cs : List Value, e = .returned (.agg cs.toArray) ∧ TakenIn w' cs (refusedT k x)) ∧ Below w.heap.size w w' := by
  have hb : Below w.heap.size w ((w.alloc (.cells #[.int .i64 0, .int .i64 0, .int .i64 0, .int .i64 0, .bool false, .int .i64 0, .int .u16 0, .int .u32 0, .int .u32 0, .slice none 0 0, .bool false, .int .u16 0, .slice none 0 0, .slice none 0 0, .int .i64 0, .int .i64 0, .bool false, .bool false, .int .u16 0, .slice none 0 0, .slice none 0 0, .int .i64 0] 100)).setRow w.heap.size #[.int .i64 k, .int .i64 0, .int .i64 0, .int .i64 x, .bool false, .int .i64 0, .int .u16 0, .int .u32 0, .int .u32 0, .slice none 0 0, .bool false, .int .u16 0, .slice none 0 0, .slice none 0 0, .int .i64 0, .int .i64 0, .bool false, .bool false, .int .u16 0, .slice none 0 0, .slice none 0 0, .int .i64 0]) := below_setRow (below_alloc w _) (Nat.le_refl _) _
  have y0 := setRow_heap (w.alloc (.cells #[.int .i64 0, .int .i64 0, .int .i64 0, .int .i64 0, .bool false, .int .i64 0, .int .u16 0, .int .u32 0, .int .u32 0, .slice none 0 0, .bool false, .int .u16 0, .slice none 0 0, .slice none 0 0, .int .i64 0, .int .i64 0, .bool false, .bool false, .int .u16 0, .slice none 0 0, .slice none 0 0, .int .i64 0] 100)) w.heap.size #[.int .i64 0, .int .i64 0, .int .i64 0, .int .i64 0, .bool false, .int .i64 0, .int .u16 0, .int .u32 0, .int .u32 0, .slice none 0 0, .bool false, .int .u16 0, .slice none 0 0, .slice none 0 0, .int .i64 0, .int .i64 0, .bool false, .bool false, .int .u16 0, .slice none 0 0, .slice none 0 0, .int .i64 0] #[.int .i64 k, .int .i64 0, .int .i64 0, .int .i64 x, .bool false, .int .i64 0, .int .u16 0, .int .u32 0, .int .u32 0, .slice none 0 0, .bool false, .int .u16 0, .slice none 0 0, .slice none 0 0, .int .i64 0, .int .i64 0, .bool false, .bool false, .int .u16 0, .slice none 0 0, .slice none 0 0, .int .i64 0] 100 (0, 0) (heap_new w _)
  have hT : ∃ cs : List Value, Ending.returned (.agg #[.int .i64 k, .int .i64 0, .int .i64 0, .int .i64 x, .bool false, .int .i64 0, .int .u16 0, .int .u32 0, .int .u32 0, .slice none 0 0, .bool false, .int .u16 0, .slice none 0 0, .slice none 0 0, .int .i64 0, .int .i64 0, .bool false, .bool false, .int .u16 0, .slice none 0 0, .slice none 0 0, .int .i64 0]) = .returned (.agg cs.toArray) ∧ TakenIn ((w.alloc (.cells #[.int .i64 0, .int .i64 0, .int .i64 0, .int .i64 0, .bool false, .int .i64 0, .int .u16 0, .int .u32 0, .int .u32 0, .slice none 0 0, .bool false, .int .u16 0, .slice none 0 0, .slice none 0 0, .int .i64 0, .int .i64 0, .bool false, .bool false, .int .u16 0, .slice none 0 0, .slice none 0 0, .int .i64 0] 100)).setRow w.heap.size #[.int .i64 k, .int .i64 0, .int .i64 0, .int .i64 x, .bool false, .int .i64 0, .int .u16 0, .int .u32 0, .int .u32 0, .slice none 0 0, .bool false, .int .u16 0, .slice none 0 0, .slice none 0 0, .int .i64 0, .int .i64 0, .bool false, .bool false, .int .u16 0, .slice none 0 0, .slice none 0 0, .int .i64 0]) cs (refusedT k x) := ⟨[.int .i64 k, .int .i64 0, .int .i64 0, .int .i64 x, .bool false, .int .i64 0, .int .u16 0, .int .u32 0, .int .u32 0, .slice none 0 0, .bool false, .int .u16 0, .slice none 0 0, .slice none 0 0, .int .i64 0, .int .i64 0, .bool false, .bool false, .int .u16 0, .slice none 0 0, .slice none 0 0, .int .i64 0], rfl, TakenIn.refused _ k x⟩
  have HT := Lib.hid hT
  clear hT
  go_enter Tryz.func78, Tryz.ntmps78
  go_wp2_with (with_reducible refine store_at 100 (.tmp 4) (.tmp 8) rfl ?_; refine store_rowTo2 rfl 100 (.tmp 4) (.tmp 8) rfl rfl w.heap.size #[.int .i64 k, .int .i64 0, .int .i64 0, .int .i64 x, .bool false, .int .i64 0, .int .u16 0, .int .u32 0, .int .u32 0, .slice none 0 0, .bool false, .int .u16 0, .slice none 0 0, .slice none 0 0, .int .i64 0, .int .i64 0, .bool false, .bool false, .int .u16 0, .slice none 0 0, .slice none 0 0, .int .i64 0] rfl rfl 100 #[.int .i64 0, .int .i64 0, .int .i64 0, .int .i64 0, .bool false, .int .i64 0, .int .u16 0, .int .u32 0, .int .u32 0, .slice none 0 0, .bool false, .int .u16 0, .slice none 0 0, .slice none 0 0, .int .i64 0, .int .i64 0, .bool false, .bool false, .int .u16 0, .slice none 0 0, .slice none 0 0, .int .i64 0] (heap_new w _) (by kernel_rfl) (by kernel_rfl) (by kernel_rfl) ?_)
  exact bodyPost_ret (results_cell_row (by rfl) _ _ w.heap.size 100 #[.int .i64 k, .int .i64 0, .int .i64 0, .int .i64 x, .bool false, .int .i64 0, .int .u16 0, .int .u32 0, .int .u32 0, .slice none 0 0, .bool false, .int .u16 0, .slice none 0 0, .slice none 0 0, .int .i64 0, .int .i64 0, .bool false, .bool false, .int .u16 0, .slice none 0 0, .slice none 0 0, .int .i64 0] (0, 0) _ (by rfl) y0 Tryz.underlying100 rfl (by kernel_rfl)) rfl ⟨HT.out, hb⟩
theorem fr_setRow' {B : Nat} {S : Nat → Prop} {a w : World} (h : Fr B S a w) {g : Nat} (hg : B ≤ g) (c : Array Value) : Fr B S a (w.setRow g c) :=
  ⟨h.os, h.tape, h.output, by simpa [World.setRow] using h.size, fun k hk hs => by rw [setRow_other w g k _ (by omega)]; exact h.block k hk hs⟩
theorem set_one {cs : Array Value} (h : cs.all (·.oneCell') = true) (i : Nat) {v : Value} (hv : v.oneCell' = true) : (cs.setIfInBounds i v).all (·.oneCell') = true := by
  rw [Array.all_eq_true] at h ⊢
  intro j hj
  rw [Array.getElem_setIfInBounds]
  split
  · exact hv
  · exact h j (by simpa using hj)
set_option maxRecDepth 100000 in
set_option maxHeartbeats 1000000 in
theorem control_any (g : Nat) (c0 : Value) (ep : Int) (cs : List Value) (w : World) (hg : w.heap[g]? = some (.cells #[c0, .int .i64 ep] 131 (0, 0))) (h0 : 0 ≤ ep) (h9 : ep < 1000000000) (hcs : cs.length = 22) (h1 : cs.toArray.all (·.oneCell') = true) :
    Calls Tryz.prog 79 #[.pointer (some ⟨g, 0, none⟩), .agg cs.toArray] w fun e w' => e = .returned (.agg ((cs.set 0 (.int .i64 2)).set 2 (.int .i64 (ep + 1))).toArray) ∧ w'.heap[g]? = some (.cells #[c0, .int .i64 (ep + 1)] 131 (0, 0)) ∧ Fr w.heap.size (· = g) w w' := by
  have hcell : w.cell? ⟨g, 1, none⟩ = some (.int .i64 ep) := cell_of hg 1
  have hfz := frozen_of hg 1
  have hgl := hp_lt hg
  have hw : IntKind.i64.wrap (ep + 1) = ep + 1 := IntWalk.i64_in _ (by omega)
  have hsz' : ((cs.set 0 (.int .i64 2)).set 2 (.int .i64 (ep + 1))).length = 22 := by rw [List.length_set, List.length_set, hcs]
  have hone : ((cs.set 0 (.int .i64 2)).set 2 (.int .i64 (ep + 1))).toArray.all (·.oneCell') = true := by
    have h := set_one (set_one h1 0 (v := .int .i64 2) rfl) 2 (v := .int .i64 (ep + 1)) rfl
    rw [List.setIfInBounds_toArray, List.setIfInBounds_toArray] at h
    exact h
  have hgb : (w.setCell ⟨g, 1, none⟩ (.int .i64 (ep + 1))).heap[g]? = some (.cells #[c0, .int .i64 (ep + 1)] 131 (0, 0)) := hp_set hg 1 _
  have c0' := cell_of hgb 1
  clear hg h1
  go_enter Tryz.func79, Tryz.ntmps79
  go_upto_region 2 with fail
  have hne : g ≠ w.heap.size := by omega
  refine wp_region_noPanic ?_
  refine wp_region_held_drew (S := (fun w' => w'.cell? ⟨g, 1, none⟩ = some (.int .i64 (ep + 1)))) (by kernel_rfl) ?_ (fun hHeld0 => ?_)
  · (try dsimp only)
    exact cell_new (cell_new c0' _) _
  refine wpAnyH_take (i := 0) (v := ?_) rfl (by kernel_rfl) (by kernel_rfl) (by kernel_rfl) (fun _ _ _ h => h) (Or.inl ⟨by rfl, ?_⟩) (by assumption) ?_
  rotate_left
  · intro w hSw
    (try dsimp only at hSw)
    go_simp
    try with_reducible rfl
  try simp only [List.getElem_toArray, List.getElem_cons_succ, List.getElem_cons_zero, Act.put, List.setIfInBounds_toArray, List.set_cons_zero, List.set_cons_succ]
  refine wpAnyH_take (i := 1) (v := ?_) rfl (by kernel_rfl) (by kernel_rfl) (by kernel_rfl) (fun _ _ _ h => h) (Or.inl ⟨by rfl, ?_⟩) (by assumption) ?_
  rotate_left
  · intro w hSw
    (try dsimp only at hSw)
    go_simp
    try with_reducible rfl
  try simp only [List.getElem_toArray, List.getElem_cons_succ, List.getElem_cons_zero, Act.put, List.setIfInBounds_toArray, List.set_cons_zero, List.set_cons_succ]
  refine wpAnyH_take (i := 2) (v := ?_) rfl (by kernel_rfl) (by kernel_rfl) (by kernel_rfl) (fun _ _ _ h => h) (Or.inl ⟨by rfl, ?_⟩) (by assumption) ?_
  rotate_left
  · intro w hSw
    (try dsimp only at hSw)
    go_simp
    try with_reducible rfl
  try simp only [List.getElem_toArray, List.getElem_cons_succ, List.getElem_cons_zero, Act.put, List.setIfInBounds_toArray, List.set_cons_zero, List.set_cons_succ]
  refine wpAnyH_take (i := 3) (v := ?_) rfl (by kernel_rfl) (by kernel_rfl) (by kernel_rfl) (fun _ _ _ h => h) (Or.inl ⟨by rfl, ?_⟩) (by assumption) ?_
  rotate_left
  · intro w hSw
    (try dsimp only at hSw)
    go_simp
    try with_reducible rfl
  try simp only [List.getElem_toArray, List.getElem_cons_succ, List.getElem_cons_zero, Act.put, List.setIfInBounds_toArray, List.set_cons_zero, List.set_cons_succ]
  refine wpAnyH_take (i := 4) (v := ?_) rfl (by kernel_rfl) (by kernel_rfl) (by kernel_rfl) (fun _ _ _ h => h) (Or.inl ⟨by rfl, ?_⟩) (by assumption) ?_
  rotate_left
  · intro w hSw
    (try dsimp only at hSw)
    go_simp
    try with_reducible rfl
  try simp only [List.getElem_toArray, List.getElem_cons_succ, List.getElem_cons_zero, Act.put, List.setIfInBounds_toArray, List.set_cons_zero, List.set_cons_succ]
  refine wpAnyH_take (i := 5) (v := ?_) rfl (by kernel_rfl) (by kernel_rfl) (by kernel_rfl) (fun _ _ _ h => h) (Or.inl ⟨by rfl, ?_⟩) (by assumption) ?_
  rotate_left
  · intro w hSw
    (try dsimp only at hSw)
    go_simp
    try with_reducible rfl
  try simp only [List.getElem_toArray, List.getElem_cons_succ, List.getElem_cons_zero, Act.put, List.setIfInBounds_toArray, List.set_cons_zero, List.set_cons_succ]
  refine wpAnyH_ready (rs := [6]) (by kernel_rfl) (by simp) ?_
  refine AllReadyH.cons (i := 6) rfl (fun K hK => ?_) AllReadyH.nil
  go_simp
  refine hK.out _ _ ?_ (fun hHeld1 => ?_)
  · (try dsimp only)
    exact cell_new (cell_new c0' _) _
  clear hK K
  try simp only [List.getElem_toArray, List.getElem_cons_succ, List.getElem_cons_zero, Act.put, List.setIfInBounds_toArray, List.set_cons_zero, List.set_cons_succ]
  refine wpAnyH_take (i := 7) (v := ?_) rfl (by kernel_rfl) (by kernel_rfl) (by kernel_rfl) (fun _ _ _ h => h) (Or.inl ⟨by rfl, ?_⟩) (by assumption) ?_
  rotate_left
  · intro w hSw
    (try dsimp only at hSw)
    go_simp
    try with_reducible rfl
  try simp only [List.getElem_toArray, List.getElem_cons_succ, List.getElem_cons_zero, Act.put, List.setIfInBounds_toArray, List.set_cons_zero, List.set_cons_succ]
  refine wpAnyH_take (i := 8) (v := ?_) rfl (by kernel_rfl) (by kernel_rfl) (by kernel_rfl) (fun _ _ _ h => h) (Or.inl ⟨by rfl, ?_⟩) (by assumption) ?_
  rotate_left
  · intro w hSw
    (try dsimp only at hSw)
    go_simp
    try with_reducible rfl
  try simp only [List.getElem_toArray, List.getElem_cons_succ, List.getElem_cons_zero, Act.put, List.setIfInBounds_toArray, List.set_cons_zero, List.set_cons_succ]
  refine wpAnyH_ready (rs := [9]) (by kernel_rfl) (by simp) ?_
  refine AllReadyH.cons (i := 9) rfl (fun K hK => ?_) AllReadyH.nil
  go_simp
  refine hK.out _ _ ?_ (fun hHeld2 => ?_)
  · (try dsimp only)
    exact cell_new (cell_new c0' _) _
  clear hK K
  try simp only [List.getElem_toArray, List.getElem_cons_succ, List.getElem_cons_zero, Act.put, List.setIfInBounds_toArray, List.set_cons_zero, List.set_cons_succ]
  refine wpAnyH_done (by kernel_rfl) ?_ _
  refine NoPanic.normal ?_
  have hfr1 : Fr w.heap.size (· = g) w ((((w.setCell ⟨g, 1, none⟩ (.int .i64 (ep + 1))).alloc (.cells ((cs.set 0 (.int .i64 2)).set 2 (.int .i64 (ep + 1))).toArray 100)).alloc (.cells #[.int .i64 0, .int .i64 0, .int .i64 0, .int .i64 0, .bool false, .int .i64 0, .int .u16 0, .int .u32 0, .int .u32 0, .slice none 0 0, .bool false, .int .u16 0, .slice none 0 0, .slice none 0 0, .int .i64 0, .int .i64 0, .bool false, .bool false, .int .u16 0, .slice none 0 0, .slice none 0 0, .int .i64 0] 100)).drew) := (((Fr.refl w.heap.size (· = g) w).setAt 1 (.int .i64 (ep + 1))).alloc (by show w.heap.size ≤ (w.heap.modify _ _).size; rw [Array.size_modify]; exact Nat.le_refl _) _ |>.alloc (by show w.heap.size ≤ ((w.heap.modify _ _).push _).size; rw [Array.size_push, Array.size_modify]; exact Nat.le_succ _) _).drew
  have hs0 : (w.setCell ⟨g, 1, none⟩ (.int .i64 (ep + 1))).heap.size = w.heap.size := by show (w.heap.modify _ _).size = _; rw [Array.size_modify]
  have y2 : ((((w.setCell ⟨g, 1, none⟩ (.int .i64 (ep + 1))).alloc (.cells ((cs.set 0 (.int .i64 2)).set 2 (.int .i64 (ep + 1))).toArray 100)).alloc (.cells #[.int .i64 0, .int .i64 0, .int .i64 0, .int .i64 0, .bool false, .int .i64 0, .int .u16 0, .int .u32 0, .int .u32 0, .slice none 0 0, .bool false, .int .u16 0, .slice none 0 0, .slice none 0 0, .int .i64 0, .int .i64 0, .bool false, .bool false, .int .u16 0, .slice none 0 0, .slice none 0 0, .int .i64 0] 100)).drew).heap[w.heap.size]? = some (.cells ((cs.set 0 (.int .i64 2)).set 2 (.int .i64 (ep + 1))).toArray 100 (0, 0)) := by
    show (((w.setCell ⟨g, 1, none⟩ (.int .i64 (ep + 1))).alloc (.cells ((cs.set 0 (.int .i64 2)).set 2 (.int .i64 (ep + 1))).toArray 100)).alloc _).heap[w.heap.size]? = _
    rw [(below_alloc _ _).block _ (by show _ < ((w.setCell _ _).heap.push _).size; rw [Array.size_push, hs0]; exact Nat.lt_succ_self _), ← hs0]
    exact heap_new _ _
  have hz1 : ((((w.setCell ⟨g, 1, none⟩ (.int .i64 (ep + 1))).alloc (.cells ((cs.set 0 (.int .i64 2)).set 2 (.int .i64 (ep + 1))).toArray 100)).alloc (.cells #[.int .i64 0, .int .i64 0, .int .i64 0, .int .i64 0, .bool false, .int .i64 0, .int .u16 0, .int .u32 0, .int .u32 0, .slice none 0 0, .bool false, .int .u16 0, .slice none 0 0, .slice none 0 0, .int .i64 0, .int .i64 0, .bool false, .bool false, .int .u16 0, .slice none 0 0, .slice none 0 0, .int .i64 0] 100)).drew).heap[w.heap.size + 1]? = some (.cells #[.int .i64 0, .int .i64 0, .int .i64 0, .int .i64 0, .bool false, .int .i64 0, .int .u16 0, .int .u32 0, .int .u32 0, .slice none 0 0, .bool false, .int .u16 0, .slice none 0 0, .slice none 0 0, .int .i64 0, .int .i64 0, .bool false, .bool false, .int .u16 0, .slice none 0 0, .slice none 0 0, .int .i64 0] 100 (0, 0)) := by
    have h := heap_new ((w.setCell ⟨g, 1, none⟩ (.int .i64 (ep + 1))).alloc (.cells ((cs.set 0 (.int .i64 2)).set 2 (.int .i64 (ep + 1))).toArray 100)) (.cells #[.int .i64 0, .int .i64 0, .int .i64 0, .int .i64 0, .bool false, .int .i64 0, .int .u16 0, .int .u32 0, .int .u32 0, .slice none 0 0, .bool false, .int .u16 0, .slice none 0 0, .slice none 0 0, .int .i64 0, .int .i64 0, .bool false, .bool false, .int .u16 0, .slice none 0 0, .slice none 0 0, .int .i64 0] 100)
    have e : ((w.setCell ⟨g, 1, none⟩ (.int .i64 (ep + 1))).alloc (.cells ((cs.set 0 (.int .i64 2)).set 2 (.int .i64 (ep + 1))).toArray 100)).heap.size = w.heap.size + 1 := by show ((w.setCell _ _).heap.push _).size = _; rw [Array.size_push, hs0]
    rw [e] at h
    exact h
  have hgb1 : ((((w.setCell ⟨g, 1, none⟩ (.int .i64 (ep + 1))).alloc (.cells ((cs.set 0 (.int .i64 2)).set 2 (.int .i64 (ep + 1))).toArray 100)).alloc (.cells #[.int .i64 0, .int .i64 0, .int .i64 0, .int .i64 0, .bool false, .int .i64 0, .int .u16 0, .int .u32 0, .int .u32 0, .slice none 0 0, .bool false, .int .u16 0, .slice none 0 0, .slice none 0 0, .int .i64 0, .int .i64 0, .bool false, .bool false, .int .u16 0, .slice none 0 0, .slice none 0 0, .int .i64 0] 100)).drew).heap[g]? = some (.cells #[c0, .int .i64 (ep + 1)] 131 (0, 0)) := by
    show (((w.setCell ⟨g, 1, none⟩ (.int .i64 (ep + 1))).alloc (.cells ((cs.set 0 (.int .i64 2)).set 2 (.int .i64 (ep + 1))).toArray 100)).alloc _).heap[g]? = _
    rw [(below_alloc _ _).block _ (by show _ < ((w.setCell _ _).heap.push _).size; rw [Array.size_push, hs0]; omega), (below_alloc _ _).block _ (by rw [hs0]; exact hgl)]
    exact hgb
  clear hHeld0 hHeld1 hHeld2 c0' hgb hs0
  generalize (((w.setCell ⟨g, 1, none⟩ (.int .i64 (ep + 1))).alloc (.cells ((cs.set 0 (.int .i64 2)).set 2 (.int .i64 (ep + 1))).toArray 100)).alloc (.cells #[.int .i64 0, .int .i64 0, .int .i64 0, .int .i64 0, .bool false, .int .i64 0, .int .u16 0, .int .u32 0, .int .u32 0, .slice none 0 0, .bool false, .int .u16 0, .slice none 0 0, .slice none 0 0, .int .i64 0, .int .i64 0, .bool false, .bool false, .int .u16 0, .slice none 0 0, .slice none 0 0, .int .i64 0] 100)).drew = w2 at *
  have HFR := Lib.hid hfr1
  have HGB := Lib.hid hgb1
  clear hfr1 hgb1
  generalize hcs2 : (cs.set 0 (.int .i64 2)).set 2 (.int .i64 (ep + 1)) = cs2 at *
  have HCS2 := Lib.hid hcs2
  clear hcs2
  have hi : (Tryz.prog.info? 100).map (·.size) = some cs2.toArray.size := by rw [List.size_toArray, hsz']; kernel_rfl
  have hold : (#[.int .i64 0, .int .i64 0, .int .i64 0, .int .i64 0, .bool false, .int .i64 0, .int .u16 0, .int .u32 0, .int .u32 0, .slice none 0 0, .bool false, .int .u16 0, .slice none 0 0, .slice none 0 0, .int .i64 0, .int .i64 0, .bool false, .bool false, .int .u16 0, .slice none 0 0, .slice none 0 0, .int .i64 0] : Array Value).size = cs2.toArray.size := by rw [show cs2.toArray.size = 22 by rw [List.size_toArray, hsz']]; rfl
  have hgs : g ≠ w.heap.size + 1 := by omega
  go_wp2_with (first | (with_reducible refine load_at 100 (.tmp 3) rfl ?_; refine load_rowTo2 rfl 100 (.tmp 3) rfl w.heap.size rfl 100 cs2.toArray (0, 0) _ y2 Tryz.underlying100 rfl hi ?_) | (with_reducible refine store_at 100 (.tmp 4) (.tmp 20) rfl ?_; refine store_rowTo2 rfl 100 (.tmp 4) (.tmp 20) rfl rfl (w.heap.size + 1) cs2.toArray rfl rfl 100 #[.int .i64 0, .int .i64 0, .int .i64 0, .int .i64 0, .bool false, .int .i64 0, .int .u16 0, .int .u32 0, .int .u32 0, .slice none 0 0, .bool false, .int .u16 0, .slice none 0 0, .slice none 0 0, .int .i64 0, .int .i64 0, .bool false, .bool false, .int .u16 0, .slice none 0 0, .slice none 0 0, .int .i64 0] hz1 hi hold hone ?_))
  refine bodyPost_ret (v := .agg cs2.toArray) ?_ rfl ?_
  · exact results_cell_row (by rfl) _ _ (w.heap.size + 1) 100 cs2.toArray (0, 0) _ (by rfl) (setRow_heap _ _ _ _ _ _ hz1) Tryz.underlying100 rfl hi
  refine ⟨by rw [HCS2.out], ?_, ?_⟩
  · rw [(fr_setRow w2 (w.heap.size + 1) cs2.toArray).block g (hp_lt HGB.out) hgs]; exact HGB.out
  · exact fr_setRow' HFR.out (Nat.le_succ _) cs2.toArray
end Go.Proofs.By
namespace Go.Proofs.Rm
open Go.RowKit Go.Proofs.Heap Go.Proofs.Mem
theorem ret_str {a b : ByteArray} (h : a = b) : Ending.returned (.string a) = .returned (.string b) := by rw [h]
theorem ret_bool {a b : Bool} (h : a = b) : Ending.returned (.bool a) = .returned (.bool b) := by rw [h]
theorem ret_int {k : IntKind} {a b : Int} (h : a = b) : Ending.returned (.int k a) = .returned (.int k b) := by rw [h]
theorem inn_iff (n k : Int) : inn n k = true ↔ 1 ≤ n ∧ n < k := by unfold inn; simp
theorem in_any (n k : Int) (w : World) : Calls Tryz.prog 111 #[.int .i64 n, .int .i64 k] w fun e w' => e = .returned (.bool (inn n k)) ∧ w = w' := by
  have hi := inn_iff n k
  by_cases h : 1 ≤ n
  · have HF : Hid (inn n k = decide (n < k)) := by show _ = _; unfold inn; simp [h]
    clear hi
    go_enter Tryz.func111, Tryz.ntmps111
    go_wp2
    go_ret
    exact ⟨ret_bool HF.out.symm, rfl⟩
  · have HF : Hid (inn n k = false) := by show _ = _; rw [Bool.eq_false_iff, ne_eq, hi]; omega
    clear hi
    go_enter Tryz.func111, Tryz.ntmps111
    go_wp2
    go_ret
    exact ⟨ret_bool HF.out.symm, rfl⟩
theorem str_ne (l : List UInt8) : (str l).toList = [] ↔ l = [] := by
  rw [toList_nil_iff_emptyBytes]
  constructor
  · intro h
    have := congrArg (fun b : ByteArray => b.data.toList) h
    simpa [str] using this
  · intro h; subst h; rfl
theorem str_emp (l : List UInt8) : (str l).toList.isEmpty = l.isEmpty := by
  rw [Bool.eq_iff_iff, List.isEmpty_iff, List.isEmpty_iff, str_ne]
set_option maxHeartbeats 400000 in
theorem Joined_any (b : Nat) (R : Room) (p : Int) (w : World) (hR : RoomAt w b R) : Calls Tryz.prog 80 #[.pointer (some ⟨b, 0, none⟩), .int .i64 p] w fun e w' => e = .returned (.bool (joined R p)) ∧ w = w' := by
  have C := Lib.hid (fun w => in_any p 9 w)
  by_cases hi : inn p 9 = true
  · rw [hi] at C
    obtain ⟨h1, h2⟩ := (inn_iff p 9).1 hi
    obtain ⟨n, rfl⟩ := Int.eq_ofNat_of_zero_le (show 0 ≤ p by omega)
    have hn : n < 9 := by omega
    have hc := hR.namec hn
    have HF : Hid (joined R n = !(str (R.names n)).toList.isEmpty) := by show _ = _; unfold joined; rw [hi, Int.toNat_natCast, str_emp, Bool.true_and]
    clear hi hR
    go_enter Tryz.func80, Tryz.ntmps80
    go_wp2_with (go_at_call 111; refine (C.out _).mono ?_; rintro e w' ⟨rfl, rfl⟩)
    all_goals go_ret
    all_goals exact ⟨ret_bool (by rw [HF.out]), rfl⟩
  · have hi : inn p 9 = false := by simpa using hi
    have HF : Hid (joined R p = false) := by show _ = _; unfold joined; rw [hi]; rfl
    rw [hi] at C
    clear hi
    go_enter Tryz.func80, Tryz.ntmps80
    go_wp2_with (go_at_call 111; refine (C.out _).mono ?_; rintro e w' ⟨rfl, rfl⟩)
    go_ret
    exact ⟨ret_bool HF.out.symm, rfl⟩
set_option maxHeartbeats 400000 in
theorem end_any (b : Nat) (R : Room) (p n : Nat) (w : World) (hR : RoomAt w b R) (hn : n < 9) (hp : p < 9) :
    Calls Tryz.prog 139 #[.pointer (some ⟨b, 0, none⟩), .int .i64 p, .int .i64 n] w fun e w' => e = .returned (.agg #[.int .i64 2, .int .i64 p, .int .i64 n, .int .i64 0, .int .u32 0]) ∧ RoomAt w' b (R.setSub n p noSub) ∧ Fr w.heap.size (· = b) w w' := by
  obtain ⟨c0, c1, c2⟩ := hR.subc hn hp
  have f0 := hR.unfrozen (54 + n * 27 + p * 3)
  have f1 := hR.unfrozen (54 + n * 27 + p * 3 + 1)
  have f2 := hR.unfrozen (54 + n * 27 + p * 3 + 2)
  have hb := hR.lt
  go_enter Tryz.func139, Tryz.ntmps139
  go_wp2
  refine bodyPost_ret (v := .agg #[.int .i64 2, .int .i64 p, .int .i64 n, .int .i64 0, .int .u32 0]) (by simp [results, Tryz.results139, go_sem]) rfl ⟨rfl, ?_, ?_⟩
  · exact (hR.setSub hn hp noSub).below (below_alloc _ _)
  · exact ((((Fr.refl _ _ _).setAt _ _).setAt _ _).setAt _ _).alloc (by simp only [size_setCell]; exact Nat.le_refl _) _
set_option maxHeartbeats 400000 in
theorem asks_any (b : Nat) (R : Room) (p n : Nat) (w : World) (hR : RoomAt w b R) (hn : n < 9) (hp : p < 9) (hw : 0 ≤ (R.sub n p).want ∧ (R.sub n p).want < (R.src n).ss.length) :
    Calls Tryz.prog 166 #[.pointer (some ⟨b, 0, none⟩), .int .i64 p, .int .i64 n] w fun e w' => e = .returned (turnAgg (asks R p n)) ∧ Below w.heap.size w w' := by
  obtain ⟨c0, c1, c2⟩ := hR.subc hn hp
  obtain ⟨s0, s1, s2, s3, s4⟩ := hR.srcc hn
  obtain ⟨k, hk⟩ := Int.eq_ofNat_of_zero_le hw.1
  rw [hk] at hw c2
  have hkl : k < (R.src n).ss.length := by omega
  obtain ⟨g, off, cap, hsv, hlc, hcm, hg, hcells⟩ := u32_open (hR.rows n hn) (by omega)
  have hx := hcells k hkl
  have HA : Hid (asks R p n = ⟨9, (R.src n).own, n, 0, (R.src n).ss.getD k 0⟩) := by show _ = _; unfold asks; rw [hk]; rfl
  rw [hsv] at s3
  have hb := hR.lt
  have hlen := (hR.rows n hn).len
  clear hk hcells hsv hR
  generalize (R.src n).ss.getD k 0 = X at *
  generalize (R.src n).ss.length = L at *
  generalize (R.src n).own = O at *
  go_enter Tryz.func166, Tryz.ntmps166
  go_wp2
  go_region
  go_wp2
  refine bodyPost_ret (v := turnAgg ⟨9, O, n, 0, X⟩) (by simp [results, Tryz.results166, go_sem, turnAgg]) rfl ⟨by rw [HA.out], ?_⟩
  exact (((Below.refl _ _).alloc (Nat.le_refl _) _).alloc (by simp) _).drew
set_option maxHeartbeats 400000 in
theorem waits_any (b : Nat) (R : Room) (p n : Nat) (w : World) (hR : RoomAt w b R) (hn : n < 9) (hp : p < 9) (hw : 0 ≤ (R.sub n p).want ∧ (R.sub n p).want < (R.src n).ss.length) :
    Calls Tryz.prog 141 #[.pointer (some ⟨b, 0, none⟩), .int .i64 p, .int .i64 n] w fun e w' => (∃ v, e = .returned v ∧ TurnRow w' v (waits R p n)) ∧ Below w.heap.size w w' := by
  obtain ⟨c0, c1, c2⟩ := hR.subc hn hp
  obtain ⟨s0, s1, s2, s3, s4⟩ := hR.srcc hn
  have hb := hR.lt
  have ca := fun w hR => asks_any b R p n w hR hn hp hw
  unfold turnAgg at ca
  have CA := Lib.hid ca
  clear ca
  have HR := Lib.hid hR
  have HW : Hid (waits R p n = if (R.sub n p).paused || (R.src n).muted then [] else [asks R p n]) := rfl
  clear hR hw
  generalize asks R p n = A at *
  obtain ⟨a1, a2, a3, a4, a5⟩ := A
  dsimp only at CA
  cases hpa : (R.sub n p).paused
  · rw [hpa] at c1
    cases hmu : (R.src n).muted
    · rw [hmu] at s4
      have HF : Hid (waits R p n = [⟨a1, a2, a3, a4, a5⟩]) := by show _ = _; rw [HW.out, hpa, hmu]; rfl
      clear hpa hmu HW
      go_enter Tryz.func141, Tryz.ntmps141
      go_wp2_with (go_at_call 166; refine (CA.out _ HR.out).mono ?_; rintro e w1 ⟨rfl, hb1⟩)
      go_ret
      refine ⟨⟨_, rfl, ?_⟩, hb1.alloc (by simp [hb1.size]) _⟩
      rw [HF.out]
      exact row_new w1 _ 1 _ (by decide)
    · rw [hmu] at s4
      have HF : Hid (waits R p n = []) := by show _ = _; rw [HW.out, hpa, hmu]; rfl
      clear hpa hmu HW
      go_enter Tryz.func141, Tryz.ntmps141
      go_wp2
      go_ret
      exact ⟨⟨_, rfl, by rw [HF.out]; exact Row.nil _ _⟩, Below.refl _ _⟩
  · rw [hpa] at c1
    have HF : Hid (waits R p n = []) := by show _ = _; rw [HW.out, hpa]; rfl
    clear hpa HW
    go_enter Tryz.func141, Tryz.ntmps141
    go_wp2
    go_ret
    exact ⟨⟨_, rfl, by rw [HF.out]; exact Row.nil _ _⟩, Below.refl _ _⟩
theorem index_hit {l : List Int} {x : Int} {k : Nat} (hk : k < l.length) (h : l.getD k 0 = x) (hn : ∀ j, j < k → l.getD j 0 ≠ x) : index l x = k := by
  unfold index
  have : l.findIdx? (fun y => y == x) = some k := by
    rw [List.findIdx?_eq_some_iff_getElem]
    refine ⟨hk, ?_, fun j hj => ?_⟩
    · rw [List.getD_eq_getElem?_getD, List.getElem?_eq_getElem hk] at h
      simpa using h
    · have := hn j hj
      rw [List.getD_eq_getElem?_getD, List.getElem?_eq_getElem (by omega)] at this
      simpa using this
  rw [this]
theorem index_miss {l : List Int} {x : Int} (hn : ∀ j, j < l.length → l.getD j 0 ≠ x) : index l x = -1 := by
  unfold index
  have : l.findIdx? (fun y => y == x) = none := by
    rw [List.findIdx?_eq_none_iff]
    intro y hy
    obtain ⟨j, hj, rfl⟩ := List.getElem_of_mem hy
    have := hn j hj
    rw [List.getD_eq_getElem?_getD, List.getElem?_eq_getElem hj] at this
    simpa using this
  rw [this]
set_option maxHeartbeats 400000 in
theorem Index_any (v : Value) (l : List Int) (x : Int) (w : World) (hv : RRow w v l.length (u32s l)) :
    Calls Tryz.prog 156 #[v, .int .u32 x] w fun e w' => e = .returned (.int .i64 (index l x)) ∧ w = w' := by
  have hlen := hv.len
  by_cases h0 : 0 < l.length
  · obtain ⟨g, off, cap, rfl, hlc, hcm, hg, hcells⟩ := u32_openR hv h0
    have HC := Lib.hid hcells
    have HH := Lib.hid (fun k hk h hn => @index_hit l x k hk h hn)
    have HM := Lib.hid (@index_miss l x)
    clear hcells hv
    go_enter Tryz.func156, Tryz.ntmps156
    go_wp2
    go_loop [8] (fun i => ∃ k : Nat, k ≤ l.length ∧ i = .int .i64 k ∧ Hid (∀ j, j < k → l.getD j 0 ≠ x)) (fun i => l.length - (intOf i).toNat)
    case atStart => exact ⟨0, Nat.zero_le _, rfl, fun j hj => by omega⟩
    case round =>
      obtain ⟨k, hk, rfl, hno⟩ := hrel
      by_cases hkl : k < l.length
      · have hc := HC.out k hkl
        by_cases hx : l.getD k 0 = x
        · have HF := Lib.hid (HH.out k hkl hx hno.out)
          rw [hx] at hc
          clear hx
          go_wp2
          go_ret
          exact ⟨ret_int HF.out.symm, rfl⟩
        · have hbeq : (x == l.getD k 0) = false := by rw [beq_eq_false_iff_ne]; exact fun e => hx e.symm
          have HX := Lib.hid hx
          clear hx
          generalize hy : l.getD k 0 = y at *
          have HY := Lib.hid hy
          clear hy
          go_wp2
          go_round
          case rel => exact ⟨k + 1, by omega, by go_num, fun j hj => by by_cases hjk : j < k; exact hno.out j hjk; rw [show j = k by omega, HY.out]; exact HX.out⟩
          case measure => simp [intOf]; omega
      · have HF := Lib.hid (HM.out (fun j hj => hno.out j (by omega)))
        go_wp2
        go_ret
        exact ⟨ret_int HF.out.symm, rfl⟩
  · have : l = [] := List.eq_nil_of_length_eq_zero (by omega)
    subst this
    obtain ⟨a, cap, rfl, _⟩ := hv
    go_enter Tryz.func156, Tryz.ntmps156
    go_wp2
    go_loop [8] (fun i => i = .int .i64 0) (fun _ => 0)
    case atStart => rfl
    case round =>
      subst hrel
      go_wp2
      go_ret
      exact ⟨rfl, rfl⟩
end Go.Proofs.Rm
namespace Go.Proofs.Rm
open Go.RowKit Go.Proofs.Heap Go.Proofs.Mem
/-- The nine sources as one value. -/
def srcsArr (R : Room) : Array Value := ((List.range 45).map fun j => roomCell R (9 + j)).toArray
theorem srcsArr_size (R : Room) : (srcsArr R).size = 45 := by simp [srcsArr]
theorem srcsArr_at (R : Room) (j : Nat) (h : j < 45) : (srcsArr R)[j]? = some (roomCell R (9 + j)) := by simp [srcsArr, h]
theorem srcsArr_part (R : Room) (n : Nat) (h : n < 9) : (srcsArr R).extract (n * 5) (n * 5 + 5) = #[.bool (R.src n).there, .int .i64 (R.src n).num, .int .i64 (R.src n).own, (R.src n).sv, .bool (R.src n).muted] := by
  apply Array.ext'
  rw [Array.toList_extract]
  apply List.ext_getElem?
  intro i
  by_cases hi : i < 5
  · have : ((srcsArr R).toList.extract (n * 5) (n * 5 + 5))[i]? = (srcsArr R)[n * 5 + i]? := by
      rw [List.extract_eq_take_drop, List.getElem?_take_of_lt (by omega), List.getElem?_drop]; simp
    rw [this, srcsArr_at R _ (by omega), show 9 + (n * 5 + i) = 9 + n * 5 + i by omega, rc_src R h hi]
    have : i = 0 ∨ i = 1 ∨ i = 2 ∨ i = 3 ∨ i = 4 := by omega
    rcases this with rfl | rfl | rfl | rfl | rfl <;> rfl
  · rw [List.getElem?_eq_none (by rw [List.extract_eq_take_drop, List.length_take]; omega), List.getElem?_eq_none (by simp; omega)]
set_option maxHeartbeats 1000000 in
theorem Of_any (b : Nat) (R : Room) (x : Int) (w : World) (hR : RoomAt w b R) :
    Calls Tryz.prog 127 #[.pointer (some ⟨b, 0, none⟩), .int .u32 x] w fun e w' => e = .returned (.tuple #[.int .i64 (of R x).1, .int .i64 (of R x).2.1, .bool (of R x).2.2]) ∧ Below w.heap.size w w' := by
  have hcs : ∀ j, j < (srcsArr R).size → w.cell? ⟨b, 9 + j, none⟩ = (srcsArr R)[j]? := by
    intro j hj
    rw [srcsArr_size] at hj
    rw [hR.cell (by omega), srcsArr_at R j hj]
  have hinfo : (Tryz.prog.info? 146).map (·.size) = some (srcsArr R).size := by rw [srcsArr_size]; kernel_rfl
  have HP : Hid (∀ n : Nat, n < 9 → ∀ w, (Instr.index 146 (.agg (srcsArr R)) (.int .i64 (n : Int))).run Tryz.prog w = .ok (.agg #[.bool (R.src n).there, .int .i64 (R.src n).num, .int .i64 (R.src n).own, (R.src n).sv, .bool (R.src n).muted]) w) :=
    fun n hn w => Load.run_index_agg w 146 145 9 (srcsArr R) n 5 _ Tryz.underlying146 hn Tryz.underlying145 rfl (by kernel_rfl) _ (srcsArr_part R n hn)
  have HR := Lib.hid hR
  have hb := hR.lt
  have HO : Hid (of R x = ofGo R x 9 0) := rfl
  have HS : Hid (∀ k n : Nat, ofGo R x (k + 1) n = if (R.src n).there && decide (0 ≤ index (R.src n).ss x) then ((n : Int), index (R.src n).ss x, true) else ofGo R x k (n + 1)) := fun _ _ => rfl
  have HZ : Hid (∀ n : Nat, ofGo R x 0 n = (0, 0, false)) := fun _ => rfl
  clear hR
  generalize srcsArr R = CS at *
  go_enter Tryz.func127, Tryz.ntmps127
  go_wp2_with (refine Load.wpList_load_part rfl 146 (.tmp 14) rfl b 9 rfl CS (.array 9 145) hcs Tryz.underlying146 rfl hinfo ?_)
  clear hcs hinfo
  go_loopw [16] (fun i w' => ∃ k : Nat, k ≤ 9 ∧ i = .int .i64 k ∧ Below w.heap.size w w' ∧ Hid (of R x = ofGo R x (9 - k) k)) (fun i _ => 9 - (intOf i).toNat)
  case atStart => exact ⟨0, by omega, rfl, Below.refl _ _, HO.out⟩
  case round =>
    obtain ⟨k, hk, rfl, hbl, hof⟩ := hrel
    by_cases hk9 : k < 9
    · have hix := HP.out k hk9
      have hRr := HR.out.below hbl
      have CI := Lib.hid (fun (w1 : World) (h : Below wr.heap.size wr w1) => Index_any (R.src k).sv (R.src k).ss x w1 ((hRr.rows k hk9).below h).r)
      have HE := HS.out (8 - k) k
      rw [show 8 - k + 1 = 9 - k by omega] at HE
      have HE2 := Lib.hid HE
      obtain ⟨sa, scap, hsv, hx1⟩ := hRr.rows k hk9
      clear hx1
      rw [hsv] at hix CI
      clear HE hRr hsv
      generalize index (R.src k).ss x = q at *
      generalize (R.src k).ss.length = sl at *
      generalize (R.src k).num = nm at *
      generalize (R.src k).own = ow at *
      generalize (R.src k).muted = mt at *
      by_cases ht : (R.src k).there = true ∧ 0 ≤ q
      · have HF : Hid (of R x = ((k : Int), q, true)) := by
          show _ = _
          rw [hof.out, HE2.out, ht.1]; simp [ht.2]
        obtain ⟨ht1, ht2⟩ := ht
        rw [ht1] at hix
        clear ht1
        go_wp2_with (go_at_call 156; refine (CI.out _ (below_alloc _ _)).mono ?_; rintro e w1 ⟨rfl, rfl⟩)
        go_ret3
        exact ⟨by rw [HF.out]; rfl, hbl.trans ((below_alloc _ _).mono hbl.size)⟩
      · have HF : Hid (of R x = ofGo R x (9 - (k + 1)) (k + 1)) := by
          show _ = _
          rw [hof.out, HE2.out, if_neg (by simpa using ht), show 8 - k = 9 - (k + 1) by omega]
        cases hth : (R.src k).there
        · rw [hth] at hix
          clear ht hth
          go_wp2_with (go_at_call 156; refine (CI.out _ (below_alloc _ _)).mono ?_; rintro e w1 ⟨rfl, rfl⟩)
          go_roundw
          case rel => exact ⟨k + 1, by omega, by go_num, hbl.trans ((below_alloc _ _).mono hbl.size), HF.out⟩
          case measure => simp [intOf]; omega
        · have ht2 : q < 0 := by
            rw [hth] at ht; simp at ht; exact ht
          rw [hth] at hix
          clear ht hth
          go_wp2_with (go_at_call 156; refine (CI.out _ (below_alloc _ _)).mono ?_; rintro e w1 ⟨rfl, rfl⟩)
          go_roundw
          case rel => exact ⟨k + 1, by omega, by go_num, hbl.trans ((below_alloc _ _).mono hbl.size), HF.out⟩
          case measure => simp [intOf]; omega
    · have HF : Hid (of R x = (0, 0, false)) := by
        show _ = _
        rw [hof.out, show 9 - k = 0 by omega, HZ.out]
      go_wp2
      go_ret3
      exact ⟨by rw [HF.out]; rfl, hbl⟩
set_option maxHeartbeats 1000000 in
theorem Clone_any (v : Value) (l : List Int) (w : World) (hv : RRow w v l.length (u32s l)) (hl : l.length ≤ 1000000) :
    Calls Tryz.prog 112 #[v] w fun e w' => (∃ v', e = .returned v' ∧ Row w' 66 v' l.length (u32s l)) ∧ Below w.heap.size w w' := by
  obtain ⟨a, cap, rfl, hx1, hx2, hx3, hx4⟩ := id hv
  have HV := Lib.hid hv
  have HN := Lib.hid hx3
  clear hv hx4 hx1 hx2 hx3
  cases a with
  | none =>
    obtain ⟨h1, h2⟩ := HN.out rfl
    have HL : Hid (l = []) := List.eq_nil_of_length_eq_zero h1
    have he := fun w => Lib.run_eql_slice_nil (P := Tryz.prog) w 29 66 none l.length cap 0 0 Tryz.underlying29
    clear h1 h2
    go_enter Tryz.func112, Tryz.ntmps112
    go_wp2
    go_ret
    exact ⟨⟨_, rfl, by rw [HL.out]; exact Row.nil _ _⟩, Below.refl _ _⟩
  | some a =>
    have he := fun w => Lib.run_eql_slice_nil (P := Tryz.prog) w 29 66 (some a) l.length cap 0 0 Tryz.underlying29
    clear HN
    go_enter Tryz.func112, Tryz.ntmps112
    go_wp2_with (at_builtin; refine wpList_appR rfl (.tmp 5) (.tmp 6) 29 rfl w.heap.size elemU32 _ 0 [] rfl (owns_empty w 66 1) _ l.length (u32s l) rfl (HV.out.below (below_alloc _ _)) (by rw [u32s_length]; omega) (u32s_one l) (by omega) (by omega) (by simp) (fun v' w1 HO HG => ?_))
    go_ret
    have hb := ((Fr.refl w.heap.size NoB w).alloc (Nat.le_refl _) (.cells #[] 66)).grown HG.out (by simp) (by
      intro k hk
      have hk : some w.heap.size = some k := hk
      cases hk
      exact Nat.le_refl _)
    refine ⟨⟨_, rfl, ?_⟩, hb.below⟩
    have := Row.of_owns HO.out
    rwa [Nat.zero_add, List.nil_append] at this
set_option maxHeartbeats 1000000 in
theorem Sub_any (b : Nat) (R : Room) (p n : Int) (w : World) (hR : RoomAt w b R) :
    Calls Tryz.prog 83 #[.pointer (some ⟨b, 0, none⟩), .int .i64 p, .int .i64 n] w fun e w' =>
      e = .returned (.tuple #[.agg (if hears R p n then #[.int .i64 p, .int .i64 n, .int .i64 (R.sub n.toNat p.toNat).want, .bool (R.sub n.toNat p.toNat).paused] else #[.int .i64 0, .int .i64 0, .int .i64 0, .bool false]), .bool (hears R p n)]) ∧ Below w.heap.size w w' := by
  have CP := Lib.hid (fun w => in_any p 9 w)
  have CN := Lib.hid (fun w => in_any n 9 w)
  have hb := hR.lt
  have HH : Hid (hears R p n = (inn p 9 && inn n 9 && (R.sub n.toNat p.toNat).there)) := rfl
  by_cases hp : inn p 9 = true
  · by_cases hn : inn n 9 = true
    · obtain ⟨h1, h2⟩ := (inn_iff p 9).1 hp
      obtain ⟨h3, h4⟩ := (inn_iff n 9).1 hn
      obtain ⟨p, rfl⟩ := Int.eq_ofNat_of_zero_le (show 0 ≤ p by omega)
      obtain ⟨n, rfl⟩ := Int.eq_ofNat_of_zero_le (show 0 ≤ n by omega)
      rw [Int.toNat_natCast, Int.toNat_natCast] at HH ⊢
      rw [hp] at CP HH
      rw [hn] at CN HH
      obtain ⟨c0, c1, c2⟩ := hR.subc (n := n) (p := p) (by omega) (by omega)
      clear hp hn hR
      cases ht : (R.sub n p).there
      · rw [ht] at c0
        have HF : Hid (hears R p n = false) := by show _ = _; rw [HH.out, ht]; rfl
        rw [HF.out]
        clear ht
        go_enter Tryz.func83, Tryz.ntmps83
        go_wp2_with fail
        refine (CP.out _).mono ?_
        rintro e w1 ⟨rfl, rfl⟩
        go_wp2_with fail
        refine (CN.out _).mono ?_
        rintro e w1 ⟨rfl, rfl⟩
        go_wp2_with fail
        refine bodyPost_ret (v := .tuple #[.agg #[.int .i64 0, .int .i64 0, .int .i64 0, .bool false], .bool false]) (by simp [results, Tryz.results83, go_sem]) rfl ⟨rfl, below_alloc _ _⟩
      · rw [ht] at c0
        have HF : Hid (hears R p n = true) := by show _ = _; rw [HH.out, ht]; rfl
        rw [HF.out]
        clear ht
        go_enter Tryz.func83, Tryz.ntmps83
        go_wp2_with fail
        refine (CP.out _).mono ?_
        rintro e w1 ⟨rfl, rfl⟩
        go_wp2_with fail
        refine (CN.out _).mono ?_
        rintro e w1 ⟨rfl, rfl⟩
        go_wp2_with fail
        refine bodyPost_ret (v := .tuple #[.agg #[.int .i64 p, .int .i64 n, .int .i64 (R.sub n p).want, .bool (R.sub n p).paused], .bool true]) (by simp [results, Tryz.results83, go_sem]) rfl ⟨rfl, ?_⟩
        repeat (first | exact Below.refl _ _ | refine Below.drew ?_ | refine Below.alloc ?_ (by simp) _)
    · have hn : inn n 9 = false := by simpa using hn
      have HF : Hid (hears R p n = false) := by show _ = _; rw [HH.out, hp, hn]; rfl
      rw [HF.out]
      rw [hp] at CP
      rw [hn] at CN
      clear hp hn hR
      go_enter Tryz.func83, Tryz.ntmps83
      go_wp2_with fail
      refine (CP.out _).mono ?_
      rintro e w1 ⟨rfl, rfl⟩
      go_wp2_with fail
      refine (CN.out _).mono ?_
      rintro e w1 ⟨rfl, rfl⟩
      go_wp2_with fail
      refine bodyPost_ret (v := .tuple #[.agg #[.int .i64 0, .int .i64 0, .int .i64 0, .bool false], .bool false]) (by simp [results, Tryz.results83, go_sem]) rfl ⟨rfl, below_alloc _ _⟩
  · have hp : inn p 9 = false := by simpa using hp
    have HF : Hid (hears R p n = false) := by show _ = _; rw [HH.out, hp]; rfl
    rw [HF.out]
    rw [hp] at CP
    clear hp hR
    go_enter Tryz.func83, Tryz.ntmps83
    go_wp2_with fail
    refine (CP.out _).mono ?_
    rintro e w1 ⟨rfl, rfl⟩
    go_wp2_with fail
    refine bodyPost_ret (v := .tuple #[.agg #[.int .i64 0, .int .i64 0, .int .i64 0, .bool false], .bool false]) (by simp [results, Tryz.results83, go_sem]) rfl ⟨rfl, below_alloc _ _⟩
set_option maxHeartbeats 1000000 in
theorem Source_no (b : Nat) (R : Room) (n : Int) (w : World) (hR : RoomAt w b R) (h : (inn n 9 && (R.src n.toNat).there) = false) :
    Calls Tryz.prog 81 #[.pointer (some ⟨b, 0, none⟩), .int .i64 n] w fun e w' =>
      e = .returned (.tuple #[.agg #[.int .i64 0, .int .i64 0, .slice none 0 0, .bool false], .bool false]) ∧ Below w.heap.size w w' := by
  have CN := Lib.hid (fun w => in_any n 9 w)
  have hb := hR.lt
  by_cases hn : inn n 9 = true
  · obtain ⟨h3, h4⟩ := (inn_iff n 9).1 hn
    obtain ⟨n, rfl⟩ := Int.eq_ofNat_of_zero_le (show 0 ≤ n by omega)
    rw [hn, Int.toNat_natCast, Bool.true_and] at h
    obtain ⟨s0, s1, s2, s3, s4⟩ := hR.srcc (n := n) (by omega)
    rw [h] at s0
    rw [hn] at CN
    clear hn h hR
    go_enter Tryz.func81, Tryz.ntmps81
    go_wp2_with fail
    refine (CN.out _).mono ?_
    rintro e w1 ⟨rfl, rfl⟩
    go_wp2_with fail
    refine bodyPost_ret (v := .tuple #[.agg #[.int .i64 0, .int .i64 0, .slice none 0 0, .bool false], .bool false]) (by simp [results, Tryz.results81, go_sem]) rfl ⟨rfl, below_alloc _ _⟩
  · have hn : inn n 9 = false := by simpa using hn
    rw [hn] at CN
    clear hn h hR
    go_enter Tryz.func81, Tryz.ntmps81
    go_wp2_with fail
    refine (CN.out _).mono ?_
    rintro e w1 ⟨rfl, rfl⟩
    go_wp2_with fail
    refine bodyPost_ret (v := .tuple #[.agg #[.int .i64 0, .int .i64 0, .slice none 0 0, .bool false], .bool false]) (by simp [results, Tryz.results81, go_sem]) rfl ⟨rfl, below_alloc _ _⟩
set_option maxHeartbeats 1000000 in
theorem Source_yes (b : Nat) (R : Room) (n : Nat) (w : World) (hR : RoomAt w b R) (hn : 1 ≤ n ∧ n < 9) (h : (R.src n).there = true) (hl : (R.src n).ss.length ≤ 1000000) :
    Calls Tryz.prog 81 #[.pointer (some ⟨b, 0, none⟩), .int .i64 n] w fun e w' =>
      (∃ v', e = .returned (.tuple #[.agg #[.int .i64 (R.src n).num, .int .i64 (R.src n).own, v', .bool (R.src n).muted], .bool true]) ∧ Row w' 66 v' (R.src n).ss.length (u32s (R.src n).ss)) ∧ Below w.heap.size w w' := by
  have CN := Lib.hid (fun w => in_any n 9 w)
  have hb := hR.lt
  have hi : inn n 9 = true := (inn_iff _ _).2 (by omega)
  obtain ⟨s0, s1, s2, s3, s4⟩ := hR.srcc hn.2
  rw [h] at s0
  rw [hi] at CN
  have HROW := Lib.hid (hR.rows n hn.2)
  obtain ⟨sa, scap, hsv, hx1⟩ := hR.rows n hn.2
  have CC := Lib.hid (fun w1 (hw : Below w.heap.size w w1) => Clone_any (R.src n).sv (R.src n).ss w1 ((hR.rows n hn.2).below hw).r hl)
  rw [hsv] at s3 CC
  clear hi h hR hx1 hsv
  generalize (R.src n).ss = ss at *
  generalize (R.src n).num = nm at *
  generalize (R.src n).own = ow at *
  generalize (R.src n).muted = mt at *
  go_enter Tryz.func81, Tryz.ntmps81
  go_wp2_with fail
  refine (CN.out _).mono ?_
  rintro e w1 ⟨rfl, rfl⟩
  go_wp2_with fail
  refine (CC.out _ (by repeat (first | exact Below.refl _ _ | refine Below.alloc ?_ (by simp) _))).mono ?_
  rintro e w1 ⟨⟨v', rfl, hrow⟩, hb1⟩
  have HROW2 := Lib.hid hrow
  obtain ⟨a', cap', rfl, hx1⟩ := hrow
  obtain ⟨hcl, hfz⟩ := bcell hb1
  have hz : w.heap.size + 1 < w1.heap.size := by have := hb1.size; simp at this; omega
  have HB := Lib.hid hb1
  have r0 := hcl w.heap.size 0 (by simp; omega)
  have r1 := hcl w.heap.size 1 (by simp; omega)
  have r2 := hcl w.heap.size 2 (by simp; omega)
  have r3 := hcl w.heap.size 3 (by simp; omega)
  simp at r0 r1 r2 r3
  clear hx1 hb1
  go_wp2_with fail
  refine bodyPost_ret (v := .tuple #[.agg #[.int .i64 nm, .int .i64 ow, .slice a' ss.length cap', .bool mt], .bool true]) (by simp [results, Tryz.results81, go_sem, r0, r1, r2, r3]) rfl ⟨⟨_, rfl, ?_⟩, ?_⟩
  · refine HROW2.out.fr (B := w1.heap.size) (S := fun k => w.heap.size ≤ k ∧ k < w.heap.size + 2) ?_ (Nat.le_refl _) ?_
    · repeat (refine Fr.setCell ?_ (Or.inr (by simp)) _)
      exact Fr.refl _ _ _
    · intro k c fr hk
      rw [HB.out.block k (by simp; omega)]
      obtain ⟨n1, n2⟩ := two_new w (.cells #[.int .i64 0, .int .i64 0, .slice none 0 0, .bool false] 108) (.cells #[.int .i64 nm, .int .i64 ow, .slice sa ss.length scap, .bool mt] 108)
      have : k = w.heap.size ∨ k = w.heap.size + 1 := by omega
      rcases this with rfl | rfl
      · rw [n1]; exact cells_ne (by decide)
      · rw [n2]; exact cells_ne (by decide)
  · repeat (refine Below.setCell ?_ (by simp) _)
    exact ((below_alloc _ _).trans ((below_alloc _ _).mono (by simp))).trans (HB.out.mono (by simp; omega))
end Go.Proofs.Rm
namespace Go.Proofs.Rm
open Go.RowKit Go.Proofs.Heap Go.Proofs.Mem
theorem owns_below {base : Nat} {e : TypeId} {size : Nat} {v : Value} {n : Nat} {xs : List Value} {w w' : World} (h : w.ownsRow base e size v n xs) (hb : Below w.heap.size w w') : w'.ownsRow base e size v n xs := by
  obtain ⟨h1, h2⟩ := h
  refine ⟨h1, ?_⟩
  rcases h2 with h2 | ⟨g, cap, cur, hv, hg, hh, r⟩
  · exact Or.inl h2
  · have hlt : g < w.heap.size := by
      rcases Nat.lt_or_ge g w.heap.size with h | h
      · exact h
      · rw [Array.getElem?_eq_none h] at hh; cases hh
    exact Or.inr ⟨g, cap, cur, hv, hg, by rw [hb.block g hlt]; exact hh, r⟩
def subsTo (R : Room) (n : Int) (k : Nat) : List Nat := (List.range k).filter fun p => hears R p n
theorem subsTo_succ (R : Room) (n : Int) (k : Nat) : subsTo R n (k + 1) = subsTo R n k ++ if hears R k n then [k] else [] := by
  unfold subsTo
  rw [List.range_succ, List.filter_append]
  congr 1
  cases h : hears R k n <;> simp [h]
theorem subsTo_len (R : Room) (n : Int) (k : Nat) : (subsTo R n k).length ≤ k := by
  have := List.length_filter_le (fun p : Nat => hears R p n) (List.range k)
  rw [List.length_range] at this
  exact this
theorem ints_append (a b : List Nat) : ints (a ++ b) = ints a ++ ints b := List.map_append
theorem own_le {base : Nat} {e : TypeId} {size : Nat} {v : Value} {n : Nat} {xs : List Value} {w : World} (h : w.ownsRow base e size v n xs) : ∀ k, v.ownBlock = some k → base ≤ k := by
  intro k hk
  obtain ⟨_, h⟩ := h
  rcases h with ⟨rfl, _⟩ | ⟨g, cap, cur, rfl, hg, _⟩
  · cases hk
  · have hk : some g = some k := hk
    cases hk; exact hg
set_option maxHeartbeats 1000000 in
theorem Subs_any (b : Nat) (R : Room) (n : Int) (w : World) (hR : RoomAt w b R) :
    Calls Tryz.prog 82 #[.pointer (some ⟨b, 0, none⟩), .int .i64 n] w fun e w' => (∃ v, e = .returned v ∧ Row w' 3 v (subs R n).length (ints (subs R n))) ∧ Below w.heap.size w w' := by
  have HR := Lib.hid hR
  have hb := hR.lt
  have HS : Hid (subs R n = subsTo R n 9) := rfl
  clear hR
  go_enter Tryz.func82, Tryz.ntmps82
  go_wp2
  go_loopw [5, 9] (fun v i w' => ∃ k : Nat, k ≤ 9 ∧ i = .int .i64 k ∧ Below w.heap.size w w' ∧ w'.ownsRow w.heap.size 3 1 v (subsTo R n k).length (ints (subsTo R n k))) (fun _ i _ => 9 - (intOf i).toNat)
  case atStart => exact ⟨0, by omega, rfl, Below.refl _ _, World.ownsRow_nil _ _ _ _⟩
  case round =>
    obtain ⟨k, hk, rfl, hbl, hown⟩ := hrel
    have HOWN := Lib.hid hown
    clear hown
    by_cases hk9 : k < 9
    · have cs := Sub_any b R k n wr (HR.out.below hbl)
      have HSS := Lib.hid (subsTo_succ R n k)
      have HSL := subsTo_len R n k
      cases hh : hears R k n
      · rw [hh, if_neg (by decide)] at cs
        have CS := Lib.hid cs
        clear cs
        have HF : Hid (subsTo R n (k + 1) = subsTo R n k) := by show _ = _; rw [HSS.out, hh]; simp
        clear hh
        go_wp2_with (go_at_call 83; refine CS.out.mono ?_; rintro e w1 ⟨rfl, hb1⟩)
        go_roundw
        case rel =>
          refine ⟨k + 1, by omega, by go_num, (hbl.trans (hb1.mono hbl.size)).alloc (Nat.le_trans hbl.size hb1.size) _, ?_⟩
          rw [HF.out]
          exact (owns_below HOWN.out hb1).alloc _
        case measure => simp [intOf]; omega
      · rw [hh, if_pos rfl, Int.toNat_natCast] at cs
        generalize (R.sub n.toNat k).want = wa at cs
        generalize (R.sub n.toNat k).paused = pa at cs
        have CS := Lib.hid cs
        clear cs
        have HF : Hid (subsTo R n (k + 1) = subsTo R n k ++ [k]) := by show _ = _; rw [HSS.out, hh]; simp
        clear hh
        go_wp2_with (first | (go_at_call 83; refine CS.out.mono ?_; rintro e w1 ⟨rfl, hb1⟩) | (at_builtin; refine wpList_app rfl (.tmp 20) (.tmp 22) 72 rfl w.heap.size elemInt _ (subsTo R n k).length (ints (subsTo R n k)) rfl ?a1 _ 1 [.int .i64 k] rfl ?a2 rfl ?a4 ?a5 ?a6 ?a7 (fun v' w2 HO2 HG => ?_)))
        case a1 => exact ((owns_below HOWN.out hb1).alloc _).alloc _
        case a2 => exact row_new' _ _ 1 _ [.int .i64 k] (by decide) (by simp)
        case a4 => intro u hu; simp at hu; subst hu; rfl
        case a5 => omega
        case a6 => omega
        case a7 => have h1 := hbl.size; have h2 := hb1.size; simp; omega
        go_roundw
        case rel =>
          refine ⟨k + 1, by omega, by go_num, ?_, ?_⟩
          · have h1 := hbl.trans (hb1.mono hbl.size)
            have h2 := h1.alloc h1.size (.cells #[.int .i64 k, .int .i64 n, .int .i64 wa, .bool pa] 105)
            have h3 := h2.alloc h2.size (.cells #[.int .i64 k] 3)
            exact h3.grown HG.out h3.size (own_le HOWN.out)
          · rw [HF.out, List.length_append, ints_append]
            exact HO2.out
        case measure => simp [intOf]; omega
    · have hk' : k = 9 := by omega
      subst hk'
      go_wp2
      go_ret
      exact ⟨⟨_, rfl, by rw [HS.out]; exact Row.of_owns HOWN.out⟩, hbl⟩
end Go.Proofs.Rm
