/- Several texts in one: The walks of package door: refused, control. The walks of package room, each function once: what is only asked. -/
import Derived.BigQuiet
import Derived.Deep.QuietTactic
import Derived.Laws.ResultCell
import Derived.Test.YtpdjhlcbcomdkaaGreatDoorF05
import Derived.Test.YtpdjhlcbcomdkaaGreatDoorF06
import Derived.Test.YtpdjhlcbcomdkaaGreatDoorF07
set_option linter.unusedSimpArgs false
namespace Go.Proofs.By
open Go.RowKit Go.Proofs.Heap
open Go.Proofs.Rm (TurnRow Turn Room RoomAt)
theorem cell_other {w : World} {g o X j : Nat} {u v : Value} (h : w.cell? ⟨g, o, none⟩ = some u) (hne : g ≠ X) : (w.setCell ⟨X, j, none⟩ v).cell? ⟨g, o, none⟩ = some u := by
  have := RowKit.Below.heap_setCell w ⟨X, j, none⟩ v g hne
  rw [World.cell?_of_block (w := w) this]; exact h
theorem cell_new {w : World} {g o : Nat} {u : Value} (h : w.cell? ⟨g, o, none⟩ = some u) (x : Obj) : (w.alloc x).cell? ⟨g, o, none⟩ = some u := by
  rw [World.cell?_of_block (w := w) ((below_alloc w x).block g (World.block_lt_of_cell? w ⟨g, o, none⟩ h))]; exact h
set_option maxHeartbeats 1000000 in
theorem refused_any (k x : Int) (w : World) : Calls Tryz.prog 78 #[.int .i64 k, .int .i64 x] w fun e w' => (∃ cs : List Value, e = .returned (.agg cs.toArray) ∧ TakenIn w' cs (refusedT k x)) ∧ Below w.heap.size w w' := by
  have hb : Below w.heap.size w ((w.alloc (.cells #[.int .i64 0, .int .i64 0, .int .i64 0, .int .i64 0, .bool false, .int .i64 0, .int .u16 0, .int .u32 0, .int .u32 0, .slice none 0 0, .bool false, .int .u16 0, .slice none 0 0, .slice none 0 0, .int .i64 0, .int .i64 0, .bool false, .bool false, .int .u16 0, .slice none 0 0, .slice none 0 0, .int .i64 0] 100)).setRow w.heap.size #[.int .i64 k, .int .i64 0, .int .i64 0, .int .i64 x, .bool false, .int .i64 0, .int .u16 0, .int .u32 0, .int .u32 0, .slice none 0 0, .bool false, .int .u16 0, .slice none 0 0, .slice none 0 0, .int .i64 0, .int .i64 0, .bool false, .bool false, .int .u16 0, .slice none 0 0, .slice none 0 0, .int .i64 0]) := below_setRow (below_alloc w _) (Nat.le_refl _) _
  have y0 := setRow_heap (w.alloc (.cells #[.int .i64 0, .int .i64 0, .int .i64 0, .int .i64 0, .bool false, .int .i64 0, .int .u16 0, .int .u32 0, .int .u32 0, .slice none 0 0, .bool false, .int .u16 0, .slice none 0 0, .slice none 0 0, .int .i64 0, .int .i64 0, .bool false, .bool false, .int .u16 0, .slice none 0 0, .slice none 0 0, .int .i64 0] 100)) w.heap.size #[.int .i64 0, .int .i64 0, .int .i64 0, .int .i64 0, .bool false, .int .i64 0, .int .u16 0, .int .u32 0, .int .u32 0, .slice none 0 0, .bool false, .int .u16 0, .slice none 0 0, .slice none 0 0, .int .i64 0, .int .i64 0, .bool false, .bool false, .int .u16 0, .slice none 0 0, .slice none 0 0, .int .i64 0] #[.int .i64 k, .int .i64 0, .int .i64 0, .int .i64 x, .bool false, .int .i64 0, .int .u16 0, .int .u32 0, .int .u32 0, .slice none 0 0, .bool false, .int .u16 0, .slice none 0 0, .slice none 0 0, .int .i64 0, .int .i64 0, .bool false, .bool false, .int .u16 0, .slice none 0 0, .slice none 0 0, .int .i64 0] 100 (0, 0) (heap_new w _)
  have hT : ∃ cs : List Value, Ending.returned (.agg #[.int .i64 k, .int .i64 0, .int .i64 0, .int .i64 x, .bool false, .int .i64 0, .int .u16 0, .int .u32 0, .int .u32 0, .slice none 0 0, .bool false, .int .u16 0, .slice none 0 0, .slice none 0 0, .int .i64 0, .int .i64 0, .bool false, .bool false, .int .u16 0, .slice none 0 0, .slice none 0 0, .int .i64 0]) = .returned (.agg cs.toArray) ∧ TakenIn ((w.alloc (.cells #[.int .i64 0, .int .i64 0, .int .i64 0, .int .i64 0, .bool false, .int .i64 0, .int .u16 0, .int .u32 0, .int .u32 0, .slice none 0 0, .bool false, .int .u16 0, .slice none 0 0, .slice none 0 0, .int .i64 0, .int .i64 0, .bool false, .bool false, .int .u16 0, .slice none 0 0, .slice none 0 0, .int .i64 0] 100)).setRow w.heap.size #[.int .i64 k, .int .i64 0, .int .i64 0, .int .i64 x, .bool false, .int .i64 0, .int .u16 0, .int .u32 0, .int .u32 0, .slice none 0 0, .bool false, .int .u16 0, .slice none 0 0, .slice none 0 0, .int .i64 0, .int .i64 0, .bool false, .bool false, .int .u16 0, .slice none 0 0, .slice none 0 0, .int .i64 0]) cs (refusedT k x) := ⟨[.int .i64 k, .int .i64 0, .int .i64 0, .int .i64 x, .bool false, .int .i64 0, .int .u16 0, .int .u32 0, .int .u32 0, .slice none 0 0, .bool false, .int .u16 0, .slice none 0 0, .slice none 0 0, .int .i64 0, .int .i64 0, .bool false, .bool false, .int .u16 0, .slice none 0 0, .slice none 0 0, .int .i64 0], rfl, TakenIn.refused _ k x⟩
  have HT := Lib.hid hT
  clear hT
  go_enter Tryz.func78, Tryz.ntmps78
  go_wp2_with (with_reducible refine store_at 100 (.tmp 4) (.tmp 8) rfl ?_; refine store_rowTo2 rfl 100 (.tmp 4) (.tmp 8) rfl rfl w.heap.size #[.int .i64 k, .int .i64 0, .int .i64 0, .int .i64 x, .bool false, .int .i64 0, .int .u16 0, .int .u32 0, .int .u32 0, .slice none 0 0, .bool false, .int .u16 0, .slice none 0 0, .slice none 0 0, .int .i64 0, .int .i64 0, .bool false, .bool false, .int .u16 0, .slice none 0 0, .slice none 0 0, .int .i64 0] rfl rfl 100 #[.int .i64 0, .int .i64 0, .int .i64 0, .int .i64 0, .bool false, .int .i64 0, .int .u16 0, .int .u32 0, .int .u32 0, .slice none 0 0, .bool false, .int .u16 0, .slice none 0 0, .slice none 0 0, .int .i64 0, .int .i64 0, .bool false, .bool false, .int .u16 0, .slice none 0 0, .slice none 0 0, .int .i64 0] (heap_new w _) (by kernel_rfl) (by kernel_rfl) (by kernel_rfl) ?_)
  exact bodyPost_ret (results_cell_row (by rfl) _ _ w.heap.size 100 #[.int .i64 k, .int .i64 0, .int .i64 0, .int .i64 x, .bool false, .int .i64 0, .int .u16 0, .int .u32 0, .int .u32 0, .slice none 0 0, .bool false, .int .u16 0, .slice none 0 0, .slice none 0 0, .int .i64 0, .int .i64 0, .bool false, .bool false, .int .u16 0, .slice none 0 0, .slice none 0 0, .int .i64 0] (0, 0) _ (by rfl) y0 Tryz.underlying100 rfl (by kernel_rfl)) rfl ⟨HT.out, hb⟩
theorem fr_setRow' {B : Nat} {S : Nat → Prop} {a w : World} (h : Fr B S a w) {g : Nat} (hg : B ≤ g) (c : Array Value) : Fr B S a (w.setRow g c) :=
  ⟨h.os, h.tape, h.output, by simpa [World.setRow] using h.size, fun k hk hs => by rw [setRow_other w g k _ (by omega)]; exact h.block k hk hs⟩
theorem set_one {cs : Array Value} (h : cs.all (·.oneCell') = true) (i : Nat) {v : Value} (hv : v.oneCell' = true) : (cs.setIfInBounds i v).all (·.oneCell') = true := by
  rw [Array.all_eq_true] at h ⊢
  intro j hj
  rw [Array.getElem_setIfInBounds]
  split
  · exact hv
  · exact h j (by simpa using hj)
set_option maxRecDepth 100000 in
set_option maxHeartbeats 1000000 in
theorem control_any (g : Nat) (c0 : Value) (ep : Int) (cs : List Value) (w : World) (hg : w.heap[g]? = some (.cells #[c0, .int .i64 ep] 131 (0, 0))) (h0 : 0 ≤ ep) (h9 : ep < 1000000000) (hcs : cs.length = 22) (h1 : cs.toArray.all (·.oneCell') = true) :
    Calls Tryz.prog 79 #[.pointer (some ⟨g, 0, none⟩), .agg cs.toArray] w fun e w' => e = .returned (.agg ((cs.set 0 (.int .i64 2)).set 2 (.int .i64 (ep + 1))).toArray) ∧ w'.heap[g]? = some (.cells #[c0, .int .i64 (ep + 1)] 131 (0, 0)) ∧ Fr w.heap.size (· = g) w w' := by
  have hcell : w.cell? ⟨g, 1, none⟩ = some (.int .i64 ep) := cell_of hg 1
  have hfz := frozen_of hg 1
  have hgl := hp_lt hg
  have hw : IntKind.i64.wrap (ep + 1) = ep + 1 := IntWalk.i64_in _ (by omega)
  have hsz' : ((cs.set 0 (.int .i64 2)).set 2 (.int .i64 (ep + 1))).length = 22 := by rw [List.length_set, List.length_set, hcs]
  have hone : ((cs.set 0 (.int .i64 2)).set 2 (.int .i64 (ep + 1))).toArray.all (·.oneCell') = true := by
    have h := set_one (set_one h1 0 (v := .int .i64 2) rfl) 2 (v := .int .i64 (ep + 1)) rfl
    rw [List.setIfInBounds_toArray, List.setIfInBounds_toArray] at h
    exact h
  have hgb : (w.setCell ⟨g, 1, none⟩ (.int .i64 (ep + 1))).heap[g]? = some (.cells #[c0, .int .i64 (ep + 1)] 131 (0, 0)) := hp_set hg 1 _
  have c0' := cell_of hgb 1
  clear hg h1
  go_enter Tryz.func79, Tryz.ntmps79
  go_upto_region 2 with fail
  have hne : g ≠ w.heap.size := by omega
  refine wp_region_noPanic ?_
  refine wp_region_held_drew (S := (fun w' => w'.cell? ⟨g, 1, none⟩ = some (.int .i64 (ep + 1)))) (by kernel_rfl) ?_ (fun hHeld0 => ?_)
  · (try dsimp only)
    exact cell_new (cell_new c0' _) _
  refine wpAnyH_take (i := 0) (v := ?_) rfl (by kernel_rfl) (by kernel_rfl) (by kernel_rfl) (fun _ _ _ h => h) (Or.inl ⟨by rfl, ?_⟩) (by assumption) ?_
  rotate_left
  · intro w hSw
    (try dsimp only at hSw)
    go_simp
    try with_reducible rfl
  try simp only [List.getElem_toArray, List.getElem_cons_succ, List.getElem_cons_zero, Act.put, List.setIfInBounds_toArray, List.set_cons_zero, List.set_cons_succ]
  refine wpAnyH_take (i := 1) (v := ?_) rfl (by kernel_rfl) (by kernel_rfl) (by kernel_rfl) (fun _ _ _ h => h) (Or.inl ⟨by rfl, ?_⟩) (by assumption) ?_
  rotate_left
  · intro w hSw
    (try dsimp only at hSw)
    go_simp
    try with_reducible rfl
  try simp only [List.getElem_toArray, List.getElem_cons_succ, List.getElem_cons_zero, Act.put, List.setIfInBounds_toArray, List.set_cons_zero, List.set_cons_succ]
  refine wpAnyH_take (i := 2) (v := ?_) rfl (by kernel_rfl) (by kernel_rfl) (by kernel_rfl) (fun _ _ _ h => h) (Or.inl ⟨by rfl, ?_⟩) (by assumption) ?_
  rotate_left
  · intro w hSw
    (try dsimp only at hSw)
    go_simp
    try with_reducible rfl
  try simp only [List.getElem_toArray, List.getElem_cons_succ, List.getElem_cons_zero, Act.put, List.setIfInBounds_toArray, List.set_cons_zero, List.set_cons_succ]
  refine wpAnyH_take (i := 3) (v := ?_) rfl (by kernel_rfl) (by kernel_rfl) (by kernel_rfl) (fun _ _ _ h => h) (Or.inl ⟨by rfl, ?_⟩) (by assumption) ?_
  rotate_left
  · intro w hSw
    (try dsimp only at hSw)
    go_simp
    try with_reducible rfl
  try simp only [List.getElem_toArray, List.getElem_cons_succ, List.getElem_cons_zero, Act.put, List.setIfInBounds_toArray, List.set_cons_zero, List.set_cons_succ]
  refine wpAnyH_take (i := 4) (v := ?_) rfl (by kernel_rfl) (by kernel_rfl) (by kernel_rfl) (fun _ _ _ h => h) (Or.inl ⟨by rfl, ?_⟩) (by assumption) ?_
  rotate_left
  · intro w hSw
    (try dsimp only at hSw)
    go_simp
    try with_reducible rfl
  try simp only [List.getElem_toArray, List.getElem_cons_succ, List.getElem_cons_zero, Act.put, List.setIfInBounds_toArray, List.set_cons_zero, List.set_cons_succ]
  refine wpAnyH_take (i := 5) (v := ?_) rfl (by kernel_rfl) (by kernel_rfl) (by kernel_rfl) (fun _ _ _ h => h) (Or.inl ⟨by rfl, ?_⟩) (by assumption) ?_
  rotate_left
  · intro w hSw
    (try dsimp only at hSw)
    go_simp
    try with_reducible rfl
  try simp only [List.getElem_toArray, List.getElem_cons_succ, List.getElem_cons_zero, Act.put, List.setIfInBounds_toArray, List.set_cons_zero, List.set_cons_succ]
  refine wpAnyH_ready (rs := [6]) (by kernel_rfl) (by simp) ?_
  refine AllReadyH.cons (i := 6) rfl (fun K hK => ?_) AllReadyH.nil
  go_simp
  refine hK.out _ _ ?_ (fun hHeld1 => ?_)
  · (try dsimp only)
    exact cell_new (cell_new c0' _) _
  clear hK K
  try simp only [List.getElem_toArray, List.getElem_cons_succ, List.getElem_cons_zero, Act.put, List.setIfInBounds_toArray, List.set_cons_zero, List.set_cons_succ]
  refine wpAnyH_take (i := 7) (v := ?_) rfl (by kernel_rfl) (by kernel_rfl) (by kernel_rfl) (fun _ _ _ h => h) (Or.inl ⟨by rfl, ?_⟩) (by assumption) ?_
  rotate_left
  · intro w hSw
    (try dsimp only at hSw)
    go_simp
    try with_reducible rfl
  try simp only [List.getElem_toArray, List.getElem_cons_succ, List.getElem_cons_zero, Act.put, List.setIfInBounds_toArray, List.set_cons_zero, List.set_cons_succ]
  refine wpAnyH_take (i := 8) (v := ?_) rfl (by kernel_rfl) (by kernel_rfl) (by kernel_rfl) (fun _ _ _ h => h) (Or.inl ⟨by rfl, ?_⟩) (by assumption) ?_
  rotate_left
  · intro w hSw
    (try dsimp only at hSw)
    go_simp
    try with_reducible rfl
  try simp only [List.getElem_toArray, List.getElem_cons_succ, List.getElem_cons_zero, Act.put, List.setIfInBounds_toArray, List.set_cons_zero, List.set_cons_succ]
  refine wpAnyH_ready (rs := [9]) (by kernel_rfl) (by simp) ?_
  refine AllReadyH.cons (i := 9) rfl (fun K hK => ?_) AllReadyH.nil
  go_simp
  refine hK.out _ _ ?_ (fun hHeld2 => ?_)
  · (try dsimp only)
    exact cell_new (cell_new c0' _) _
  clear hK K
  try simp only [List.getElem_toArray, List.getElem_cons_succ, List.getElem_cons_zero, Act.put, List.setIfInBounds_toArray, List.set_cons_zero, List.set_cons_succ]
  refine wpAnyH_done (by kernel_rfl) ?_ _
  refine NoPanic.normal ?_
  have hfr1 : Fr w.heap.size (· = g) w ((((w.setCell ⟨g, 1, none⟩ (.int .i64 (ep + 1))).alloc (.cells ((cs.set 0 (.int .i64 2)).set 2 (.int .i64 (ep + 1))).toArray 100)).alloc (.cells #[.int .i64 0, .int .i64 0, .int .i64 0, .int .i64 0, .bool false, .int .i64 0, .int .u16 0, .int .u32 0, .int .u32 0, .slice none 0 0, .bool false, .int .u16 0, .slice none 0 0, .slice none 0 0, .int .i64 0, .int .i64 0, .bool false, .bool false, .int .u16 0, .slice none 0 0, .slice none 0 0, .int .i64 0] 100)).drew) := (((Fr.refl w.heap.size (· = g) w).setAt 1 (.int .i64 (ep + 1))).alloc (by show w.heap.size ≤ (w.heap.modify _ _).size; rw [Array.size_modify]; exact Nat.le_refl _) _ |>.alloc (by show w.heap.size ≤ ((w.heap.modify _ _).push _).size; rw [Array.size_push, Array.size_modify]; exact Nat.le_succ _) _).drew
  have hs0 : (w.setCell ⟨g, 1, none⟩ (.int .i64 (ep + 1))).heap.size = w.heap.size := by show (w.heap.modify _ _).size = _; rw [Array.size_modify]
  have y2 : ((((w.setCell ⟨g, 1, none⟩ (.int .i64 (ep + 1))).alloc (.cells ((cs.set 0 (.int .i64 2)).set 2 (.int .i64 (ep + 1))).toArray 100)).alloc (.cells #[.int .i64 0, .int .i64 0, .int .i64 0, .int .i64 0, .bool false, .int .i64 0, .int .u16 0, .int .u32 0, .int .u32 0, .slice none 0 0, .bool false, .int .u16 0, .slice none 0 0, .slice none 0 0, .int .i64 0, .int .i64 0, .bool false, .bool false, .int .u16 0, .slice none 0 0, .slice none 0 0, .int .i64 0] 100)).drew).heap[w.heap.size]? = some (.cells ((cs.set 0 (.int .i64 2)).set 2 (.int .i64 (ep + 1))).toArray 100 (0, 0)) := by
    show (((w.setCell ⟨g, 1, none⟩ (.int .i64 (ep + 1))).alloc (.cells ((cs.set 0 (.int .i64 2)).set 2 (.int .i64 (ep + 1))).toArray 100)).alloc _).heap[w.heap.size]? = _
    rw [(below_alloc _ _).block _ (by show _ < ((w.setCell _ _).heap.push _).size; rw [Array.size_push, hs0]; exact Nat.lt_succ_self _), ← hs0]
    exact heap_new _ _
  have hz1 : ((((w.setCell ⟨g, 1, none⟩ (.int .i64 (ep + 1))).alloc (.cells ((cs.set 0 (.int .i64 2)).set 2 (.int .i64 (ep + 1))).toArray 100)).alloc (.cells #[.int .i64 0, .int .i64 0, .int .i64 0, .int .i64 0, .bool false, .int .i64 0, .int .u16 0, .int .u32 0, .int .u32 0, .slice none 0 0, .bool false, .int .u16 0, .slice none 0 0, .slice none 0 0, .int .i64 0, .int .i64 0, .bool false, .bool false, .int .u16 0, .slice none 0 0, .slice none 0 0, .int .i64 0] 100)).drew).heap[w.heap.size + 1]? = some (.cells #[.int .i64 0, .int .i64 0, .int .i64 0, .int .i64 0, .bool false, .int .i64 0, .int .u16 0, .int .u32 0, .int .u32 0, .slice none 0 0, .bool false, .int .u16 0, .slice none 0 0, .slice none 0 0, .int .i64 0, .int .i64 0, .bool false, .bool false, .int .u16 0, .slice none 0 0, .slice none 0 0, .int .i64 0] 100 (0, 0)) := by
    have h := heap_new ((w.setCell ⟨g, 1, none⟩ (.int .i64 (ep + 1))).alloc (.cells ((cs.set 0 (.int .i64 2)).set 2 (.int .i64 (ep + 1))).toArray 100)) (.cells #[.int .i64 0, .int .i64 0, .int .i64 0, .int .i64 0, .bool false, .int .i64 0, .int .u16 0, .int .u32 0, .int .u32 0, .slice none 0 0, .bool false, .int .u16 0, .slice none 0 0, .slice none 0 0, .int .i64 0, .int .i64 0, .bool false, .bool false, .int .u16 0, .slice none 0 0, .slice none 0 0, .int .i64 0] 100)
    have e : ((w.setCell ⟨g, 1, none⟩ (.int .i64 (ep + 1))).alloc (.cells ((cs.set 0 (.int .i64 2)).set 2 (.int .i64 (ep + 1))).toArray 100)).heap.size = w.heap.size + 1 := by show ((w.setCell _ _).heap.push _).size = _; rw [Array.size_push, hs0]
    rw [e] at h
    exact h
  have hgb1 : ((((w.setCell ⟨g, 1, none⟩ (.int .i64 (ep + 1))).alloc (.cells ((cs.set 0 (.int .i64 2)).set 2 (.int .i64 (ep + 1))).toArray 100)).alloc (.cells #[.int .i64 0, .int .i64 0, .int .i64 0, .int .i64 0, .bool false, .int .i64 0, .int .u16 0, .int .u32 0, .int .u32 0, .slice none 0 0, .bool false, .int .u16 0, .slice none 0 0, .slice none 0 0, .int .i64 0, .int .i64 0, .bool false, .bool false, .int .u16 0, .slice none 0 0, .slice none 0 0, .int .i64 0] 100)).drew).heap[g]? = some (.cells #[c0, .int .i64 (ep + 1)] 131 (0, 0)) := by
    show (((w.setCell ⟨g, 1, none⟩ (.int .i64 (ep + 1))).alloc (.cells ((cs.set 0 (.int .i64 2)).set 2 (.int .i64 (ep + 1))).toArray 100)).alloc _).heap[g]? = _
    rw [(below_alloc _ _).block _ (by show _ < ((w.setCell _ _).heap.push _).size; rw [Array.size_push, hs0]; omega), (below_alloc _ _).block _ (by rw [hs0]; exact hgl)]
    exact hgb
  clear hHeld0 hHeld1 hHeld2 c0' hgb hs0
  generalize (((w.setCell ⟨g, 1, none⟩ (.int .i64 (ep + 1))).alloc (.cells ((cs.set 0 (.int .i64 2)).set 2 (.int .i64 (ep + 1))).toArray 100)).alloc (.cells #[.int .i64 0, .int .i64 0, .int .i64 0, .int .i64 0, .bool false, .int .i64 0, .int .u16 0, .int .u32 0, .int .u32 0, .slice none 0 0, .bool false, .int .u16 0, .slice none 0 0, .slice none 0 0, .int .i64 0, .int .i64 0, .bool false, .bool false, .int .u16 0, .slice none 0 0, .slice none 0 0, .int .i64 0] 100)).drew = w2 at *
  have HFR := Lib.hid hfr1
  have HGB := Lib.hid hgb1
  clear hfr1 hgb1
  generalize hcs2 : (cs.set 0 (.int .i64 2)).set 2 (.int .i64 (ep + 1)) = cs2 at *
  have HCS2 := Lib.hid hcs2
  clear hcs2
  have hi : (Tryz.prog.info? 100).map (·.size) = some cs2.toArray.size := by rw [List.size_toArray, hsz']; kernel_rfl
  have hold : (#[.int .i64 0, .int .i64 0, .int .i64 0, .int .i64 0, .bool false, .int .i64 0, .int .u16 0, .int .u32 0, .int .u32 0, .slice none 0 0, .bool false, .int .u16 0, .slice none 0 0, .slice none 0 0, .int .i64 0, .int .i64 0, .bool false, .bool false, .int .u16 0, .slice none 0 0, .slice none 0 0, .int .i64 0] : Array Value).size = cs2.toArray.size := by rw [show cs2.toArray.size = 22 by rw [List.size_toArray, hsz']]; rfl
  have hgs : g ≠ w.heap.size + 1 := by omega
  go_wp2_with (first | (with_reducible refine load_at 100 (.tmp 3) rfl ?_; refine load_rowTo2 rfl 100 (.tmp 3) rfl w.heap.size rfl 100 cs2.toArray (0, 0) _ y2 Tryz.underlying100 rfl hi ?_) | (with_reducible refine store_at 100 (.tmp 4) (.tmp 20) rfl ?_; refine store_rowTo2 rfl 100 (.tmp 4) (.tmp 20) rfl rfl (w.heap.size + 1) cs2.toArray rfl rfl 100 #[.int .i64 0, .int .i64 0, .int .i64 0, .int .i64 0, .bool false, .int .i64 0, .int .u16 0, .int .u32 0, .int .u32 0, .slice none 0 0, .bool false, .int .u16 0, .slice none 0 0, .slice none 0 0, .int .i64 0, .int .i64 0, .bool false, .bool false, .int .u16 0, .slice none 0 0, .slice none 0 0, .int .i64 0] hz1 hi hold hone ?_))
  refine bodyPost_ret (v := .agg cs2.toArray) ?_ rfl ?_
  · exact results_cell_row (by rfl) _ _ (w.heap.size + 1) 100 cs2.toArray (0, 0) _ (by rfl) (setRow_heap _ _ _ _ _ _ hz1) Tryz.underlying100 rfl hi
  refine ⟨by rw [HCS2.out], ?_, ?_⟩
  · rw [(fr_setRow w2 (w.heap.size + 1) cs2.toArray).block g (hp_lt HGB.out) hgs]; exact HGB.out
  · exact fr_setRow' HFR.out (Nat.le_succ _) cs2.toArray
end Go.Proofs.By
namespace Go.Proofs.Rm
open Go.RowKit Go.Proofs.Heap Go.Proofs.Mem
theorem ret_str {a b : ByteArray} (h : a = b) : Ending.returned (.string a) = .returned (.string b) := by rw [h]
theorem ret_bool {a b : Bool} (h : a = b) : Ending.returned (.bool a) = .returned (.bool b) := by rw [h]
theorem ret_int {k : IntKind} {a b : Int} (h : a = b) : Ending.returned (.int k a) = .returned (.int k b) := by rw [h]
theorem inn_iff (n k : Int) : inn n k = true ↔ 1 ≤ n ∧ n < k := by unfold inn; simp
theorem in_any (n k : Int) (w : World) : Calls Tryz.prog 111 #[.int .i64 n, .int .i64 k] w fun e w' => e = .returned (.bool (inn n k)) ∧ w = w' := by
  have hi := inn_iff n k
  by_cases h : 1 ≤ n
  · have HF : Hid (inn n k = decide (n < k)) := by show _ = _; unfold inn; simp [h]
    clear hi
    go_enter Tryz.func111, Tryz.ntmps111
    go_wp2
    go_ret
    exact ⟨ret_bool HF.out.symm, rfl⟩
  · have HF : Hid (inn n k = false) := by show _ = _; rw [Bool.eq_false_iff, ne_eq, hi]; omega
    clear hi
    go_enter Tryz.func111, Tryz.ntmps111
    go_wp2
    go_ret
    exact ⟨ret_bool HF.out.symm, rfl⟩
theorem str_ne (l : List UInt8) : (str l).toList = [] ↔ l = [] := by
  rw [toList_nil_iff_emptyBytes]
  constructor
  · intro h
    have := congrArg (fun b : ByteArray => b.data.toList) h
    simpa [str] using this
  · intro h; subst h; rfl
theorem str_emp (l : List UInt8) : (str l).toList.isEmpty = l.isEmpty := by
  rw [Bool.eq_iff_iff, List.isEmpty_iff, List.isEmpty_iff, str_ne]
set_option maxHeartbeats 400000 in
theorem Joined_any (b : Nat) (R : Room) (p : Int) (w : World) (hR : RoomAt w b R) : Calls Tryz.prog 80 #[.pointer (some ⟨b, 0, none⟩), .int .i64 p] w fun e w' => e = .returned (.bool (joined R p)) ∧ w = w' := by
  have C := Lib.hid (fun w => in_any p 9 w)
  by_cases hi : inn p 9 = true
  · rw [hi] at C
    obtain ⟨h1, h2⟩ := (inn_iff p 9).1 hi
    obtain ⟨n, rfl⟩ := Int.eq_ofNat_of_zero_le (show 0 ≤ p by omega)
    have hn : n < 9 := by omega
    have hc := hR.namec hn
    have HF : Hid (joined R n = !(str (R.names n)).toList.isEmpty) := by show _ = _; unfold joined; rw [hi, Int.toNat_natCast, str_emp, Bool.true_and]
    clear hi hR
    go_enter Tryz.func80, Tryz.ntmps80
    go_wp2_with (go_at_call 111; refine (C.out _).mono ?_; rintro e w' ⟨rfl, rfl⟩)
    all_goals go_ret
    all_goals exact ⟨ret_bool (by rw [HF.out]), rfl⟩
  · have hi : inn p 9 = false := by simpa using hi
    have HF : Hid (joined R p = false) := by show _ = _; unfold joined; rw [hi]; rfl
    rw [hi] at C
    clear hi
    go_enter Tryz.func80, Tryz.ntmps80
    go_wp2_with (go_at_call 111; refine (C.out _).mono ?_; rintro e w' ⟨rfl, rfl⟩)
    go_ret
    exact ⟨ret_bool HF.out.symm, rfl⟩
set_option maxHeartbeats 400000 in
theorem end_any (b : Nat) (R : Room) (p n : Nat) (w : World) (hR : RoomAt w b R) (hn : n < 9) (hp : p < 9) :
    Calls Tryz.prog 139 #[.pointer (some ⟨b, 0, none⟩), .int .i64 p, .int .i64 n] w fun e w' => e = .returned (.agg #[.int .i64 2, .int .i64 p, .int .i64 n, .int .i64 0, .int .u32 0]) ∧ RoomAt w' b (R.setSub n p noSub) ∧ Fr w.heap.size (· = b) w w' := by
  obtain ⟨c0, c1, c2⟩ := hR.subc hn hp
  have f0 := hR.unfrozen (54 + n * 27 + p * 3)
  have f1 := hR.unfrozen (54 + n * 27 + p * 3 + 1)
  have f2 := hR.unfrozen (54 + n * 27 + p * 3 + 2)
  have hb := hR.lt
  go_enter Tryz.func139, Tryz.ntmps139
  go_wp2
  refine bodyPost_ret (v := .agg #[.int .i64 2, .int .i64 p, .int .i64 n, .int .i64 0, .int .u32 0]) (by simp [results, Tryz.results139, go_sem]) rfl ⟨rfl, ?_, ?_⟩
  · exact (hR.setSub hn hp noSub).below (below_alloc _ _)
  · exact ((((Fr.refl _ _ _).setAt _ _).setAt _ _).setAt _ _).alloc (by simp only [size_setCell]; exact Nat.le_refl _) _
set_option maxHeartbeats 400000 in
theorem asks_any (b : Nat) (R : Room) (p n : Nat) (w : World) (hR : RoomAt w b R) (hn : n < 9) (hp : p < 9) (hw : 0 ≤ (R.sub n p).want ∧ (R.sub n p).want < (R.src n).ss.length) :
    Calls Tryz.prog 166 #[.pointer (some ⟨b, 0, none⟩), .int .i64 p, .int .i64 n] w fun e w' => e = .returned (turnAgg (asks R p n)) ∧ Below w.heap.size w w' := by
  obtain ⟨c0, c1, c2⟩ := hR.subc hn hp
  obtain ⟨s0, s1, s2, s3, s4⟩ := hR.srcc hn
  obtain ⟨k, hk⟩ := Int.eq_ofNat_of_zero_le hw.1
  rw [hk] at hw c2
  have hkl : k < (R.src n).ss.length := by omega
  obtain ⟨g, off, cap, hsv, hlc, hcm, hg, hcells⟩ := u32_open (hR.rows n hn) (by omega)
  have hx := hcells k hkl
  have HA : Hid (asks R p n = ⟨9, (R.src n).own, n, 0, (R.src n).ss.getD k 0⟩) := by show _ = _; unfold asks; rw [hk]; rfl
  rw [hsv] at s3
  have hb := hR.lt
  have hlen := (hR.rows n hn).len
  clear hk hcells hsv hR
  generalize (R.src n).ss.getD k 0 = X at *
  generalize (R.src n).ss.length = L at *
  generalize (R.src n).own = O at *
  go_enter Tryz.func166, Tryz.ntmps166
  go_wp2
  go_region
  go_wp2
  refine bodyPost_ret (v := turnAgg ⟨9, O, n, 0, X⟩) (by simp [results, Tryz.results166, go_sem, turnAgg]) rfl ⟨by rw [HA.out], ?_⟩
  exact (((Below.refl _ _).alloc (Nat.le_refl _) _).alloc (by simp) _).drew
set_option maxHeartbeats 400000 in
theorem waits_any (b : Nat) (R : Room) (p n : Nat) (w : World) (hR : RoomAt w b R) (hn : n < 9) (hp : p < 9) (hw : 0 ≤ (R.sub n p).want ∧ (R.sub n p).want < (R.src n).ss.length) :
    Calls Tryz.prog 141 #[.pointer (some ⟨b, 0, none⟩), .int .i64 p, .int .i64 n] w fun e w' => (∃ v, e = .returned v ∧ TurnRow w' v (waits R p n)) ∧ Below w.heap.size w w' := by
  obtain ⟨c0, c1, c2⟩ := hR.subc hn hp
  obtain ⟨s0, s1, s2, s3, s4⟩ := hR.srcc hn
  have hb := hR.lt
  have ca := fun w hR => asks_any b R p n w hR hn hp hw
  unfold turnAgg at ca
  have CA := Lib.hid ca
  clear ca
  have HR := Lib.hid hR
  have HW : Hid (waits R p n = if (R.sub n p).paused || (R.src n).muted then [] else [asks R p n]) := rfl
  clear hR hw
  generalize asks R p n = A at *
  obtain ⟨a1, a2, a3, a4, a5⟩ := A
  dsimp only at CA
  cases hpa : (R.sub n p).paused
  · rw [hpa] at c1
    cases hmu : (R.src n).muted
    · rw [hmu] at s4
      have HF : Hid (waits R p n = [⟨a1, a2, a3, a4, a5⟩]) := by show _ = _; rw [HW.out, hpa, hmu]; rfl
      clear hpa hmu HW
      go_enter Tryz.func141, Tryz.ntmps141
      go_wp2_with (go_at_call 166; refine (CA.out _ HR.out).mono ?_; rintro e w1 ⟨rfl, hb1⟩)
      go_ret
      refine ⟨⟨_, rfl, ?_⟩, hb1.alloc (by simp [hb1.size]) _⟩
      rw [HF.out]
      exact row_new w1 _ 1 _ (by decide)
    · rw [hmu] at s4
      have HF : Hid (waits R p n = []) := by show _ = _; rw [HW.out, hpa, hmu]; rfl
      clear hpa hmu HW
      go_enter Tryz.func141, Tryz.ntmps141
      go_wp2
      go_ret
      exact ⟨⟨_, rfl, by rw [HF.out]; exact Row.nil _ _⟩, Below.refl _ _⟩
  · rw [hpa] at c1
    have HF : Hid (waits R p n = []) := by show _ = _; rw [HW.out, hpa]; rfl
    clear hpa HW
    go_enter Tryz.func141, Tryz.ntmps141
    go_wp2
    go_ret
    exact ⟨⟨_, rfl, by rw [HF.out]; exact Row.nil _ _⟩, Below.refl _ _⟩
theorem index_hit {l : List Int} {x : Int} {k : Nat} (hk : k < l.length) (h : l.getD k 0 = x) (hn : ∀ j, j < k → l.getD j 0 ≠ x) : index l x = k := by
  unfold index
  have : l.findIdx? (fun y => y == x) = some k := by
    rw [List.findIdx?_eq_some_iff_getElem]
    refine ⟨hk, ?_, fun j hj => ?_⟩
    · rw [List.getD_eq_getElem?_getD, List.getElem?_eq_getElem hk] at h
      simpa using h
    · have := hn j hj
      rw [List.getD_eq_getElem?_getD, List.getElem?_eq_getElem (by omega)] at this
      simpa using this
  rw [this]
theorem index_miss {l : List Int} {x : Int} (hn : ∀ j, j < l.length → l.getD j 0 ≠ x) : index l x = -1 := by
  unfold index
  have : l.findIdx? (fun y => y == x) = none := by
    rw [List.findIdx?_eq_none_iff]
    intro y hy
    obtain ⟨j, hj, rfl⟩ := List.getElem_of_mem hy
    have := hn j hj
    rw [List.getD_eq_getElem?_getD, List.getElem?_eq_getElem hj] at this
    simpa using this
  rw [this]
set_option maxHeartbeats 400000 in
theorem Index_any (v : Value) (l : List Int) (x : Int) (w : World) (hv : RRow w v l.length (u32s l)) :
    Calls Tryz.prog 156 #[v, .int .u32 x] w fun e w' => e = .returned (.int .i64 (index l x)) ∧ w = w' := by
  have hlen := hv.len
  by_cases h0 : 0 < l.length
  · obtain ⟨g, off, cap, rfl, hlc, hcm, hg, hcells⟩ := u32_openR hv h0
    have HC := Lib.hid hcells
    have HH := Lib.hid (fun k hk h hn => @index_hit l x k hk h hn)
    have HM := Lib.hid (@index_miss l x)
    clear hcells hv
    go_enter Tryz.func156, Tryz.ntmps156
    go_wp2
    go_loop [8] (fun i => ∃ k : Nat, k ≤ l.length ∧ i = .int .i64 k ∧ Hid (∀ j, j < k → l.getD j 0 ≠ x)) (fun i => l.length - (intOf i).toNat)
    case atStart => exact ⟨0, Nat.zero_le _, rfl, fun j hj => by omega⟩
    case round =>
      obtain ⟨k, hk, rfl, hno⟩ := hrel
      by_cases hkl : k < l.length
      · have hc := HC.out k hkl
        by_cases hx : l.getD k 0 = x
        · have HF := Lib.hid (HH.out k hkl hx hno.out)
          rw [hx] at hc
          clear hx
          go_wp2
          go_ret
          exact ⟨ret_int HF.out.symm, rfl⟩
        · have hbeq : (x == l.getD k 0) = false := by rw [beq_eq_false_iff_ne]; exact fun e => hx e.symm
          have HX := Lib.hid hx
          clear hx
          generalize hy : l.getD k 0 = y at *
          have HY := Lib.hid hy
          clear hy
          go_wp2
          go_round
          case rel => exact ⟨k + 1, by omega, by go_num, fun j hj => by by_cases hjk : j < k; exact hno.out j hjk; rw [show j = k by omega, HY.out]; exact HX.out⟩
          case measure => simp [intOf]; omega
      · have HF := Lib.hid (HM.out (fun j hj => hno.out j (by omega)))
        go_wp2
        go_ret
        exact ⟨ret_int HF.out.symm, rfl⟩
  · have : l = [] := List.eq_nil_of_length_eq_zero (by omega)
    subst this
    obtain ⟨a, cap, rfl, _⟩ := hv
    go_enter Tryz.func156, Tryz.ntmps156
    go_wp2
    go_loop [8] (fun i => i = .int .i64 0) (fun _ => 0)
    case atStart => rfl
    case round =>
      subst hrel
      go_wp2
      go_ret
      exact ⟨rfl, rfl⟩
end Go.Proofs.Rm
