/- Several texts in one: The walk of door.Take. What package front computes. Plain. The walks of package front and of door: New, Room, Epoch, Counts, Table; a front that is none. The walk of front.Take. The walks of the law's own functions begin, packet; front.Take of what is no feedback. What feedback holds and what it does, in bounds. Plain. A script, operation by operation: what is taken does not hang on the slice values. Plain. What package book computes while it reads. Plain. How many turns and lives there are. Plain. -/
import Derived.Deep.DeepCutAuto
import Derived.Deep.CutBlock
import Derived.Test.YtpdjhlcbcomdkaaGreatDoorW01
import Derived.Test.YtpdjhlcbcomdkaaGreatDoorW02
import Derived.Test.YtpdjhlcbcomdkaaGreatDoorW04
import Derived.Test.YtpdjhlcbcomdkaaGreatDoorW09
import Derived.Test.YtpdjhlcbcomdkaaGreatDoorW10
import Derived.Test.YtpdjhlcbcomdkaaGreatDoorW11
import Derived.Test.YtpdjhlcbcomdkaaGreatDoorW12
set_option linter.unusedVariables false
set_option linter.unusedSimpArgs false
set_option linter.unusedSimpArgs false
namespace Go.Proofs.By
open Go.RowKit Go.Proofs.Heap
open Go.Proofs.Rm (TurnRow Turn Room RoomAt Inv doo u32s Do_any DoPost)
open Go.Proofs.Lab (Tabs)
open Go.Proofs.Mem
def TakePost (g b : Nat) (R : Room) (ep : Int) (o : Rm.Op) (l : List UInt8) (w : World) (e : Ending) (w' : World) : Prop :=
  ∃ sv, (∃ cs : List Value, e = .returned (.agg cs.toArray) ∧ TakenIn w' cs (take R ep o l sv).1.1) ∧ DoorAt w' g b (take R ep o l sv).1.2 (take R ep o l sv).2 ∧ Fr w.heap.size (fun k => k = b ∨ k = g) w w'
theorem doo_err {R : Room} {o : Rm.Op} {sv : Value} (h : (doo R o sv).2 ≠ 0) : (doo R o sv).1.2 = R := by
  unfold doo at h ⊢
  split
  · rfl
  · rename_i h1; rw [if_neg h1] at h; exact absurd rfl h
theorem DoorAt.ne {w : World} {g b : Nat} {R : Room} {ep : Int} (h : DoorAt w g b R ep) : g ≠ b := by
  intro e
  obtain ⟨c, hc, _⟩ := h.room.cells
  rw [← e, h.blk] at hc
  injection hc with hc
  injection hc with _ hc
  exact absurd hc (by decide)
theorem DoorAt.setRow {w : World} {g b : Nat} {R : Room} {ep : Int} (h : DoorAt w g b R ep) {X : Nat} {c : Array Value} {f : Nat × Nat} (hg : w.heap[X]? = some (.cells c 100 f)) (hXg : g ≠ X) (hXb : b ≠ X) (c' : Array Value) : DoorAt (w.setRow X c') g b R ep :=
  ⟨by rw [setRow_other w X g _ hXg]; exact h.blk, h.room.fr (fr_setRow w X c') (Nat.le_refl _) (fun e => hXb e) (fun k _ _ hk => by have hk : k = X := hk; rw [hk, hg]; intro h; injection h with h; injection h with _ h; exact absurd h (by decide))⟩
set_option maxRecDepth 100000 in
set_option maxHeartbeats 2000000 in
theorem Take_any (g b : Nat) (R : Room) (ep kd p n q : Int) (nm : List UInt8) (ss : List Int) (sa ba : Option Addr) (sc bl bc : Nat) (l : List UInt8) (w : World) (hD : DoorAt w g b R ep) (hI : Inv R) (hT : Tabs w) (h0 : 0 ≤ ep) (h9 : ep < 1000000000)
    (hn : nm.length < 9223372036854775807) (hs : RRow w (.slice sa ss.length sc) ss.length (u32s ss))
    (hdg : kd = 1 → ∀ w1, Below w.heap.size w w1 → Calls Tryz.prog 76 #[.pointer (some ⟨g, 0, none⟩), .agg #[.int .i64 kd, .int .i64 p, .int .i64 n, .int .i64 q, .string (str nm), .slice sa ss.length sc, .slice ba bl bc]] w1 fun e w' => (∃ cs : List Value, e = .returned (.agg cs.toArray) ∧ TakenIn w' cs (datagram R ep p l).1.1) ∧ DoorAt w' g b (datagram R ep p l).1.2 (datagram R ep p l).2 ∧ Fr w1.heap.size (fun k => k = b ∨ k = g) w1 w') :
    Calls Tryz.prog 44 #[.pointer (some ⟨g, 0, none⟩), .agg #[.int .i64 kd, .int .i64 p, .int .i64 n, .int .i64 q, .string (str nm), .slice sa ss.length sc, .slice ba bl bc]] w (TakePost g b R ep ⟨kd, p, n, q, nm, ss⟩ l w) := by
  have HX : Hid (∀ sv, take R ep ⟨kd, p, n, q, nm, ss⟩ l sv = if kd = 1 then datagram R ep p l else if (doo R ⟨kd, p, n, q, nm, ss⟩ sv).2 ≠ 0 then ((refusedT 6 (doo R ⟨kd, p, n, q, nm, ss⟩ sv).2, R), ep) else ((feedT (ep + 1) [] (doo R ⟨kd, p, n, q, nm, ss⟩ sv).1.1 0, (doo R ⟨kd, p, n, q, nm, ss⟩ sv).1.2), ep + 1)) := fun sv => rfl
  have hgl := hD.cells.2.2.2
  have hbl := hD.room.lt
  have hgb := hD.ne
  have hxb : ((w.alloc (.cells #[.int .i64 kd, .int .i64 p, .int .i64 n, .int .i64 q, .string (str nm), .slice sa ss.length sc, .slice ba bl bc] 32)).alloc (.cells #[.int .i64 0, .int .i64 0, .int .i64 0, .int .i64 0, .bool false, .int .i64 0, .int .u16 0, .int .u32 0, .int .u32 0, .slice none 0 0, .bool false, .int .u16 0, .slice none 0 0, .slice none 0 0, .int .i64 0, .int .i64 0, .bool false, .bool false, .int .u16 0, .slice none 0 0, .slice none 0 0, .int .i64 0] 100)).heap[w.heap.size]? = some (.cells #[.int .i64 kd, .int .i64 p, .int .i64 n, .int .i64 q, .string (str nm), .slice sa ss.length sc, .slice ba bl bc] 32 (0, 0)) := by
    rw [(below_alloc _ _).block _ (by show _ < (w.heap.push _).size; rw [Array.size_push]; exact Nat.lt_succ_self _)]
    exact heap_new w _
  have hz : ((w.alloc (.cells #[.int .i64 kd, .int .i64 p, .int .i64 n, .int .i64 q, .string (str nm), .slice sa ss.length sc, .slice ba bl bc] 32)).alloc (.cells #[.int .i64 0, .int .i64 0, .int .i64 0, .int .i64 0, .bool false, .int .i64 0, .int .u16 0, .int .u32 0, .int .u32 0, .slice none 0 0, .bool false, .int .u16 0, .slice none 0 0, .slice none 0 0, .int .i64 0, .int .i64 0, .bool false, .bool false, .int .u16 0, .slice none 0 0, .slice none 0 0, .int .i64 0] 100)).heap[w.heap.size + 1]? = some (.cells #[.int .i64 0, .int .i64 0, .int .i64 0, .int .i64 0, .bool false, .int .i64 0, .int .u16 0, .int .u32 0, .int .u32 0, .slice none 0 0, .bool false, .int .u16 0, .slice none 0 0, .slice none 0 0, .int .i64 0, .int .i64 0, .bool false, .bool false, .int .u16 0, .slice none 0 0, .slice none 0 0, .int .i64 0] 100 (0, 0)) := by
    have h := heap_new (w.alloc (.cells #[.int .i64 kd, .int .i64 p, .int .i64 n, .int .i64 q, .string (str nm), .slice sa ss.length sc, .slice ba bl bc] 32)) (.cells #[.int .i64 0, .int .i64 0, .int .i64 0, .int .i64 0, .bool false, .int .i64 0, .int .u16 0, .int .u32 0, .int .u32 0, .slice none 0 0, .bool false, .int .u16 0, .slice none 0 0, .slice none 0 0, .int .i64 0, .int .i64 0, .bool false, .bool false, .int .u16 0, .slice none 0 0, .slice none 0 0, .int .i64 0] 100)
    have e : (w.alloc (.cells #[.int .i64 kd, .int .i64 p, .int .i64 n, .int .i64 q, .string (str nm), .slice sa ss.length sc, .slice ba bl bc] 32)).heap.size = w.heap.size + 1 := by show (w.heap.push _).size = _; rw [Array.size_push]
    rw [e] at h
    exact h
  have hbw : Below w.heap.size w ((w.alloc (.cells #[.int .i64 kd, .int .i64 p, .int .i64 n, .int .i64 q, .string (str nm), .slice sa ss.length sc, .slice ba bl bc] 32)).alloc (.cells #[.int .i64 0, .int .i64 0, .int .i64 0, .int .i64 0, .bool false, .int .i64 0, .int .u16 0, .int .u32 0, .int .u32 0, .slice none 0 0, .bool false, .int .u16 0, .slice none 0 0, .slice none 0 0, .int .i64 0, .int .i64 0, .bool false, .bool false, .int .u16 0, .slice none 0 0, .slice none 0 0, .int .i64 0] 100)) := bel_alloc (below_alloc w _) (Nat.le_refl _) _
  have HD1 : Hid (DoorAt ((w.alloc (.cells #[.int .i64 kd, .int .i64 p, .int .i64 n, .int .i64 q, .string (str nm), .slice sa ss.length sc, .slice ba bl bc] 32)).alloc (.cells #[.int .i64 0, .int .i64 0, .int .i64 0, .int .i64 0, .bool false, .int .i64 0, .int .u16 0, .int .u32 0, .int .u32 0, .slice none 0 0, .bool false, .int .u16 0, .slice none 0 0, .slice none 0 0, .int .i64 0, .int .i64 0, .bool false, .bool false, .int .u16 0, .slice none 0 0, .slice none 0 0, .int .i64 0] 100)) g b R ep) := hD.below hbw
  have HXB := Lib.hid hxb
  have HZ := Lib.hid hz
  have HBW := Lib.hid hbw
  have HEND : Hid (∀ w2 cs (T : (Taken × Room) × Int) sv, Fr ((w.alloc (.cells #[.int .i64 kd, .int .i64 p, .int .i64 n, .int .i64 q, .string (str nm), .slice sa ss.length sc, .slice ba bl bc] 32)).alloc (.cells #[.int .i64 0, .int .i64 0, .int .i64 0, .int .i64 0, .bool false, .int .i64 0, .int .u16 0, .int .u32 0, .int .u32 0, .slice none 0 0, .bool false, .int .u16 0, .slice none 0 0, .slice none 0 0, .int .i64 0, .int .i64 0, .bool false, .bool false, .int .u16 0, .slice none 0 0, .slice none 0 0, .int .i64 0] 100)).heap.size (fun k => k = b ∨ k = g) ((w.alloc (.cells #[.int .i64 kd, .int .i64 p, .int .i64 n, .int .i64 q, .string (str nm), .slice sa ss.length sc, .slice ba bl bc] 32)).alloc (.cells #[.int .i64 0, .int .i64 0, .int .i64 0, .int .i64 0, .bool false, .int .i64 0, .int .u16 0, .int .u32 0, .int .u32 0, .slice none 0 0, .bool false, .int .u16 0, .slice none 0 0, .slice none 0 0, .int .i64 0, .int .i64 0, .bool false, .bool false, .int .u16 0, .slice none 0 0, .slice none 0 0, .int .i64 0] 100)) w2 → TakenIn w2 cs T.1.1 → DoorAt w2 g b T.1.2 T.2 → take R ep ⟨kd, p, n, q, nm, ss⟩ l sv = T → TakePost g b R ep ⟨kd, p, n, q, nm, ss⟩ l w (.returned (.agg cs.toArray)) (w2.setRow (w.heap.size + 1) cs.toArray)) := fun w2 cs T sv h1 h2 h3 h4 => by
    have hz2 := (h1.block (w.heap.size + 1) (hp_lt hz) (by omega)).trans hz
    refine ⟨sv, ⟨cs, rfl, by rw [h4]; exact h2.setRow hz2 _⟩, by rw [h4]; exact h3.setRow hz2 (by omega) (by omega) _, ?_⟩
    exact fr_setRow' ((Fr.of_below _ hbw).trans (h1.mono hbw.size (fun _ _ h => h))) (Nat.le_succ _) _
  by_cases hk : kd = 1
  · have CD := Lib.hid (hdg hk _ hbw)
    have HXX : Hid (take R ep ⟨kd, p, n, q, nm, ss⟩ l (.slice none 0 0) = datagram R ep p l) := by show _ = _; rw [HX.out, if_pos hk]
    subst hk
    clear HX hdg hD hT hs hxb hz hbw
    generalize datagram R ep p l = X at *
    go_enter Tryz.func44, Tryz.ntmps44
    go_wp2_with (first | (go_at_call 76; refine CD.out.mono ?_; rintro e w2 ⟨⟨cs, rfl, htk⟩, hd2, hf2⟩; have hz5 := (hf2.block (w.heap.size + 1) (hp_lt HZ.out) (by omega)).trans HZ.out; have hi := tk_info htk; have hold := tk_hold htk; have hone := htk.one; have HTK := Lib.hid htk; have HD2 := Lib.hid hd2; have HF2 := Lib.hid hf2; clear htk hd2 hf2) | (with_reducible refine store_at 100 (.tmp 4) (.tmp 12) rfl ?_; refine store_rowTo2 rfl 100 (.tmp 4) (.tmp 12) rfl rfl (w.heap.size + 1) cs.toArray rfl rfl 100 #[.int .i64 0, .int .i64 0, .int .i64 0, .int .i64 0, .bool false, .int .i64 0, .int .u16 0, .int .u32 0, .int .u32 0, .slice none 0 0, .bool false, .int .u16 0, .slice none 0 0, .slice none 0 0, .int .i64 0, .int .i64 0, .bool false, .bool false, .int .u16 0, .slice none 0 0, .slice none 0 0, .int .i64 0] hz5 hi hold hone ?_))
    refine bodyPost_ret (v := .agg cs.toArray) ?_ rfl ?_
    · exact results_cell_row (by rfl) _ _ (w.heap.size + 1) 100 cs.toArray (0, 0) _ (by rfl) (setRow_heap _ _ _ _ _ _ hz5) Tryz.underlying100 rfl hi
    exact HEND.out _ cs _ _ HF2.out HTK.out HD2.out HXX.out
  · have HXX : Hid (∀ sv, take R ep ⟨kd, p, n, q, nm, ss⟩ l sv = if (doo R ⟨kd, p, n, q, nm, ss⟩ sv).2 ≠ 0 then ((refusedT 6 (doo R ⟨kd, p, n, q, nm, ss⟩ sv).2, R), ep) else ((feedT (ep + 1) [] (doo R ⟨kd, p, n, q, nm, ss⟩ sv).1.1 0, (doo R ⟨kd, p, n, q, nm, ss⟩ sv).1.2), ep + 1)) := fun sv => by rw [HX.out, if_neg hk]
    have CD := Lib.hid (Do_any b R ⟨kd, p, n, q, nm, ss⟩ sa ba sc bl bc ((w.alloc (.cells #[.int .i64 kd, .int .i64 p, .int .i64 n, .int .i64 q, .string (str nm), .slice sa ss.length sc, .slice ba bl bc] 32)).alloc (.cells #[.int .i64 0, .int .i64 0, .int .i64 0, .int .i64 0, .bool false, .int .i64 0, .int .u16 0, .int .u32 0, .int .u32 0, .slice none 0 0, .bool false, .int .u16 0, .slice none 0 0, .slice none 0 0, .int .i64 0, .int .i64 0, .bool false, .bool false, .int .u16 0, .slice none 0 0, .slice none 0 0, .int .i64 0] 100)).drew (HD1.out.room.below (Below.refl _ _).drew) hI (Utf8Tabs_below hT hbw.drew) hn (hs.below hbw.drew))
    have hkb : (kd == 1) = false := by rw [beq_eq_false_iff_ne]; exact hk
    dsimp only at CD
    clear HX hdg hD hT hs hxb hz hbw
    generalize hdo : doo R ⟨kd, p, n, q, nm, ss⟩ = DO at *
    go_enter Tryz.func44, Tryz.ntmps44
    go_upto_region 3 with fail
    generalize ((w.alloc (.cells #[.int .i64 kd, .int .i64 p, .int .i64 n, .int .i64 q, .string (str nm), .slice sa ss.length sc, .slice ba bl bc] 32)).alloc (.cells #[.int .i64 0, .int .i64 0, .int .i64 0, .int .i64 0, .bool false, .int .i64 0, .int .u16 0, .int .u32 0, .int .u32 0, .slice none 0 0, .bool false, .int .u16 0, .slice none 0 0, .slice none 0 0, .int .i64 0, .int .i64 0, .bool false, .bool false, .int .u16 0, .slice none 0 0, .slice none 0 0, .int .i64 0] 100)) = w1 at *
    have cg1 := HD1.out.cells.1
    have hx1 := HXB.out
    refine wp_region_noPanic ?_
    refine wp_region_held_drew (S := (fun w' => w'.cell? ⟨g, 0, none⟩ = some (.pointer (some ⟨b, 0, none⟩)))) (by kernel_rfl) ?_ (fun hHeld0 => ?_)
    · (try dsimp only)
      exact cg1
    refine wpAnyH_take (i := 0) (v := ?_) rfl (by kernel_rfl) (by kernel_rfl) (by kernel_rfl) (fun _ _ _ h => h) (Or.inl ⟨by rfl, ?_⟩) (by assumption) ?_
    rotate_left
    · intro w hSw
      (try dsimp only at hSw)
      go_simp
      try with_reducible rfl
    try simp only [List.getElem_toArray, List.getElem_cons_succ, List.getElem_cons_zero, Act.put, List.setIfInBounds_toArray, List.set_cons_zero, List.set_cons_succ]
    refine wpAnyH_take (i := 1) (v := ?_) rfl (by kernel_rfl) (by kernel_rfl) (by kernel_rfl) (fun _ _ _ h => h) (Or.inl ⟨by rfl, ?_⟩) (by assumption) ?_
    rotate_left
    · intro w hSw
      (try dsimp only at hSw)
      go_simp
      try with_reducible rfl
    try simp only [List.getElem_toArray, List.getElem_cons_succ, List.getElem_cons_zero, Act.put, List.setIfInBounds_toArray, List.set_cons_zero, List.set_cons_succ]
    refine wpAnyH_take (i := 2) (v := ?_) rfl (by kernel_rfl) (by kernel_rfl) (by kernel_rfl) (fun _ _ _ h => h) (Or.inl ⟨by rfl, ?_⟩) (by assumption) ?_
    rotate_left
    · intro w hSw
      (try dsimp only at hSw)
      go_simp
      try with_reducible rfl
    try simp only [List.getElem_toArray, List.getElem_cons_succ, List.getElem_cons_zero, Act.put, List.setIfInBounds_toArray, List.set_cons_zero, List.set_cons_succ]
    refine wpAnyH_take (i := 3) (v := ?_) rfl (by kernel_rfl) (by kernel_rfl) (by kernel_rfl) (fun _ _ _ h => h) (Or.inl ⟨by rfl, ?_⟩) (by assumption) ?_
    rotate_left
    · intro w hSw
      (try dsimp only at hSw)
      go_simp
      try with_reducible rfl
    try simp only [List.getElem_toArray, List.getElem_cons_succ, List.getElem_cons_zero, Act.put, List.setIfInBounds_toArray, List.set_cons_zero, List.set_cons_succ]
    refine wpAnyH_ready (rs := [4]) (by kernel_rfl) (by simp) ?_
    refine AllReadyH.cons (i := 4) rfl (fun K hK => ?_) AllReadyH.nil
    refine step_loadrow (by rfl) 32 (.tmp 3) (by rfl) w.heap.size (by rfl) 32 #[.int .i64 kd, .int .i64 p, .int .i64 n, .int .i64 q, .string (str nm), .slice sa ss.length sc, .slice ba bl bc] (0, 0) _ hx1 Tryz.underlying32 rfl (by kernel_rfl) ?_
    refine hK.out _ _ ?_ (fun hHeld1 => ?_)
    · (try dsimp only)
      first | exact cg2 | exact cg1
    clear hK K
    try simp only [List.getElem_toArray, List.getElem_cons_succ, List.getElem_cons_zero, Act.put, List.setIfInBounds_toArray, List.set_cons_zero, List.set_cons_succ]
    refine wpAnyH_ready (rs := [5]) (by kernel_rfl) (by simp) ?_
    refine AllReadyH.cons (i := 5) rfl (fun K hK => ?_) AllReadyH.nil
    go_simp
    refine CD.out.mono ?_
    rintro e w2 ⟨v, sv, rfl, htr, hroom, hfr⟩
    rw [hdo] at htr hroom
    try rw [hdo]
    obtain ⟨va, vc, hv, -⟩ := id htr
    subst hv
    have HTAKE := Lib.hid (HXX.out sv)
    have HDOR : Hid ((DO sv).2 ≠ 0 → (DO sv).1.2 = R) := by rw [← hdo]; exact doo_err
    have HF2 : Hid (Fr w1.heap.size (fun k => k = b ∨ k = g) w1 w2) := (Fr.of_below _ (Below.refl w1.heap.size w1).drew).trans (hfr.mono (Nat.le_refl _) (fun _ _ h => Or.inl h))
    have HD2 : Hid (DoorAt w2 g b (DO sv).1.2 ep) := ⟨(hfr.block g (by have h := HD1.out.cells.2.2.2; exact h) hgb).trans HD1.out.blk, hroom⟩
    have HTR := Lib.hid htr
    have cg2 := HD2.out.cells.1
    clear htr hroom hfr CD
    generalize (DO sv).1.1.length = vn at *
    go_wp2_with fail
    refine hK.out _ _ ?_ (fun hHeld2 => ?_)
    · (try dsimp only)
      first | exact cg2 | exact cg1
    clear hK K
    try simp only [List.getElem_toArray, List.getElem_cons_succ, List.getElem_cons_zero, Act.put, List.setIfInBounds_toArray, List.set_cons_zero, List.set_cons_succ]
    refine wpAnyH_take (i := 6) (v := ?_) rfl (by kernel_rfl) (by kernel_rfl) (by kernel_rfl) (fun _ _ _ h => h) (Or.inl ⟨by rfl, ?_⟩) (by assumption) ?_
    rotate_left
    · intro w hSw
      (try dsimp only at hSw)
      go_simp
      try with_reducible rfl
    try simp only [List.getElem_toArray, List.getElem_cons_succ, List.getElem_cons_zero, Act.put, List.setIfInBounds_toArray, List.set_cons_zero, List.set_cons_succ]
    refine wpAnyH_take (i := 7) (v := ?_) rfl (by kernel_rfl) (by kernel_rfl) (by kernel_rfl) (fun _ _ _ h => h) (Or.inl ⟨by rfl, ?_⟩) (by assumption) ?_
    rotate_left
    · intro w hSw
      (try dsimp only at hSw)
      go_simp
      try with_reducible rfl
    try simp only [List.getElem_toArray, List.getElem_cons_succ, List.getElem_cons_zero, Act.put, List.setIfInBounds_toArray, List.set_cons_zero, List.set_cons_succ]
    refine wpAnyH_take (i := 8) (v := ?_) rfl (by kernel_rfl) (by kernel_rfl) (by kernel_rfl) (fun _ _ _ h => h) (Or.inl ⟨by rfl, ?_⟩) (by assumption) ?_
    rotate_left
    · intro w hSw
      (try dsimp only at hSw)
      go_simp
      try with_reducible rfl
    try simp only [List.getElem_toArray, List.getElem_cons_succ, List.getElem_cons_zero, Act.put, List.setIfInBounds_toArray, List.set_cons_zero, List.set_cons_succ]
    refine wpAnyH_take (i := 9) (v := ?_) rfl (by kernel_rfl) (by kernel_rfl) (by kernel_rfl) (fun _ _ _ h => h) (Or.inl ⟨by rfl, ?_⟩) (by assumption) ?_
    rotate_left
    · intro w hSw
      (try dsimp only at hSw)
      go_simp
      try with_reducible rfl
    try simp only [List.getElem_toArray, List.getElem_cons_succ, List.getElem_cons_zero, Act.put, List.setIfInBounds_toArray, List.set_cons_zero, List.set_cons_succ]
    refine wpAnyH_take (i := 10) (v := ?_) rfl (by kernel_rfl) (by kernel_rfl) (by kernel_rfl) (fun _ _ _ h => h) (Or.inl ⟨by rfl, ?_⟩) (by assumption) ?_
    rotate_left
    · intro w hSw
      (try dsimp only at hSw)
      go_simp
      try with_reducible rfl
    try simp only [List.getElem_toArray, List.getElem_cons_succ, List.getElem_cons_zero, Act.put, List.setIfInBounds_toArray, List.set_cons_zero, List.set_cons_succ]
    refine wpAnyH_done (by kernel_rfl) ?_ _
    refine NoPanic.normal ?_
    clear hHeld0 hHeld1 hHeld2
    by_cases he : (DO sv).2 = 0
    · rw [he]
      rw [if_neg (by simp [he])] at HTAKE
      have hcs : ([.int .i64 0, .int .i64 0, .int .i64 0, .int .i64 0, .bool false, .int .i64 0, .int .u16 0, .int .u32 0, .int .u32 0, .slice none 0 0, .bool false, .int .u16 0, .slice none 0 0, .slice none 0 0, .int .i64 0, .int .i64 0, .bool false, .bool false, .int .u16 0, .slice none 0 0, .slice va vn vc, .int .i64 0] : List Value).length = 22 := rfl
      have CC := Lib.hid (control_any g (.pointer (some ⟨b, 0, none⟩)) ep [.int .i64 0, .int .i64 0, .int .i64 0, .int .i64 0, .bool false, .int .i64 0, .int .u16 0, .int .u32 0, .int .u32 0, .slice none 0 0, .bool false, .int .u16 0, .slice none 0 0, .slice none 0 0, .int .i64 0, .int .i64 0, .bool false, .bool false, .int .u16 0, .slice none 0 0, .slice va vn vc, .int .i64 0] w2 HD2.out.blk h0 h9 rfl (by kernel_rfl))
      clear hcs
      have HTK2 : Hid (TakenIn w2 ((([.int .i64 0, .int .i64 0, .int .i64 0, .int .i64 0, .bool false, .int .i64 0, .int .u16 0, .int .u32 0, .int .u32 0, .slice none 0 0, .bool false, .int .u16 0, .slice none 0 0, .slice none 0 0, .int .i64 0, .int .i64 0, .bool false, .bool false, .int .u16 0, .slice none 0 0, .slice va vn vc, .int .i64 0] : List Value).set 0 (.int .i64 2)).set 2 (.int .i64 (ep + 1))) (feedT (ep + 1) [] (DO sv).1.1 0)) := ⟨_, _, _, _, _, rfl, PktR.nil _, ItmsRow.nil _, HTR.out⟩
      have HAP := Lib.hid HD2.out.apart
      generalize hcc : ((([.int .i64 0, .int .i64 0, .int .i64 0, .int .i64 0, .bool false, .int .i64 0, .int .u16 0, .int .u32 0, .int .u32 0, .slice none 0 0, .bool false, .int .u16 0, .slice none 0 0, .slice none 0 0, .int .i64 0, .int .i64 0, .bool false, .bool false, .int .u16 0, .slice none 0 0, .slice va vn vc, .int .i64 0] : List Value).set 0 (.int .i64 2)).set 2 (.int .i64 (ep + 1))) = cs at *
      have HCC := Lib.hid hcc
      clear hcc
      go_wp2_with (first | (go_at_call 79; refine CC.out.mono ?_; rintro e w5 ⟨rfl, hg5, hf5⟩; have HF5 : Hid (Fr w1.heap.size (fun k => k = b ∨ k = g) w1 w5) := HF2.out.trans (hf5.mono HF2.out.size (fun _ _ h => Or.inr h)); have hz5 := (HF5.out.block (w.heap.size + 1) (hp_lt HZ.out) (by omega)).trans HZ.out; have HTK : Hid (TakenIn w5 cs (feedT (ep + 1) [] (DO sv).1.1 0)) := HTK2.out.fr hf5 (fun k hk => HAP.out k (Or.inr hk)); have HD5 : Hid (DoorAt w5 g b (DO sv).1.2 (ep + 1)) := ⟨hg5, HD2.out.room.fr hf5 (Nat.le_refl _) (fun h => hgb (Eq.symm h)) (fun k c fr hk => HAP.out.ne (by simp) k c fr (Or.inr hk))⟩; have hi := tk_info HTK.out; have hold := tk_hold HTK.out; have hone := HTK.out.one; clear hg5 hf5 CC) | (with_reducible refine store_at 100 (.tmp 4) (.tmp 29) rfl ?_; refine store_rowTo2 rfl 100 (.tmp 4) (.tmp 29) rfl rfl (w.heap.size + 1) cs.toArray rfl rfl 100 #[.int .i64 0, .int .i64 0, .int .i64 0, .int .i64 0, .bool false, .int .i64 0, .int .u16 0, .int .u32 0, .int .u32 0, .slice none 0 0, .bool false, .int .u16 0, .slice none 0 0, .slice none 0 0, .int .i64 0, .int .i64 0, .bool false, .bool false, .int .u16 0, .slice none 0 0, .slice none 0 0, .int .i64 0] hz5 hi hold hone ?_))
      refine bodyPost_ret (v := .agg cs.toArray) ?_ rfl ?_
      · exact results_cell_row (by rfl) _ _ (w.heap.size + 1) 100 cs.toArray (0, 0) _ (by rfl) (setRow_heap _ _ _ _ _ _ hz5) Tryz.underlying100 rfl hi
      exact HEND.out _ cs _ _ HF5.out HTK.out HD5.out HTAKE.out
    · rw [if_pos he] at HTAKE
      have hb : ((DO sv).2 != 0) = true := by rw [bne_iff_ne]; exact he
      have hb2 : ((DO sv).2 == 0) = false := by rw [beq_eq_false_iff_ne]; exact he
      have HDR : Hid (DoorAt w2 g b R ep) := by have h := HD2.out; rw [HDOR.out he] at h; exact h
      clear HD2
      go_wp2_with (first | (go_at_call 78; refine (refused_any 6 (DO sv).2 _).mono ?_; rintro e w5 ⟨⟨cs, rfl, htk⟩, hb5⟩; have HF5 : Hid (Fr w1.heap.size (fun k => k = b ∨ k = g) w1 w5) := HF2.out.trans (Fr.of_below _ (hb5.mono HF2.out.size)); have hz5 := (HF5.out.block (w.heap.size + 1) (hp_lt HZ.out) (by omega)).trans HZ.out; have HD5 := Lib.hid (HDR.out.below hb5); have hi := tk_info htk; have hold := tk_hold htk; have hone := htk.one; have HTK := Lib.hid htk; clear htk hb5) | (with_reducible refine store_at 100 (.tmp 4) (.tmp 25) rfl ?_; refine store_rowTo2 rfl 100 (.tmp 4) (.tmp 25) rfl rfl (w.heap.size + 1) cs.toArray rfl rfl 100 #[.int .i64 0, .int .i64 0, .int .i64 0, .int .i64 0, .bool false, .int .i64 0, .int .u16 0, .int .u32 0, .int .u32 0, .slice none 0 0, .bool false, .int .u16 0, .slice none 0 0, .slice none 0 0, .int .i64 0, .int .i64 0, .bool false, .bool false, .int .u16 0, .slice none 0 0, .slice none 0 0, .int .i64 0] hz5 hi hold hone ?_))
      refine bodyPost_ret (v := .agg cs.toArray) ?_ rfl ?_
      · exact results_cell_row (by rfl) _ _ (w.heap.size + 1) 100 cs.toArray (0, 0) _ (by rfl) (setRow_heap _ _ _ _ _ _ hz5) Tryz.underlying100 rfl hi
      exact HEND.out _ cs _ _ HF5.out HTK.out HD5.out HTAKE.out
end Go.Proofs.By
namespace Go.Proofs.By
open Go.Proofs.Rm (Room)
end Go.Proofs.By
set_option linter.unusedSimpArgs false
namespace Go.Proofs.By
open Go.RowKit Go.Proofs.Heap
open Go.Proofs.Rm (TurnRow Turn Room RoomAt Inv New_any)
theorem DoorNew_any (w : World) : Calls Tryz.prog 40 #[] w fun e w' => (∃ d b, e = .returned (.pointer (some ⟨d, 0, none⟩)) ∧ DoorAt w' d b Rm.empty 0 ∧ w.heap.size ≤ d ∧ w.heap.size ≤ b) ∧ Below w.heap.size w w' := by
  have C := Lib.hid (New_any w)
  go_enter Tryz.func40, Tryz.ntmps40
  go_wp2_with (go_at_call 69; refine C.out.mono ?_; rintro e w2 ⟨rfl, hroom, hb2⟩; have HR := Lib.hid hroom; have HB := Lib.hid hb2; clear hroom hb2)
  go_ret
  exact ⟨⟨_, w.heap.size, rfl, ⟨heap_new w2 _, HR.out.below (below_alloc w2 _)⟩, HB.out.size, Nat.le_refl _⟩, bel_alloc HB.out (Nat.le_refl _) _⟩
end Go.Proofs.By
set_option linter.unusedSimpArgs false
namespace Go.Proofs.By
open Go.RowKit Go.Proofs.Heap
open Go.Proofs.Rm (TurnRow Turn Room RoomAt Inv doo u32s)
open Go.Proofs.Lab (Tabs)
open Go.Proofs.Mem
theorem DoorAt.fr {w w' : World} {g b : Nat} {R : Room} {ep : Int} {S : Nat → Prop} (h : DoorAt w g b R ep) (hf : Fr w.heap.size S w w') (hd : ¬ S g) (hb : ¬ S b) (hS : ∀ k c fr, S k → w.heap[k]? ≠ some (.cells c 66 fr)) : DoorAt w' g b R ep :=
  ⟨(hf.block g (hp_lt h.blk) hd).trans h.blk, h.room.fr hf (Nat.le_refl _) hb hS⟩
end Go.Proofs.By
set_option linter.unusedSimpArgs false
namespace Go.Proofs.By
open Go.RowKit Go.Proofs.Heap
open Go.Proofs.Rm (TurnRow Turn Room RoomAt Inv doo u32s OpV opvCells inv_doo inv_empty Slim slim_doo slim_empty wrong turns)
open Go.Proofs.Lab (Tabs)
open Go.Proofs.Mem
/-- An operation, its bytes beside it. -/
structure OpB where
  x : OpV
  b : List UInt8
structure OpBsT (w : World) (v : Value) (L : List OpB) : Prop where
  row : Row w 32 v L.length (L.flatMap fun y => opvCells y.x)
  each : ∀ y ∈ L, Row w 66 (.slice y.x.sa y.x.o.ssrcs.length y.x.sc) y.x.o.ssrcs.length (u32s y.x.o.ssrcs) ∧ Row w 5 (.slice y.x.ba y.x.bl y.x.bc) y.b.length (bys y.b) ∧ y.x.o.name.length < 9223372036854775807
theorem OpBsT.below {w w' : World} {v : Value} {L : List OpB} (h : OpBsT w v L) (hb : Below w.heap.size w w') : OpBsT w' v L := ⟨h.row.below hb, fun y hy => ⟨(h.each y hy).1.below hb, (h.each y hy).2.1.below hb, (h.each y hy).2.2⟩⟩
theorem OpBsT.fr {w w' : World} {v : Value} {L : List OpB} {S : Nat → Prop} (h : OpBsT w v L) (hf : Fr w.heap.size S w w') (hS : Apart w S) : OpBsT w' v L :=
  ⟨Row.fr h.row hf (Nat.le_refl _) (hS.ne (by simp)), fun y hy => ⟨Row.fr (h.each y hy).1 hf (Nat.le_refl _) (hS.ne (by simp)), Row.fr (h.each y hy).2.1 hf (Nat.le_refl _) (hS.ne (by simp)), (h.each y hy).2.2⟩⟩
def pk7 : List UInt8 := [128, 96, 0, 7, 0, 0, 0, 50, 0, 0, 0, 10, 192, 90, 0, 9, 5]
def bop : Nat → Rm.Op
  | 0 => ⟨2, 1, 0, 0, [97, 110, 110], []⟩
  | 1 => ⟨2, 2, 0, 0, [98, 111, 98], []⟩
  | 2 => ⟨4, 1, 3, 0, [], [10, 11]⟩
  | 3 => ⟨6, 2, 3, 0, [], []⟩
  | _ => ⟨1, 1, 0, 0, [], []⟩
def bOps (h : Nat) : List OpB := [⟨⟨bop 0, none, 0, none, 0, 0⟩, []⟩, ⟨⟨bop 1, none, 0, none, 0, 0⟩, []⟩, ⟨⟨bop 2, some ⟨h, 0, none⟩, 2, none, 0, 0⟩, []⟩, ⟨⟨bop 3, none, 0, none, 0, 0⟩, []⟩, ⟨⟨bop 4, none, 0, some ⟨h + 1, 0, none⟩, 17, 17⟩, pk7⟩]
theorem packet_any (w : World) : Calls Tryz.prog 68 #[.int .u8 7, .int .u8 10] w fun e w' => e = .returned (.slice (some ⟨w.heap.size, 0, none⟩) 17 17) ∧ w' = w.alloc (.cells (bys pk7).toArray 5) := by
  go_enter Tryz.func68, Tryz.ntmps68
  go_wp2
  go_ret
  exact ⟨rfl, rfl⟩
theorem begin_any (w : World) : Calls Tryz.prog 39 #[] w fun e w' => e = .returned (.slice (some ⟨w.heap.size + 2, 0, none⟩) 5 5) ∧ OpBsT w' (.slice (some ⟨w.heap.size + 2, 0, none⟩) 5 5) (bOps w.heap.size) ∧ Below w.heap.size w w' := by
  have C := Lib.hid packet_any
  go_enter Tryz.func39, Tryz.ntmps39
  go_wp2_with (go_at_call 68; refine (C.out _).mono ?_; rintro e w2 ⟨rfl, rfl⟩)
  go_ret
  have h1 : Row (w.alloc (.cells (u32s [10, 11]).toArray 66)) 66 (.slice (some ⟨w.heap.size, 0, none⟩) 2 2) 2 (u32s [10, 11]) := rowNew w _ 2 (u32s [10, 11]) (by decide)
  have h2 := rowNew (w.alloc (.cells (u32s [10, 11]).toArray 66)) 5 17 (bys pk7) (by decide)
  have h3 := rowNew ((w.alloc (.cells (u32s [10, 11]).toArray 66)).alloc (.cells (bys pk7).toArray 5)) 32 5 ((bOps w.heap.size).flatMap fun y => opvCells y.x) (by decide)
  have e1 : (w.alloc (.cells (u32s [10, 11]).toArray 66)).heap.size = w.heap.size + 1 := by show (w.heap.push _).size = _; rw [Array.size_push]
  have e2 : ((w.alloc (.cells (u32s [10, 11]).toArray 66)).alloc (.cells (bys pk7).toArray 5)).heap.size = w.heap.size + 2 := by show ((w.heap.push _).push _).size = _; rw [Array.size_push, Array.size_push]
  rw [e1] at h2
  rw [e2] at h3
  refine ⟨rfl, ⟨h3, ?_⟩, bel_alloc (bel_alloc (below_alloc w _) (Nat.le_refl _) _) (Nat.le_refl _) _⟩
  intro x hx
  simp only [bOps, List.mem_cons, List.mem_nil_iff, or_false] at hx
  rcases hx with rfl | rfl | rfl | rfl | rfl
  · exact ⟨Row.nil _ _, Row.nil _ _, by decide⟩
  · exact ⟨Row.nil _ _, Row.nil _ _, by decide⟩
  · exact ⟨(h1.below (below_alloc _ _)).below (below_alloc _ _), Row.nil _ _, by show (bop 2).name.length < _; decide⟩
  · exact ⟨Row.nil _ _, Row.nil _ _, by decide⟩
  · exact ⟨Row.nil _ _, h2.below (below_alloc _ _), by show (bop 4).name.length < _; decide⟩
end Go.Proofs.By
set_option linter.unusedSimpArgs false
namespace Go.Proofs.By
open Go.Proofs.Rm (Room Turn inn of goneOp joined doo hears Inv inv_goneOp gone_len Slim slim_goneOp)
/-- What holds of every item that is read. -/
structure ItmOk (i : Itm) : Prop where
  m0 : 0 ≤ i.media
  m1 : i.media < 4294967296
  g : i.gone.length ≤ 128
  b : i.blocks.length ≤ 128
  p : i.pairs.length ≤ 128
theorem get4_lt (b : List UInt8) (p : Int) : get b p 4 < 4294967296 := by
  unfold get
  split
  · exact be_lt4 (by rw [List.length_take]; omega)
  · decide
theorem noItm_ok : ItmOk noItm := ⟨by decide, by decide, by decide, by decide, by decide⟩
theorem report_ok (b : List UInt8) : ItmOk (report b) := ⟨by show (0 : Int) ≤ 0; decide, by show (0 : Int) < 4294967296; decide, Nat.zero_le _, by show ((List.range (at8 b 0 % 32)).map _).length ≤ 128; rw [List.length_map, List.length_range]; omega, Nat.zero_le _⟩
theorem iwords_le {b : List UInt8} (h : b.length ≤ 512) (p : Nat) : (iwords b p).length ≤ 128 := by unfold iwords; rw [List.length_map, List.length_range]; omega
theorem parts_ok {b : List UInt8} (h : b.length ≤ 512) (k : Nat) : ItmOk (parts b k) := by
  unfold parts
  by_cases h1 : k = 203
  · rw [if_pos h1]
    exact ⟨by show (0 : Int) ≤ 0; decide, by show (0 : Int) < 4294967296; decide, by show ((iwords b 4).map _).length ≤ 128; rw [List.length_map]; exact iwords_le h 4, Nat.zero_le _, Nat.zero_le _⟩
  · rw [if_neg h1]
    have hg := get4_lt b 8
    exact ⟨by show (0 : Int) ≤ (get b 8 4 : Int); omega, by show (get b 8 4 : Int) < 4294967296; omega, Nat.zero_le _, Nat.zero_le _, by show ((iwords b 12).map _).length ≤ 128; rw [List.length_map]; exact iwords_le h 12⟩
theorem itemGet_ok {b : List UInt8} (h : b.length ≤ 512) : ItmOk (itemGet b).1.1 := by
  unfold itemGet
  split
  · exact noItm_ok
  split
  · exact noItm_ok
  split
  · exact noItm_ok
  split
  · unfold reportGet
    split
    · exact noItm_ok
    · exact report_ok b
  dsimp only
  split
  · exact noItm_ok
  split
  · exact noItm_ok
  · exact parts_ok (by rw [List.length_take]; omega) _
theorem itemsGo_ok : ∀ (k : Nat) (b : List UInt8), b.length ≤ 512 → (∀ i ∈ (itemsGo k b).1, ItmOk i) ∧ (itemsGo k b).1.length ≤ k
  | 0, b, h => ⟨fun i hi => (by cases hi), Nat.le_refl _⟩
  | k + 1, b, h => by
    unfold itemsGo
    split
    · exact ⟨fun i hi => (by cases hi), Nat.zero_le _⟩
    split
    · exact ⟨fun i hi => by rw [List.mem_singleton] at hi; subst hi; exact itemGet_ok h, by show 1 ≤ k + 1; omega⟩
    have ih := itemsGo_ok k (b.drop (itemGet b).1.2) (by rw [List.length_drop]; omega)
    dsimp only
    split
    · exact ⟨fun i hi => (by cases hi), Nat.zero_le _⟩
    · refine ⟨fun i hi => ?_, by rw [List.length_cons]; exact Nat.succ_le_succ ih.2⟩
      rcases List.mem_cons.1 hi with rfl | hi
      · exact itemGet_ok h
      · exact ih.1 i hi
theorem itemsGet_ok (b : List UInt8) : (∀ i ∈ (itemsGet b).1, ItmOk i) ∧ (itemsGet b).1.length ≤ 8 := by
  unfold itemsGet
  split
  · exact ⟨fun i hi => (by cases hi), Nat.zero_le _⟩
  · exact itemsGo_ok 8 b (by omega)
theorem sift_feed {b : List UInt8} (h3 : 192 ≤ at8 b 1 ∧ at8 b 1 ≤ 223) (h : (sift b).2 = 0) : (sift b).1 = .feedback (itemsGet b).1 := by
  unfold sift at h ⊢
  by_cases h1 : 512 < b.length
  · rw [if_pos h1] at h; cases h
  rw [if_neg h1] at h ⊢
  by_cases h2 : b.length < 2
  · rw [if_pos h2] at h; cases h
  rw [if_neg h2, if_pos h3] at h ⊢
  by_cases h4 : (itemsGet b).2 ≠ 0
  · rw [if_pos h4] at h; exact absurd h h4
  · rw [if_neg h4]
theorem goneOp_len (R : Room) (p x : Int) : (goneOp R p x).1.1.length ≤ 18 := by
  unfold goneOp
  split
  · exact Nat.zero_le _
  · exact gone_len _ _
theorem cnt_le (e : Int) : 0 ≤ cnt e ∧ cnt e ≤ 1 := by unfold cnt; split <;> omega
theorem goneAll_ok (peer : Int) : ∀ (l : List Int) (R : Room), Inv R → Slim R → Inv (goneAll peer l R).1.2 ∧ Slim (goneAll peer l R).1.2 ∧ (goneAll peer l R).1.1.length ≤ 18 * l.length ∧ 0 ≤ (goneAll peer l R).2 ∧ (goneAll peer l R).2 ≤ l.length
  | [], R, h, hs => ⟨h, hs, Nat.le_refl _, Int.le_refl _, Int.le_refl _⟩
  | x :: l, R, h, hs => by
    have ih := goneAll_ok peer l (goneOp R peer x).1.2 (inv_goneOp h peer x) (slim_goneOp hs peer x)
    have h1 := goneOp_len R peer x
    have h2 := cnt_le (goneOp R peer x).2
    unfold goneAll
    refine ⟨ih.1, ih.2.1, ?_, ?_, ?_⟩
    · show ((goneOp R peer x).1.1 ++ _).length ≤ _
      rw [List.length_append, List.length_cons]; have := ih.2.2.1; omega
    · show 0 ≤ cnt _ + _; have := ih.2.2.2.1; omega
    · show cnt _ + _ ≤ ((l.length + 1 : Nat) : Int); have := ih.2.2.2.2; omega
theorem itemDo_ok {R : Room} (h : Inv R) (hs : Slim R) (peer : Int) {i : Itm} (hi : ItmOk i) : Inv (itemDo R peer i).1.2 ∧ Slim (itemDo R peer i).1.2 ∧ (itemDo R peer i).1.1.length ≤ 3000 ∧ 0 ≤ (itemDo R peer i).2 ∧ (itemDo R peer i).2 ≤ 1000 := by
  unfold itemDo
  split
  · exact ⟨h, hs, Nat.zero_le _, by dsimp only; split <;> omega, by dsimp only; split <;> omega⟩
  split
  · exact ⟨h, hs, Nat.zero_le _, by dsimp only; split <;> omega, by dsimp only; split <;> omega⟩
  split
  · have := goneAll_ok peer i.gone R h hs
    have hg := hi.g
    exact ⟨this.1, this.2.1, by omega, this.2.2.2.1, by omega⟩
  · exact ⟨h, hs, Nat.zero_le _, Int.le_refl _, by show (0 : Int) ≤ 1000; decide⟩
theorem itemsDo_ok (peer : Int) : ∀ (l : List Itm) (R : Room), Inv R → Slim R → (∀ i ∈ l, ItmOk i) → Inv (itemsDo peer l R).1.2 ∧ Slim (itemsDo peer l R).1.2 ∧ (itemsDo peer l R).1.1.length ≤ 3000 * l.length ∧ 0 ≤ (itemsDo peer l R).2 ∧ (itemsDo peer l R).2 ≤ 1000 * l.length
  | [], R, h, hs, hi => ⟨h, hs, Nat.le_refl _, Int.le_refl _, Int.le_refl _⟩
  | x :: l, R, h, hs, hi => by
    have h1 := itemDo_ok h hs peer (hi x (List.mem_cons_self ..))
    have ih := itemsDo_ok peer l (itemDo R peer x).1.2 h1.1 h1.2.1 (fun i h => hi i (List.mem_cons_of_mem _ h))
    unfold itemsDo
    refine ⟨ih.1, ih.2.1, ?_, ?_, ?_⟩
    · show ((itemDo R peer x).1.1 ++ _).length ≤ _
      rw [List.length_append, List.length_cons]; have := ih.2.2.1; omega
    · show 0 ≤ (itemDo R peer x).2 + _; have := ih.2.2.2.1; omega
    · show (itemDo R peer x).2 + _ ≤ ((1000 : Int) * ((l.length + 1 : Nat) : Int)); have := ih.2.2.2.2; omega
theorem datagram_ok {R : Room} (h : Inv R) (hs : Slim R) (ep p : Int) (l : List UInt8) : Inv (datagram R ep p l).1.2 ∧ Slim (datagram R ep p l).1.2 ∧ 0 ≤ (datagram R ep p l).1.1.unknown ∧ (datagram R ep p l).1.1.unknown ≤ 8000 ∧ ep ≤ (datagram R ep p l).2 ∧ (datagram R ep p l).2 ≤ ep + 1 := by
  unfold datagram
  by_cases h1 : (sift l).2 ≠ 0
  · rw [if_pos h1]; exact ⟨h, hs, by show (0 : Int) ≤ 0; decide, by show (0 : Int) ≤ 8000; decide, Int.le_refl _, by show ep ≤ ep + 1; omega⟩
  rw [if_neg h1]
  by_cases h2 : (!joined R p) = true
  · rw [if_pos h2]; exact ⟨h, hs, by show (0 : Int) ≤ 0; decide, by show (0 : Int) ≤ 8000; decide, Int.le_refl _, by show ep ≤ ep + 1; omega⟩
  rw [if_neg h2]
  by_cases h3 : 192 ≤ at8 l 1 ∧ at8 l 1 ≤ 223
  · rw [sift_feed h3 (by omega)]
    have hk := itemsGet_ok l
    have := itemsDo_ok p (itemsGet l).1 R h hs hk.1
    exact ⟨this.1, this.2.1, this.2.2.2.1, by show (itemsDo p (itemsGet l).1 R).2 ≤ 8000; omega, by show ep ≤ ep + 1; omega, Int.le_refl _⟩
  · rcases hsf : (sift l).1 with _ | ⟨P, d⟩ | fl
    · exact ⟨h, hs, by show (0 : Int) ≤ 0; decide, by show (0 : Int) ≤ 8000; decide, by show ep ≤ ep + 1; omega, Int.le_refl _⟩
    · dsimp only
      refine ⟨h, hs, ?_, ?_, Int.le_refl _, by omega⟩
      · unfold mediaT; split <;> (show (0 : Int) ≤ 0; decide)
      · unfold mediaT; split <;> (show (0 : Int) ≤ 8000; decide)
    · exfalso
      unfold sift at hsf
      rw [if_neg h3] at hsf
      split at hsf
      · cases hsf
      split at hsf
      · cases hsf
      split at hsf
      · cases hsf
      split at hsf
      · cases hsf
      · cases hsf
end Go.Proofs.By
set_option linter.unusedSimpArgs false
namespace Go.Proofs.By
open Go.Proofs.Rm (Room Turn inn of goneOp joined doo hears Inv Slim inv_doo slim_doo of_bare gone_bare doo_bare gone inv_empty slim_empty)
theorem owned_bare (R : Room) (p x : Int) : owned R.bare p x = owned R p x := by
  unfold owned
  rw [of_bare]
  rfl
theorem goneOp_bare (R : Room) (p x : Int) : goneOp R.bare p x = (((goneOp R p x).1.1, (goneOp R p x).1.2.bare), (goneOp R p x).2) := by
  have h1 : joined R.bare p = joined R p := rfl
  have h2 : ∀ n, (R.bare.src n).own = (R.src n).own := fun _ => rfl
  unfold goneOp
  rw [of_bare, h1, h2, gone_bare]
  split <;> rfl
theorem goneAll_bare (p : Int) : ∀ (l : List Int) (R : Room), goneAll p l R.bare = (((goneAll p l R).1.1, (goneAll p l R).1.2.bare), (goneAll p l R).2)
  | [], R => rfl
  | x :: l, R => by
    unfold goneAll
    rw [goneOp_bare]
    dsimp only
    rw [goneAll_bare p l]
theorem itemDo_bare (R : Room) (p : Int) (i : Itm) : itemDo R.bare p i = (((itemDo R p i).1.1, (itemDo R p i).1.2.bare), (itemDo R p i).2) := by
  have h1 : heardBy R.bare p i.media = heardBy R p i.media := rfl
  unfold itemDo
  rw [owned_bare, h1, goneAll_bare]
  split
  · rfl
  split
  · rfl
  split <;> rfl
theorem itemsDo_bare (p : Int) : ∀ (l : List Itm) (R : Room), itemsDo p l R.bare = (((itemsDo p l R).1.1, (itemsDo p l R).1.2.bare), (itemsDo p l R).2)
  | [], R => rfl
  | x :: l, R => by
    unfold itemsDo
    rw [itemDo_bare]
    dsimp only
    rw [itemsDo_bare p l]
theorem mediaT_bare (R : Room) (ep p : Int) (P : Pkt) (d : Dsc) : mediaT R.bare ep p P d = mediaT R ep p P d := by
  unfold mediaT
  rw [owned_bare, of_bare]
theorem datagram_bare (R : Room) (ep p : Int) (l : List UInt8) : datagram R.bare ep p l = (((datagram R ep p l).1.1, (datagram R ep p l).1.2.bare), (datagram R ep p l).2) := by
  have h1 : joined R.bare p = joined R p := rfl
  unfold datagram
  rw [h1]
  split
  · rfl
  split
  · rfl
  cases (sift l).1 with
  | none => rfl
  | media P d => dsimp only; rw [mediaT_bare]
  | feedback fl => dsimp only; rw [itemsDo_bare]
theorem take_bare (R : Room) (ep : Int) (o : Rm.Op) (l : List UInt8) (sv sv' : Value) : (take R.bare ep o l sv').1.1 = (take R ep o l sv).1.1 ∧ (take R.bare ep o l sv').1.2.bare = (take R ep o l sv).1.2.bare ∧ (take R.bare ep o l sv').2 = (take R ep o l sv).2 := by
  unfold take
  by_cases h : o.kind = 1
  · rw [if_pos h, if_pos h, datagram_bare]
    exact ⟨rfl, rfl, rfl⟩
  · rw [if_neg h, if_neg h]
    obtain ⟨h1, h2, h3⟩ := doo_bare R o sv sv'
    rw [h2]
    by_cases h4 : (doo R o sv).2 ≠ 0
    · rw [if_pos h4, if_pos h4]; exact ⟨rfl, rfl, rfl⟩
    · rw [if_neg h4, if_neg h4]
      dsimp only
      rw [h1]
      exact ⟨rfl, h3, rfl⟩
theorem take_ok {R : Room} (h : Inv R) (hs : Slim R) (ep : Int) (o : Rm.Op) (l : List UInt8) (sv : Value) : Inv (take R ep o l sv).1.2 ∧ Slim (take R ep o l sv).1.2 ∧ 0 ≤ (take R ep o l sv).1.1.unknown ∧ (take R ep o l sv).1.1.unknown ≤ 8000 ∧ ep ≤ (take R ep o l sv).2 ∧ (take R ep o l sv).2 ≤ ep + 1 := by
  unfold take
  split
  · exact datagram_ok h hs ep o.peer l
  split
  · exact ⟨h, hs, by show (0 : Int) ≤ 0; decide, by show (0 : Int) ≤ 8000; decide, Int.le_refl _, by show ep ≤ ep + 1; omega⟩
  · exact ⟨inv_doo h o sv, slim_doo hs o sv, by show (0 : Int) ≤ 0; decide, by show (0 : Int) ≤ 8000; decide, by show ep ≤ ep + 1; omega, Int.le_refl _⟩
/-- What an operation is, and what it does to the epoch. -/
theorem take_epoch (R : Room) (ep : Int) (o : Rm.Op) (l : List UInt8) (sv : Value) : ((take R ep o l sv).1.1.adm.kind = 2 ∧ (take R ep o l sv).1.1.adm.epoch = ep + 1 ∧ (take R ep o l sv).2 = ep + 1) ∨ ((take R ep o l sv).1.1.adm.kind ≠ 2 ∧ (take R ep o l sv).2 = ep ∧ ((take R ep o l sv).1.1.adm.kind = 1 → (take R ep o l sv).1.1.adm.epoch = ep)) := by
  unfold take
  split
  · unfold datagram
    split
    · exact Or.inr ⟨by show (3 : Int) ≠ 2; decide, rfl, fun h => absurd h (by show (3 : Int) ≠ 1; decide)⟩
    split
    · exact Or.inr ⟨by show (4 : Int) ≠ 2; decide, rfl, fun h => absurd h (by show (4 : Int) ≠ 1; decide)⟩
    cases (sift l).1 with
    | none => exact Or.inl ⟨rfl, rfl, rfl⟩
    | media P d =>
      dsimp only
      unfold mediaT
      split
      · exact Or.inr ⟨by show (1 : Int) ≠ 2; decide, rfl, fun _ => rfl⟩
      · exact Or.inr ⟨by show (5 : Int) ≠ 2; decide, rfl, fun h => absurd h (by show (5 : Int) ≠ 1; decide)⟩
    | feedback fl => exact Or.inl ⟨rfl, rfl, rfl⟩
  split
  · exact Or.inr ⟨by show (6 : Int) ≠ 2; decide, rfl, fun h => absurd h (by show (6 : Int) ≠ 1; decide)⟩
  · exact Or.inl ⟨rfl, rfl, rfl⟩
/-- The room and the epoch ahead of an operation of a script; slice values aside. -/
def runTo (L : List OpB) : Nat → Room × Int
  | 0 => (Rm.empty, 0)
  | k + 1 => match L[k]? with
    | none => runTo L k
    | some y => ((take (runTo L k).1 (runTo L k).2 y.x.o y.b (.slice none 0 0)).1.2.bare, (take (runTo L k).1 (runTo L k).2 y.x.o y.b (.slice none 0 0)).2)
def takenAt (L : List OpB) (k : Nat) : Taken := match L[k]? with
  | none => noTaken
  | some y => (take (runTo L k).1 (runTo L k).2 y.x.o y.b (.slice none 0 0)).1.1
theorem run_step {L : List OpB} {k : Nat} {y : OpB} {R : Room} {ep : Int} (hy : L[k]? = some y) (hR : R.bare = (runTo L k).1) (he : ep = (runTo L k).2) (sv : Value) :
    (take R ep y.x.o y.b sv).1.1 = takenAt L k ∧ (take R ep y.x.o y.b sv).1.2.bare = (runTo L (k + 1)).1 ∧ (take R ep y.x.o y.b sv).2 = (runTo L (k + 1)).2 := by
  obtain ⟨h1, h2, h3⟩ := take_bare R ep y.x.o y.b sv (.slice none 0 0)
  rw [hR, he] at h1 h2 h3
  have e1 : takenAt L k = (take (runTo L k).1 (runTo L k).2 y.x.o y.b (.slice none 0 0)).1.1 := by unfold takenAt; rw [hy]
  have e2 : runTo L (k + 1) = ((take (runTo L k).1 (runTo L k).2 y.x.o y.b (.slice none 0 0)).1.2.bare, (take (runTo L k).1 (runTo L k).2 y.x.o y.b (.slice none 0 0)).2) := by
    conv => lhs; unfold runTo
    rw [hy]
  rw [e1, e2, he]
  exact ⟨h1.symm, h2.symm, h3.symm⟩
theorem run_epoch {L : List OpB} {k : Nat} (hk : k < L.length) : ((takenAt L k).adm.kind = 2 ∧ (takenAt L k).adm.epoch = (runTo L k).2 + 1 ∧ (runTo L (k + 1)).2 = (runTo L k).2 + 1) ∨ ((takenAt L k).adm.kind ≠ 2 ∧ (runTo L (k + 1)).2 = (runTo L k).2 ∧ ((takenAt L k).adm.kind = 1 → (takenAt L k).adm.epoch = (runTo L k).2)) := by
  have hy : L[k]? = some L[k] := List.getElem?_eq_getElem hk
  have e1 : takenAt L k = (take (runTo L k).1 (runTo L k).2 L[k].x.o L[k].b (.slice none 0 0)).1.1 := by unfold takenAt; rw [hy]
  have e2 : (runTo L (k + 1)).2 = (take (runTo L k).1 (runTo L k).2 L[k].x.o L[k].b (.slice none 0 0)).2 := by
    conv => lhs; unfold runTo
    rw [hy]
  rw [e1, e2]
  exact take_epoch _ _ _ _ _
theorem run_bound (L : List OpB) : ∀ k, 0 ≤ (runTo L k).2 ∧ (runTo L k).2 ≤ k
  | 0 => ⟨Int.le_refl _, Int.le_refl _⟩
  | k + 1 => by
    have ih := run_bound L k
    by_cases hk : k < L.length
    · rcases run_epoch hk with ⟨_, _, h⟩ | ⟨_, h, _⟩ <;> (rw [h]; omega)
    · have e2 : runTo L (k + 1) = runTo L k := by
        conv => lhs; unfold runTo
        rw [List.getElem?_eq_none (by omega)]
      rw [e2]; omega
end Go.Proofs.By
namespace Go.Proofs.By
open Go.Proofs.Rm (Turn)
structure Life where
  peer : Int
  source : Int
  bgn : Int
  fin : Int
deriving DecidableEq
def noLife : Life := ⟨0, 0, 0, 0⟩
/-- The last of the first k lives of a peer and a source ends. -/
def endGo (p s at' : Int) (ls : List Life) : Nat → List Life
  | 0 => ls
  | k + 1 => if (ls.getD k noLife).peer = p ∧ (ls.getD k noLife).source = s then ls.set k { ls.getD k noLife with fin := at' } else endGo p s at' ls k
def lifeTurn (n at' : Int) (ls : List Life) (t : Turn) : List Life :=
  if t.kind = 1 then ls ++ [⟨t.peer, t.source, at', n⟩]
  else if t.kind = 2 then endGo t.peer t.source at' ls ls.length
  else ls
theorem endGo_len (p s at' : Int) (ls : List Life) : ∀ k, (endGo p s at' ls k).length = ls.length
  | 0 => rfl
  | k + 1 => by
    unfold endGo
    split
    · rw [List.length_set]
    · exact endGo_len p s at' ls k
theorem lifeTurn_len (n at' : Int) (ls : List Life) (t : Turn) : (lifeTurn n at' ls t).length ≤ ls.length + 1 := by
  unfold lifeTurn
  split
  · rw [List.length_append]; exact Nat.le_refl _
  split
  · rw [endGo_len]; omega
  · omega
def livesOf (n at' : Int) (ls : List Life) (ts : List Turn) : List Life := ts.foldl (lifeTurn n at') ls
theorem livesOf_snoc (n at' : Int) (ls : List Life) (ts : List Turn) (t : Turn) : livesOf n at' ls (ts ++ [t]) = lifeTurn n at' (livesOf n at' ls ts) t := by
  unfold livesOf
  rw [List.foldl_append]
  rfl
theorem livesOf_len (n at' : Int) : ∀ (ts : List Turn) (ls : List Life), (livesOf n at' ls ts).length ≤ ls.length + ts.length
  | [], ls => Nat.le_refl _
  | t :: ts, ls => by
    have h1 := livesOf_len n at' ts (lifeTurn n at' ls t)
    have h2 := lifeTurn_len n at' ls t
    show (livesOf n at' (lifeTurn n at' ls t) ts).length ≤ _
    rw [List.length_cons]
    omega
/-- The lives behind the first k operations of a script of n. -/
def livesTo (L : List OpB) (n : Int) : Nat → List Life
  | 0 => []
  | k + 1 => livesOf n k (livesTo L n k) (takenAt L k).turns
def admsTo (L : List OpB) (k : Nat) : List Adm := (List.range k).map fun j => (takenAt L j).adm
theorem admsTo_succ (L : List OpB) (k : Nat) : admsTo L (k + 1) = admsTo L k ++ [(takenAt L k).adm] := by unfold admsTo; rw [List.range_succ, List.map_append]; rfl
theorem admsTo_len (L : List OpB) (k : Nat) : (admsTo L k).length = k := by unfold admsTo; rw [List.length_map, List.length_range]
end Go.Proofs.By
set_option linter.unusedSimpArgs false
namespace Go.Proofs.By
open Go.Proofs.Rm (Room Turn inn of goneOp joined doo turns gone_len leave1_len leave2_len subs_len muteAll_len)
theorem waits_le (R : Room) (p n : Nat) : (Rm.waits R p n).length ≤ 1 := by unfold Rm.waits; split <;> simp
theorem mute_le (R : Room) (n : Nat) (on : Bool) : (Rm.mute R n on).1.length ≤ 18 := by
  have h1 := muteAll_len (R.setSrc n { R.src n with muted := on }) n on (Rm.subs (R.setSrc n { R.src n with muted := on }) n)
  have h2 := subs_len (R.setSrc n { R.src n with muted := on }) n
  show ((Rm.subs (R.setSrc n { R.src n with muted := on }) n).flatMap _).length ≤ 18
  omega
theorem turns_le (R : Room) (o : Rm.Op) (sv : Value) : (turns R o sv).1.length ≤ 200 := by
  unfold turns
  dsimp only
  by_cases k2 : o.kind = 2
  · rw [if_pos k2]
    exact Nat.zero_le _
  rw [if_neg k2]
  by_cases k3 : o.kind = 3
  · rw [if_pos k3]
    unfold Rm.leave
    dsimp only
    rw [List.length_append]
    have h1 := leave1_len o.peer.toNat R 9
    have h2 := leave2_len o.peer.toNat (Rm.leave1 o.peer.toNat R 9).2 9
    omega
  rw [if_neg k3]
  by_cases k4 : o.kind = 4
  · rw [if_pos k4]
    exact Nat.zero_le _
  rw [if_neg k4]
  by_cases k5 : o.kind = 5
  · rw [if_pos k5]
    have := gone_len R o.source.toNat; omega
  rw [if_neg k5]
  by_cases k6 : o.kind = 6
  · rw [if_pos k6]
    unfold Rm.begin
    dsimp only
    rw [List.length_cons]
    have : (if (R.src o.source.toNat).muted = true then [(⟨6, o.peer, o.source, 0, 0⟩ : Turn)] else [Rm.asks (R.setSub o.source.toNat o.peer.toNat ⟨true, false, o.layer⟩) o.peer.toNat o.source.toNat]).length = 1 := by split <;> rfl
    omega
  rw [if_neg k6]
  by_cases k7 : o.kind = 7
  · rw [if_pos k7]
    show 1 ≤ 200; decide
  rw [if_neg k7]
  by_cases k8 : o.kind = 8
  · rw [if_pos k8]
    have := mute_le R o.source.toNat true; omega
  rw [if_neg k8]
  by_cases k9 : o.kind = 9
  · rw [if_pos k9]
    have := mute_le R o.source.toNat false; omega
  rw [if_neg k9]
  by_cases k10 : o.kind = 10
  · rw [if_pos k10]
    show 1 ≤ 200; decide
  rw [if_neg k10]
  by_cases k11 : o.kind = 11
  · rw [if_pos k11]
    dsimp only
    rw [List.length_cons]
    exact Nat.le_trans (Nat.succ_le_succ (waits_le _ _ _)) (by decide)
  rw [if_neg k11]
  by_cases k12 : o.kind = 12
  · rw [if_pos k12]
    dsimp only
    rw [List.length_cons]
    exact Nat.le_trans (Nat.succ_le_succ (waits_le _ _ _)) (by decide)
  rw [if_neg k12]
  exact Nat.zero_le _
theorem goneAll_len (peer : Int) : ∀ (l : List Int) (R : Room), (goneAll peer l R).1.1.length ≤ 18 * l.length
  | [], R => Nat.le_refl _
  | x :: l, R => by
    have ih := goneAll_len peer l (goneOp R peer x).1.2
    have h1 := goneOp_len R peer x
    unfold goneAll
    show ((goneOp R peer x).1.1 ++ _).length ≤ _
    rw [List.length_append, List.length_cons]
    omega
theorem itemDo_len (R : Room) (peer : Int) {i : Itm} (hi : ItmOk i) : (itemDo R peer i).1.1.length ≤ 3000 := by
  unfold itemDo
  split
  · exact Nat.zero_le _
  split
  · exact Nat.zero_le _
  split
  · have := goneAll_len peer i.gone R
    have hg := hi.g
    omega
  · exact Nat.zero_le _
theorem itemsDo_len (peer : Int) : ∀ (l : List Itm) (R : Room), (∀ i ∈ l, ItmOk i) → (itemsDo peer l R).1.1.length ≤ 3000 * l.length
  | [], R, hi => Nat.le_refl _
  | x :: l, R, hi => by
    have h1 := itemDo_len R peer (hi x (List.mem_cons_self ..))
    have ih := itemsDo_len peer l (itemDo R peer x).1.2 (fun i h => hi i (List.mem_cons_of_mem _ h))
    unfold itemsDo
    show ((itemDo R peer x).1.1 ++ _).length ≤ _
    rw [List.length_append, List.length_cons]
    omega
theorem datagram_len (R : Room) (ep p : Int) (l : List UInt8) : (datagram R ep p l).1.1.turns.length ≤ 24000 := by
  unfold datagram
  by_cases h1 : (sift l).2 ≠ 0
  · rw [if_pos h1]; exact Nat.zero_le _
  rw [if_neg h1]
  by_cases h2 : (!joined R p) = true
  · rw [if_pos h2]; exact Nat.zero_le _
  rw [if_neg h2]
  by_cases h3 : 192 ≤ at8 l 1 ∧ at8 l 1 ≤ 223
  · rw [sift_feed h3 (by omega)]
    have hk := itemsGet_ok l
    have := itemsDo_len p (itemsGet l).1 R hk.1
    show (itemsDo p (itemsGet l).1 R).1.1.length ≤ 24000
    omega
  · obtain ⟨P, d, hp⟩ := sift_media h3 (by omega)
    rw [hp]
    dsimp only
    unfold mediaT
    split <;> exact Nat.zero_le _
theorem take_len (R : Room) (ep : Int) (o : Rm.Op) (l : List UInt8) (sv : Value) : (take R ep o l sv).1.1.turns.length ≤ 24000 := by
  unfold take
  split
  · exact datagram_len _ _ _ _
  split
  · exact Nat.zero_le _
  · rename_i h
    show (doo R o sv).1.1.length ≤ 24000
    unfold doo
    split
    · exact Nat.zero_le _
    · have := turns_le R o sv
      exact Nat.le_trans this (by decide)
theorem takenAt_len (L : List OpB) (k : Nat) : (takenAt L k).turns.length ≤ 24000 := by
  unfold takenAt
  split
  · exact Nat.zero_le _
  · exact take_len _ _ _ _ _
theorem livesTo_len (L : List OpB) (n : Int) : ∀ k, (livesTo L n k).length ≤ 24000 * k
  | 0 => Nat.le_refl _
  | k + 1 => by
    have ih := livesTo_len L n k
    have h1 := livesOf_len n k (takenAt L k).turns (livesTo L n k)
    have h2 := takenAt_len L k
    show (livesOf n k (livesTo L n k) (takenAt L k).turns).length ≤ _
    omega
def medsTo (L : List OpB) (k : Nat) : List (Pkt × Dsc) := (List.range k).map fun j => ((takenAt L j).pkt, (takenAt L j).dsc)
theorem medsTo_succ (L : List OpB) (k : Nat) : medsTo L (k + 1) = medsTo L k ++ [((takenAt L k).pkt, (takenAt L k).dsc)] := by unfold medsTo; rw [List.range_succ, List.map_append]; rfl
theorem medsTo_len (L : List OpB) (k : Nat) : (medsTo L k).length = k := by unfold medsTo; rw [List.length_map, List.length_range]
end Go.Proofs.By
