/- Several texts in one: The walk of front.Take. The walks of the law's own functions begin, packet; front.Take of what is no feedback. What feedback holds and what it does, in bounds. Plain. -/
import Derived.Deep.DeepCutAuto
import Derived.Deep.CutBlock
import Derived.Test.YtpdjhlcbcomdkaaGreatDoorK02
import Derived.Test.YtpdjhlcbcomdkaaGreatDoorK04
import Derived.Test.YtpdjhlcbcomdkaaGreatDoorK09
import Derived.Test.YtpdjhlcbcomdkaaGreatDoorK12
import Derived.Test.YtpdjhlcbcomdkaaGreatDoorK13
import Derived.Test.YtpdjhlcbcomdkaaGreatDoorK15
set_option linter.unusedSimpArgs false
namespace Go.Proofs.By
open Go.RowKit Go.Proofs.Heap
open Go.Proofs.Rm (TurnRow Turn Room RoomAt Inv doo u32s)
open Go.Proofs.Lab (Tabs)
open Go.Proofs.Mem
def admAgg (a : Adm) : Value := .agg #[.int .i64 a.kind, .int .i64 a.source, .int .i64 a.epoch, .int .i64 a.err]
def FTakePost (f d b : Nat) (F : Frnt) (o : Rm.Op) (l : List UInt8) (w : World) (e : Ending) (w' : World) : Prop :=
  ∃ sv, e = .returned (admAgg (F.take o l sv).1.adm) ∧ FrontAt w' f d b (F.take o l sv).2 ∧ Fr w.heap.size (fun k => k = b ∨ k = d ∨ k = f) w w'
/-- Behind door.Take: what was taken lies in k. -/
structure FM (w1 wx : World) (d b k : Nat) (cs : List Value) (T : (Taken × Room) × Int) : Prop where
  fr : Fr w1.heap.size (fun j => j = b ∨ j = d) w1 wx
  blk : wx.heap[k]? = some (.cells cs.toArray 100 (0, 0))
  tk : TakenIn wx cs T.1.1
  door : DoorAt wx d b T.1.2 T.2
  klt : w1.heap.size ≤ k
theorem DoorAt.fr {w w' : World} {g b : Nat} {R : Room} {ep : Int} {S : Nat → Prop} (h : DoorAt w g b R ep) (hf : Fr w.heap.size S w w') (hd : ¬ S g) (hb : ¬ S b) (hS : ∀ k c fr, S k → w.heap[k]? ≠ some (.cells c 66 fr)) : DoorAt w' g b R ep :=
  ⟨(hf.block g (hp_lt h.blk) hd).trans h.blk, h.room.fr hf (Nat.le_refl _) hb hS⟩
theorem Cnts.add_split (c : Cnts) (k u : Int) : c.add k u = { c.add k 0 with unknown := (c.add k 0).unknown + u } := by
  unfold Cnts.add
  simp
theorem FM.cells {w1 wx : World} {d b k : Nat} {cs : List Value} {T : (Taken × Room) × Int} (h : FM w1 wx d b k cs T) : (wx.cell? ⟨k, 0, none⟩ = some (.int .i64 T.1.1.adm.kind) ∧ wx.cell? ⟨k, 1, none⟩ = some (.int .i64 T.1.1.adm.source) ∧ wx.cell? ⟨k, 2, none⟩ = some (.int .i64 T.1.1.adm.epoch) ∧ wx.cell? ⟨k, 3, none⟩ = some (.int .i64 T.1.1.adm.err)) ∧ wx.cell? ⟨k, 21, none⟩ = some (.int .i64 T.1.1.unknown) := by
  obtain ⟨cv, ev, pv, iv, tv, rfl, _⟩ := h.tk.ex
  exact ⟨⟨by rw [cell_of h.blk 0]; rfl, by rw [cell_of h.blk 1]; rfl, by rw [cell_of h.blk 2]; rfl, by rw [cell_of h.blk 3]; rfl⟩, by rw [cell_of h.blk 21]; rfl⟩
theorem fm_before {w1 w2 : World} {d b : Nat} {cs : List Value} {T : (Taken × Room) × Int} {k : Nat} (h1 : Fr w1.heap.size (fun j => j = b ∨ j = d) w1 w2) (h2 : TakenIn w2 cs T.1.1) (h3 : DoorAt w2 d b T.1.2 T.2) {c : Array Value} (hk : w2.heap[k]? = some (.cells c 100 (0, 0))) (hkl : w1.heap.size ≤ k) (hkd : d ≠ k) (hkb : b ≠ k) : FM w1 (w2.setRow k cs.toArray) d b k cs T :=
  ⟨fr_setRow' h1 hkl _, setRow_heap _ _ _ _ _ _ hk, h2.setRow hk _, h3.setRow hk hkd hkb _, hkl⟩
set_option maxRecDepth 100000 in
set_option maxHeartbeats 4000000 in
theorem FTake_any (f d b : Nat) (F : Frnt) (kd p n q : Int) (nm : List UInt8) (ss : List Int) (sa ba : Option Addr) (sc bl bc : Nat) (l : List UInt8) (w : World) (hF : FrontAt w f d b F) (hc : F.c.Below 1000000000)
    (hu : ∀ sv, 0 ≤ (take F.R F.ep ⟨kd, p, n, q, nm, ss⟩ l sv).1.1.unknown ∧ (take F.R F.ep ⟨kd, p, n, q, nm, ss⟩ l sv).1.1.unknown ≤ 1000000000)
    (ht : ∀ w', Below w.heap.size w w' → Calls Tryz.prog 44 #[.pointer (some ⟨d, 0, none⟩), .agg #[.int .i64 kd, .int .i64 p, .int .i64 n, .int .i64 q, .string (str nm), .slice sa ss.length sc, .slice ba bl bc]] w' (TakePost d b F.R F.ep ⟨kd, p, n, q, nm, ss⟩ l w')) :
    Calls Tryz.prog 18 #[.pointer (some ⟨f, 0, none⟩), .agg #[.int .i64 kd, .int .i64 p, .int .i64 n, .int .i64 q, .string (str nm), .slice sa ss.length sc, .slice ba bl bc]] w (FTakePost f d b F ⟨kd, p, n, q, nm, ss⟩ l w) := by
  have hfl := hp_lt hF.blk
  have hdl := hp_lt hF.door.blk
  have hbl := hF.door.room.lt
  obtain ⟨hfd, hfb, hdb⟩ := hF.ne
  have hxb : ((w.alloc (.cells #[.int .i64 kd, .int .i64 p, .int .i64 n, .int .i64 q, .string (str nm), .slice sa ss.length sc, .slice ba bl bc] 32)).alloc (.cells #[.int .i64 0, .int .i64 0, .int .i64 0, .int .i64 0] 35)).heap[w.heap.size]? = some (.cells #[.int .i64 kd, .int .i64 p, .int .i64 n, .int .i64 q, .string (str nm), .slice sa ss.length sc, .slice ba bl bc] 32 (0, 0)) := by
    rw [(below_alloc _ _).block _ (by show _ < (w.heap.push _).size; rw [Array.size_push]; exact Nat.lt_succ_self _)]
    exact heap_new w _
  have hz : ((w.alloc (.cells #[.int .i64 kd, .int .i64 p, .int .i64 n, .int .i64 q, .string (str nm), .slice sa ss.length sc, .slice ba bl bc] 32)).alloc (.cells #[.int .i64 0, .int .i64 0, .int .i64 0, .int .i64 0] 35)).heap[w.heap.size + 1]? = some (.cells #[.int .i64 0, .int .i64 0, .int .i64 0, .int .i64 0] 35 (0, 0)) := by
    have h := heap_new (w.alloc (.cells #[.int .i64 kd, .int .i64 p, .int .i64 n, .int .i64 q, .string (str nm), .slice sa ss.length sc, .slice ba bl bc] 32)) (.cells #[.int .i64 0, .int .i64 0, .int .i64 0, .int .i64 0] 35)
    have e : (w.alloc (.cells #[.int .i64 kd, .int .i64 p, .int .i64 n, .int .i64 q, .string (str nm), .slice sa ss.length sc, .slice ba bl bc] 32)).heap.size = w.heap.size + 1 := by show (w.heap.push _).size = _; rw [Array.size_push]
    rw [e] at h
    exact h
  have hbw : Below w.heap.size w ((w.alloc (.cells #[.int .i64 kd, .int .i64 p, .int .i64 n, .int .i64 q, .string (str nm), .slice sa ss.length sc, .slice ba bl bc] 32)).alloc (.cells #[.int .i64 0, .int .i64 0, .int .i64 0, .int .i64 0] 35)) := bel_alloc (below_alloc w _) (Nat.le_refl _) _
  have HF1 : Hid (FrontAt ((w.alloc (.cells #[.int .i64 kd, .int .i64 p, .int .i64 n, .int .i64 q, .string (str nm), .slice sa ss.length sc, .slice ba bl bc] 32)).alloc (.cells #[.int .i64 0, .int .i64 0, .int .i64 0, .int .i64 0] 35)) f d b F) := hF.below hbw
  have HT : Hid (∀ w', Below ((w.alloc (.cells #[.int .i64 kd, .int .i64 p, .int .i64 n, .int .i64 q, .string (str nm), .slice sa ss.length sc, .slice ba bl bc] 32)).alloc (.cells #[.int .i64 0, .int .i64 0, .int .i64 0, .int .i64 0] 35)).heap.size ((w.alloc (.cells #[.int .i64 kd, .int .i64 p, .int .i64 n, .int .i64 q, .string (str nm), .slice sa ss.length sc, .slice ba bl bc] 32)).alloc (.cells #[.int .i64 0, .int .i64 0, .int .i64 0, .int .i64 0] 35)) w' → Calls Tryz.prog 44 #[.pointer (some ⟨d, 0, none⟩), .agg #[.int .i64 kd, .int .i64 p, .int .i64 n, .int .i64 q, .string (str nm), .slice sa ss.length sc, .slice ba bl bc]] w' (TakePost d b F.R F.ep ⟨kd, p, n, q, nm, ss⟩ l w')) := fun w' h => ht w' (hbw.trans (h.mono hbw.size))
  have HXB := Lib.hid hxb
  have HZ := Lib.hid hz
  have HBW := Lib.hid hbw
  have HU := Lib.hid hu
  have HC := Lib.hid hc
  clear hF ht hxb hz hbw hu hc
  have HFT : Hid (∀ sv, F.take ⟨kd, p, n, q, nm, ss⟩ l sv = ((take F.R F.ep ⟨kd, p, n, q, nm, ss⟩ l sv).1.1, ⟨(take F.R F.ep ⟨kd, p, n, q, nm, ss⟩ l sv).1.2, (take F.R F.ep ⟨kd, p, n, q, nm, ss⟩ l sv).2, F.c.add (take F.R F.ep ⟨kd, p, n, q, nm, ss⟩ l sv).1.1.adm.kind (take F.R F.ep ⟨kd, p, n, q, nm, ss⟩ l sv).1.1.unknown⟩)) := fun sv => rfl
  have HPOST : Hid (∀ e w', (∃ sv, e = .returned (admAgg (F.take ⟨kd, p, n, q, nm, ss⟩ l sv).1.adm) ∧ FrontAt w' f d b (F.take ⟨kd, p, n, q, nm, ss⟩ l sv).2 ∧ Fr w.heap.size (fun k => k = b ∨ k = d ∨ k = f) w w') → FTakePost f d b F ⟨kd, p, n, q, nm, ss⟩ l w e w') := fun e w' h => h
  generalize FTakePost f d b F ⟨kd, p, n, q, nm, ss⟩ l w = FP at *
  go_enter Tryz.func18, Tryz.ntmps18
  go_upto_region 1 with fail
  have hs1 : ((w.alloc (.cells #[.int .i64 kd, .int .i64 p, .int .i64 n, .int .i64 q, .string (str nm), .slice sa ss.length sc, .slice ba bl bc] 32)).alloc (.cells #[.int .i64 0, .int .i64 0, .int .i64 0, .int .i64 0] 35)).heap.size = w.heap.size + 2 := by show ((w.heap.push _).push _).size = _; rw [Array.size_push, Array.size_push]
  generalize ((w.alloc (.cells #[.int .i64 kd, .int .i64 p, .int .i64 n, .int .i64 q, .string (str nm), .slice sa ss.length sc, .slice ba bl bc] 32)).alloc (.cells #[.int .i64 0, .int .i64 0, .int .i64 0, .int .i64 0] 35)) = w1 at *
  have cf0 : w1.cell? ⟨f, 0, none⟩ = some (.pointer (some ⟨d, 0, none⟩)) := cell_of HF1.out.blk 0
  have KEEP : Hid (∀ w', Fr w1.heap.size (fun j => j = b ∨ j = d) w1 w' → w'.cell? ⟨f, 0, none⟩ = some (.pointer (some ⟨d, 0, none⟩)) ∧ w'.cell? ⟨w.heap.size, 0, none⟩ = some (.int .i64 kd) ∧ w'.cell? ⟨w.heap.size, 1, none⟩ = some (.int .i64 p) ∧ w'.cell? ⟨w.heap.size, 2, none⟩ = some (.int .i64 n) ∧ w'.cell? ⟨w.heap.size, 3, none⟩ = some (.int .i64 q) ∧ w'.cell? ⟨w.heap.size, 4, none⟩ = some (.string (str nm)) ∧ w'.cell? ⟨w.heap.size, 5, none⟩ = some (.slice sa ss.length sc) ∧ w'.cell? ⟨w.heap.size, 6, none⟩ = some (.slice ba bl bc)) := fun w' h =>
    ⟨by rw [cell_of ((h.block f (by omega) (by omega)).trans HF1.out.blk) 0]; rfl, by rw [cell_of ((h.block w.heap.size (by omega) (by omega)).trans HXB.out) 0]; rfl, by rw [cell_of ((h.block w.heap.size (by omega) (by omega)).trans HXB.out) 1]; rfl, by rw [cell_of ((h.block w.heap.size (by omega) (by omega)).trans HXB.out) 2]; rfl, by rw [cell_of ((h.block w.heap.size (by omega) (by omega)).trans HXB.out) 3]; rfl, by rw [cell_of ((h.block w.heap.size (by omega) (by omega)).trans HXB.out) 4]; rfl, by rw [cell_of ((h.block w.heap.size (by omega) (by omega)).trans HXB.out) 5]; rfl, by rw [cell_of ((h.block w.heap.size (by omega) (by omega)).trans HXB.out) 6]; rfl⟩
  go_upto_region 3 with fail
  go_cut [5] (fun t5 wx => ∃ (k : Nat) (cs : List Value) (sv : Value), t5 = .pointer (some ⟨k, 0, none⟩) ∧ FM w1 wx d b k cs (take F.R F.ep ⟨kd, p, n, q, nm, ss⟩ l sv))
  case first =>
    refine wp_region_noPanic ?_
    refine wp_region_held_drew (S := (fun w' => w'.cell? ⟨f, 0, none⟩ = some (.pointer (some ⟨d, 0, none⟩)) ∧ w'.cell? ⟨w.heap.size, 0, none⟩ = some (.int .i64 kd) ∧ w'.cell? ⟨w.heap.size, 1, none⟩ = some (.int .i64 p) ∧ w'.cell? ⟨w.heap.size, 2, none⟩ = some (.int .i64 n) ∧ w'.cell? ⟨w.heap.size, 3, none⟩ = some (.int .i64 q) ∧ w'.cell? ⟨w.heap.size, 4, none⟩ = some (.string (str nm)) ∧ w'.cell? ⟨w.heap.size, 5, none⟩ = some (.slice sa ss.length sc) ∧ w'.cell? ⟨w.heap.size, 6, none⟩ = some (.slice ba bl bc))) (by kernel_rfl) ?_ (fun hHeld0 => ?_)
    · (try dsimp only)
      exact KEEP.out _ (Fr.of_below _ (Below.refl _ _).drew)
    refine wpAnyH_take (i := 0) (v := ?_) rfl (by kernel_rfl) (by kernel_rfl) (by kernel_rfl) (fun _ _ _ h => h) (Or.inl ⟨by rfl, ?_⟩) (by assumption) ?_
    rotate_left
    · intro w hSw
      (try dsimp only at hSw)
      go_simp
      try with_reducible rfl
    try simp only [List.getElem_toArray, List.getElem_cons_succ, List.getElem_cons_zero, Act.put, List.setIfInBounds_toArray, List.set_cons_zero, List.set_cons_succ]
    refine wpAnyH_take (i := 1) (v := ?_) rfl (by kernel_rfl) (by kernel_rfl) (by kernel_rfl) (fun _ _ _ h => h) (Or.inl ⟨by rfl, ?_⟩) (by assumption) ?_
    rotate_left
    · intro w hSw
      (try dsimp only at hSw)
      go_simp
      try with_reducible rfl
    try simp only [List.getElem_toArray, List.getElem_cons_succ, List.getElem_cons_zero, Act.put, List.setIfInBounds_toArray, List.set_cons_zero, List.set_cons_succ]
    refine wpAnyH_take (i := 2) (v := ?_) rfl (by kernel_rfl) (by kernel_rfl) (by kernel_rfl) (fun _ _ _ h => h) (Or.inl ⟨by rfl, ?_⟩) (by assumption) ?_
    rotate_left
    · intro w hSw
      (try dsimp only at hSw)
      go_simp
      try with_reducible rfl
    try simp only [List.getElem_toArray, List.getElem_cons_succ, List.getElem_cons_zero, Act.put, List.setIfInBounds_toArray, List.set_cons_zero, List.set_cons_succ]
    refine wpAnyH_take (i := 3) (v := ?_) rfl (by kernel_rfl) (by kernel_rfl) (by kernel_rfl) (fun _ _ _ h => h) (Or.inl ⟨by rfl, ?_⟩) (by assumption) ?_
    rotate_left
    · intro w hSw
      (try dsimp only at hSw)
      go_simp
      try with_reducible rfl
    try simp only [List.getElem_toArray, List.getElem_cons_succ, List.getElem_cons_zero, Act.put, List.setIfInBounds_toArray, List.set_cons_zero, List.set_cons_succ]
    refine wpAnyH_take (i := 4) (v := ?_) rfl (by kernel_rfl) (by kernel_rfl) (by kernel_rfl) (fun _ _ _ h => h) (Or.inl ⟨by rfl, ?_⟩) (by assumption) ?_
    rotate_left
    · intro w hSw
      (try dsimp only at hSw)
      go_simp
      try with_reducible rfl
    try simp only [List.getElem_toArray, List.getElem_cons_succ, List.getElem_cons_zero, Act.put, List.setIfInBounds_toArray, List.set_cons_zero, List.set_cons_succ]
    refine wpAnyH_ready (rs := [5, 6]) (by kernel_rfl) (by simp) ?_
    refine AllReadyH.cons (i := 5) rfl (fun K hK => ?_) ?_
    · skip
      go_simp
      first | refine (HT.out _ (Below.refl _ _).drew).mono ?_ | refine (HT.out _ (below_alloc _ _).drew).mono ?_
      rintro e w2 ⟨sv, ⟨cs, rfl, htk⟩, hd2, hf2⟩
      go_wp2_with fail
      have hi := tk_info htk
      have hold := tk_hold htk
      have hone := htk.one
      have HTK := Lib.hid htk
      have HD2 := Lib.hid hd2
      have HF2 : Hid (Fr w1.heap.size (fun j => j = b ∨ j = d) w1 w2) := by first | exact (Fr.of_below _ (Below.refl w1.heap.size w1).drew).trans hf2 | exact (Fr.of_below _ (below_alloc w1 (.cells #[.int .i64 0, .int .i64 0, .int .i64 0, .int .i64 0, .bool false, .int .i64 0, .int .u16 0, .int .u32 0, .int .u32 0, .slice none 0 0, .bool false, .int .u16 0, .slice none 0 0, .slice none 0 0, .int .i64 0, .int .i64 0, .bool false, .bool false, .int .u16 0, .slice none 0 0, .slice none 0 0, .int .i64 0] 100)).drew).trans (hf2.mono (by show _ ≤ (w1.heap.push _).size; rw [Array.size_push]; exact Nat.le_succ _) (fun _ _ h => h))
      try (have hkB : w2.heap[w.heap.size + 2]? = some (.cells #[.int .i64 0, .int .i64 0, .int .i64 0, .int .i64 0, .bool false, .int .i64 0, .int .u16 0, .int .u32 0, .int .u32 0, .slice none 0 0, .bool false, .int .u16 0, .slice none 0 0, .slice none 0 0, .int .i64 0, .int .i64 0, .bool false, .bool false, .int .u16 0, .slice none 0 0, .slice none 0 0, .int .i64 0] 100 (0, 0)) := by rw [← hs1]; exact (hf2.block w1.heap.size (by show _ < (w1.heap.push _).size; rw [Array.size_push]; exact Nat.lt_succ_self _) (by omega)).trans (heap_new w1 _))
      have hs2 := HF2.out.size
      clear htk hd2 hf2
      refine hK.out _ _ ?_ (fun hHeld1 => ?_)
      · (try dsimp only)
        first | exact KEEP.out _ (Fr.of_below _ (Below.refl _ _).drew) | exact KEEP.out _ (Fr.of_below _ (below_alloc _ _).drew) | exact KEEP.out _ HF2.out | exact KEEP.out _ (HF2.out.alloc hs2 _) | exact KEEP.out _ (fr_setRow' HF2.out (by omega) _) | exact KEEP.out _ (fr_setRow' (HF2.out.alloc hs2 _) hs2 _)
      clear hK K
      try simp only [List.getElem_toArray, List.getElem_cons_succ, List.getElem_cons_zero, Act.put, List.setIfInBounds_toArray, List.set_cons_zero, List.set_cons_succ]
      refine wpAnyH_ready (rs := [6]) (by kernel_rfl) (by simp) ?_
      refine AllReadyH.cons (i := 6) rfl (fun K hK => ?_) AllReadyH.nil
      go_simp
      refine hK.out _ _ ?_ (fun hHeld2 => ?_)
      · (try dsimp only)
        first | exact KEEP.out _ (Fr.of_below _ (Below.refl _ _).drew) | exact KEEP.out _ (Fr.of_below _ (below_alloc _ _).drew) | exact KEEP.out _ HF2.out | exact KEEP.out _ (HF2.out.alloc hs2 _) | exact KEEP.out _ (fr_setRow' HF2.out (by omega) _) | exact KEEP.out _ (fr_setRow' (HF2.out.alloc hs2 _) hs2 _)
      clear hK K
      try simp only [List.getElem_toArray, List.getElem_cons_succ, List.getElem_cons_zero, Act.put, List.setIfInBounds_toArray, List.set_cons_zero, List.set_cons_succ]
      refine wpAnyH_ready (rs := [7]) (by kernel_rfl) (by simp) ?_
      refine AllReadyH.cons (i := 7) rfl (fun K hK => ?_) AllReadyH.nil
      first | refine step_row (by rfl) 100 (.tmp 5) (.tmp 14) (by rfl) (by rfl) w2.heap.size cs.toArray (by rfl) (by rfl) 100 #[.int .i64 0, .int .i64 0, .int .i64 0, .int .i64 0, .bool false, .int .i64 0, .int .u16 0, .int .u32 0, .int .u32 0, .slice none 0 0, .bool false, .int .u16 0, .slice none 0 0, .slice none 0 0, .int .i64 0, .int .i64 0, .bool false, .bool false, .int .u16 0, .slice none 0 0, .slice none 0 0, .int .i64 0] (heap_new w2 _) hi hold hone ?_ | refine step_row (by rfl) 100 (.tmp 5) (.tmp 14) (by rfl) (by rfl) (w.heap.size + 2) cs.toArray (by rfl) (by rfl) 100 #[.int .i64 0, .int .i64 0, .int .i64 0, .int .i64 0, .bool false, .int .i64 0, .int .u16 0, .int .u32 0, .int .u32 0, .slice none 0 0, .bool false, .int .u16 0, .slice none 0 0, .slice none 0 0, .int .i64 0, .int .i64 0, .bool false, .bool false, .int .u16 0, .slice none 0 0, .slice none 0 0, .int .i64 0] hkB hi hold hone ?_
      refine hK.out _ _ ?_ (fun hHeld3 => ?_)
      · (try dsimp only)
        first | exact KEEP.out _ (Fr.of_below _ (Below.refl _ _).drew) | exact KEEP.out _ (Fr.of_below _ (below_alloc _ _).drew) | exact KEEP.out _ HF2.out | exact KEEP.out _ (HF2.out.alloc hs2 _) | exact KEEP.out _ (fr_setRow' HF2.out (by omega) _) | exact KEEP.out _ (fr_setRow' (HF2.out.alloc hs2 _) hs2 _)
      clear hK K
      try simp only [List.getElem_toArray, List.getElem_cons_succ, List.getElem_cons_zero, Act.put, List.setIfInBounds_toArray, List.set_cons_zero, List.set_cons_succ]
      refine wpAnyH_done (by kernel_rfl) ?_ _
      refine NoPanic.normal ?_
      go_wp2_with fail
      go_meet
      first | exact ⟨w2.heap.size, cs, sv, rfl, fm_before (HF2.out.alloc hs2 _) (HTK.out.below (below_alloc _ _)) (HD2.out.below (below_alloc _ _)) (heap_new w2 _) hs2 (by omega) (by omega)⟩ | exact ⟨w.heap.size + 2, cs, sv, rfl, fm_before HF2.out HTK.out HD2.out hkB (by omega) (by omega) (by omega)⟩
    refine AllReadyH.cons (i := 6) rfl (fun K hK => ?_) AllReadyH.nil
    go_simp
    refine hK.out _ _ ?_ (fun hHeld4 => ?_)
    · (try dsimp only)
      first | exact KEEP.out _ (Fr.of_below _ (Below.refl _ _).drew) | exact KEEP.out _ (Fr.of_below _ (below_alloc _ _).drew) | exact KEEP.out _ HF2.out | exact KEEP.out _ (HF2.out.alloc hs2 _) | exact KEEP.out _ (fr_setRow' HF2.out (by omega) _) | exact KEEP.out _ (fr_setRow' (HF2.out.alloc hs2 _) hs2 _)
    clear hK K
    try simp only [List.getElem_toArray, List.getElem_cons_succ, List.getElem_cons_zero, Act.put, List.setIfInBounds_toArray, List.set_cons_zero, List.set_cons_succ]
    refine wpAnyH_ready (rs := [5]) (by kernel_rfl) (by simp) ?_
    refine AllReadyH.cons (i := 5) rfl (fun K hK => ?_) AllReadyH.nil
    go_simp
    first | refine (HT.out _ (Below.refl _ _).drew).mono ?_ | refine (HT.out _ (below_alloc _ _).drew).mono ?_
    rintro e w2 ⟨sv, ⟨cs, rfl, htk⟩, hd2, hf2⟩
    go_wp2_with fail
    have hi := tk_info htk
    have hold := tk_hold htk
    have hone := htk.one
    have HTK := Lib.hid htk
    have HD2 := Lib.hid hd2
    have HF2 : Hid (Fr w1.heap.size (fun j => j = b ∨ j = d) w1 w2) := by first | exact (Fr.of_below _ (Below.refl w1.heap.size w1).drew).trans hf2 | exact (Fr.of_below _ (below_alloc w1 (.cells #[.int .i64 0, .int .i64 0, .int .i64 0, .int .i64 0, .bool false, .int .i64 0, .int .u16 0, .int .u32 0, .int .u32 0, .slice none 0 0, .bool false, .int .u16 0, .slice none 0 0, .slice none 0 0, .int .i64 0, .int .i64 0, .bool false, .bool false, .int .u16 0, .slice none 0 0, .slice none 0 0, .int .i64 0] 100)).drew).trans (hf2.mono (by show _ ≤ (w1.heap.push _).size; rw [Array.size_push]; exact Nat.le_succ _) (fun _ _ h => h))
    try (have hkB : w2.heap[w.heap.size + 2]? = some (.cells #[.int .i64 0, .int .i64 0, .int .i64 0, .int .i64 0, .bool false, .int .i64 0, .int .u16 0, .int .u32 0, .int .u32 0, .slice none 0 0, .bool false, .int .u16 0, .slice none 0 0, .slice none 0 0, .int .i64 0, .int .i64 0, .bool false, .bool false, .int .u16 0, .slice none 0 0, .slice none 0 0, .int .i64 0] 100 (0, 0)) := by rw [← hs1]; exact (hf2.block w1.heap.size (by show _ < (w1.heap.push _).size; rw [Array.size_push]; exact Nat.lt_succ_self _) (by omega)).trans (heap_new w1 _))
    have hs2 := HF2.out.size
    clear htk hd2 hf2
    refine hK.out _ _ ?_ (fun hHeld5 => ?_)
    · (try dsimp only)
      first | exact KEEP.out _ (Fr.of_below _ (Below.refl _ _).drew) | exact KEEP.out _ (Fr.of_below _ (below_alloc _ _).drew) | exact KEEP.out _ HF2.out | exact KEEP.out _ (HF2.out.alloc hs2 _) | exact KEEP.out _ (fr_setRow' HF2.out (by omega) _) | exact KEEP.out _ (fr_setRow' (HF2.out.alloc hs2 _) hs2 _)
    clear hK K
    try simp only [List.getElem_toArray, List.getElem_cons_succ, List.getElem_cons_zero, Act.put, List.setIfInBounds_toArray, List.set_cons_zero, List.set_cons_succ]
    refine wpAnyH_ready (rs := [7]) (by kernel_rfl) (by simp) ?_
    refine AllReadyH.cons (i := 7) rfl (fun K hK => ?_) AllReadyH.nil
    first | refine step_row (by rfl) 100 (.tmp 5) (.tmp 14) (by rfl) (by rfl) w2.heap.size cs.toArray (by rfl) (by rfl) 100 #[.int .i64 0, .int .i64 0, .int .i64 0, .int .i64 0, .bool false, .int .i64 0, .int .u16 0, .int .u32 0, .int .u32 0, .slice none 0 0, .bool false, .int .u16 0, .slice none 0 0, .slice none 0 0, .int .i64 0, .int .i64 0, .bool false, .bool false, .int .u16 0, .slice none 0 0, .slice none 0 0, .int .i64 0] (heap_new w2 _) hi hold hone ?_ | refine step_row (by rfl) 100 (.tmp 5) (.tmp 14) (by rfl) (by rfl) (w.heap.size + 2) cs.toArray (by rfl) (by rfl) 100 #[.int .i64 0, .int .i64 0, .int .i64 0, .int .i64 0, .bool false, .int .i64 0, .int .u16 0, .int .u32 0, .int .u32 0, .slice none 0 0, .bool false, .int .u16 0, .slice none 0 0, .slice none 0 0, .int .i64 0, .int .i64 0, .bool false, .bool false, .int .u16 0, .slice none 0 0, .slice none 0 0, .int .i64 0] hkB hi hold hone ?_
    refine hK.out _ _ ?_ (fun hHeld6 => ?_)
    · (try dsimp only)
      first | exact KEEP.out _ (Fr.of_below _ (Below.refl _ _).drew) | exact KEEP.out _ (Fr.of_below _ (below_alloc _ _).drew) | exact KEEP.out _ HF2.out | exact KEEP.out _ (HF2.out.alloc hs2 _) | exact KEEP.out _ (fr_setRow' HF2.out (by omega) _) | exact KEEP.out _ (fr_setRow' (HF2.out.alloc hs2 _) hs2 _)
    clear hK K
    try simp only [List.getElem_toArray, List.getElem_cons_succ, List.getElem_cons_zero, Act.put, List.setIfInBounds_toArray, List.set_cons_zero, List.set_cons_succ]
    refine wpAnyH_done (by kernel_rfl) ?_ _
    refine NoPanic.normal ?_
    go_wp2_with fail
    go_meet
    first | exact ⟨w2.heap.size, cs, sv, rfl, fm_before (HF2.out.alloc hs2 _) (HTK.out.below (below_alloc _ _)) (HD2.out.below (below_alloc _ _)) (heap_new w2 _) hs2 (by omega) (by omega)⟩ | exact ⟨w.heap.size + 2, cs, sv, rfl, fm_before HF2.out HTK.out HD2.out hkB (by omega) (by omega) (by omega)⟩
  case rest =>
    obtain ⟨wx, rfl⟩ : ∃ W : World, W = wc := ⟨_, rfl⟩
    obtain ⟨k, cs, sv, rfl, hfm⟩ := hcut
    have HU1 := Lib.hid (HU.out sv)
    have HFT1 := Lib.hid (HFT.out sv)
    clear HU HFT HT KEEP cf0
    generalize take F.R F.ep ⟨kd, p, n, q, nm, ss⟩ l sv = T at *
    obtain ⟨⟨q0, q1, q2, q3⟩, q21⟩ := hfm.cells
    have HFM := Lib.hid hfm
    have hkl := hfm.klt
    have hks : k < wx.heap.size := hp_lt hfm.blk
    have hbf : wx.heap[f]? = some (.cells (fcells d F.c) 90 (0, 0)) := (hfm.fr.block f (by omega) (by omega)).trans HF1.out.blk
    have hz1 : wx.heap[w.heap.size + 1]? = some (.cells #[.int .i64 0, .int .i64 0, .int .i64 0, .int .i64 0] 35 (0, 0)) := (hfm.fr.block _ (by omega) (by omega)).trans HZ.out
    have cb1 : wx.cell? ⟨f, 1, none⟩ = some (.int .i64 F.c.bad) := cell_of hbf 1
    have cb2 : wx.cell? ⟨f, 2, none⟩ = some (.int .i64 F.c.stranger) := cell_of hbf 2
    have cb3 : wx.cell? ⟨f, 3, none⟩ = some (.int .i64 F.c.unknown) := cell_of hbf 3
    have cb4 : wx.cell? ⟨f, 4, none⟩ = some (.int .i64 F.c.refused) := cell_of hbf 4
    have ff1 := frozen_of hbf 1
    have ff2 := frozen_of hbf 2
    have ff3 := frozen_of hbf 3
    have ff4 := frozen_of hbf 4
    obtain ⟨⟨l1, l2⟩, ⟨l3, l4⟩, ⟨l5, l6⟩, ⟨l7, l8⟩⟩ := HC.out
    have wr1 : IntKind.i64.wrap (F.c.bad + 1) = F.c.bad + 1 := IntWalk.i64_in _ (by omega)
    have wr2 : IntKind.i64.wrap (F.c.stranger + 1) = F.c.stranger + 1 := IntWalk.i64_in _ (by omega)
    have wr3 : IntKind.i64.wrap (F.c.unknown + 1) = F.c.unknown + 1 := IntWalk.i64_in _ (by omega)
    have wr4 : IntKind.i64.wrap (F.c.refused + 1) = F.c.refused + 1 := IntWalk.i64_in _ (by omega)
    clear hfm HF1 HXB HZ
    have HBF := Lib.hid hbf
    have HBFX := Lib.hid hbf
    clear hbf
    have hkf : k ≠ f := by omega
    generalize hkk : T.1.1.adm.kind = kk at *
    have HKK := Lib.hid hkk
    clear hkk
    go_upto_block 0 with fail
    go_cut [] (fun wy => ∃ c1 : Cnts, Hid (c1 = F.c.add kk 0) ∧ wy.heap[f]? = some (.cells (fcells d c1) 90 (0, 0)) ∧ Fr wx.heap.size (· = f) wx wy ∧ 0 ≤ c1.unknown ∧ c1.unknown ≤ 1000000001)
    case first =>
      by_cases k3 : kk = 3
      · subst k3
        go_wp2_with fail
        go_meet
        exact ⟨⟨F.c.bad + 1, F.c.stranger, F.c.unknown, F.c.refused⟩, by show _ = _; simp [Cnts.add], hp_set HBF.out 1 _, (Fr.refl _ _ _).setAt 1 _, l5, by show F.c.unknown ≤ _; omega⟩
      have e3 : (kk == 3) = false := by rw [beq_eq_false_iff_ne]; exact k3
      by_cases k4 : kk = 4
      · subst k4
        go_wp2_with fail
        go_meet
        exact ⟨⟨F.c.bad, F.c.stranger + 1, F.c.unknown, F.c.refused⟩, by show _ = _; simp [Cnts.add], hp_set HBF.out 2 _, (Fr.refl _ _ _).setAt 2 _, l5, by show F.c.unknown ≤ _; omega⟩
      have e4 : (kk == 4) = false := by rw [beq_eq_false_iff_ne]; exact k4
      by_cases k5 : kk = 5
      · subst k5
        go_wp2_with fail
        go_meet
        exact ⟨⟨F.c.bad, F.c.stranger, F.c.unknown + 1, F.c.refused⟩, by show _ = _; simp [Cnts.add], hp_set HBF.out 3 _, (Fr.refl _ _ _).setAt 3 _, by show 0 ≤ F.c.unknown + 1; omega, by show F.c.unknown + 1 ≤ _; omega⟩
      have e5 : (kk == 5) = false := by rw [beq_eq_false_iff_ne]; exact k5
      by_cases k6 : kk = 6
      · subst k6
        go_wp2_with fail
        go_meet
        exact ⟨⟨F.c.bad, F.c.stranger, F.c.unknown, F.c.refused + 1⟩, by show _ = _; simp [Cnts.add], hp_set HBF.out 4 _, (Fr.refl _ _ _).setAt 4 _, l5, by show F.c.unknown ≤ _; omega⟩
      have e6 : (kk == 6) = false := by rw [beq_eq_false_iff_ne]; exact k6
      go_wp2_with fail
      go_meet
      exact ⟨F.c, by show _ = _; simp [Cnts.add, k3, k4, k5, k6], HBF.out, Fr.refl _ _ _, l5, by omega⟩
    case rest =>
      obtain ⟨c1, HC1, hbf, hfr, u1, u2⟩ := hcut
      have HBF1 := Lib.hid hbf
      have HFR := Lib.hid hfr
      have cu : wc.cell? ⟨f, 3, none⟩ = some (.int .i64 c1.unknown) := cell_of hbf 3
      have fu := frozen_of hbf 3
      have p0 := (Fr.cell hfr (p := ⟨k, 0, none⟩) hks hkf).trans q0
      have p1 := (Fr.cell hfr (p := ⟨k, 1, none⟩) hks hkf).trans q1
      have p2 := (Fr.cell hfr (p := ⟨k, 2, none⟩) hks hkf).trans q2
      have p3 := (Fr.cell hfr (p := ⟨k, 3, none⟩) hks hkf).trans q3
      have p21 := (Fr.cell hfr (p := ⟨k, 21, none⟩) hks hkf).trans q21
      have hz2 := (hfr.block (w.heap.size + 1) (hp_lt hz1) (by omega)).trans hz1
      obtain ⟨v1, v2⟩ := HU1.out
      have hww : IntKind.i64.wrap (c1.unknown + T.1.1.unknown) = c1.unknown + T.1.1.unknown := IntWalk.i64_in _ (by omega)
      have hkf' : f ≠ k := fun e => hkf e.symm
      clear cb1 cb2 cb3 cb4 ff1 ff2 ff3 ff4 q0 q1 q2 q3 q21 wr1 wr2 wr3 wr4 HBF hz1 hbf hfr
      go_upto_region 13 with fail
      refine wp_region_noPanic ?_
      refine wp_region_held_drew (S := (fun w' => w'.cell? ⟨k, 21, none⟩ = some (.int .i64 T.1.1.unknown))) (by kernel_rfl) ?_ (fun hHeld0 => ?_)
      · (try dsimp only)
        exact p21
      refine wpAnyH_take (i := 0) (v := ?_) rfl (by kernel_rfl) (by kernel_rfl) (by kernel_rfl) (fun _ _ _ h => h) (Or.inl ⟨by rfl, ?_⟩) (by assumption) ?_
      rotate_left
      · intro w hSw
        (try dsimp only at hSw)
        go_simp
        try with_reducible rfl
      try simp only [List.getElem_toArray, List.getElem_cons_succ, List.getElem_cons_zero, Act.put, List.setIfInBounds_toArray, List.set_cons_zero, List.set_cons_succ]
      refine wpAnyH_take (i := 1) (v := ?_) rfl (by kernel_rfl) (by kernel_rfl) (by kernel_rfl) (fun _ _ _ h => h) (Or.inl ⟨by rfl, ?_⟩) (by assumption) ?_
      rotate_left
      · intro w hSw
        (try dsimp only at hSw)
        go_simp
        try with_reducible rfl
      try simp only [List.getElem_toArray, List.getElem_cons_succ, List.getElem_cons_zero, Act.put, List.setIfInBounds_toArray, List.set_cons_zero, List.set_cons_succ]
      refine wpAnyH_take (i := 2) (v := ?_) rfl (by kernel_rfl) (by kernel_rfl) (by kernel_rfl) (fun _ _ _ h => h) (Or.inl ⟨by rfl, ?_⟩) (by assumption) ?_
      rotate_left
      · intro w hSw
        (try dsimp only at hSw)
        go_simp
        try with_reducible rfl
      try simp only [List.getElem_toArray, List.getElem_cons_succ, List.getElem_cons_zero, Act.put, List.setIfInBounds_toArray, List.set_cons_zero, List.set_cons_succ]
      refine wpAnyH_take (i := 3) (v := ?_) rfl (by kernel_rfl) (by kernel_rfl) (by kernel_rfl) (fun _ _ _ h => h) (Or.inl ⟨by rfl, ?_⟩) (by assumption) ?_
      rotate_left
      · intro w hSw
        (try dsimp only at hSw)
        go_simp
        try with_reducible rfl
      try simp only [List.getElem_toArray, List.getElem_cons_succ, List.getElem_cons_zero, Act.put, List.setIfInBounds_toArray, List.set_cons_zero, List.set_cons_succ]
      refine wpAnyH_take (i := 5) (v := ?_) rfl (by kernel_rfl) (by kernel_rfl) (by kernel_rfl) (fun _ _ _ h => h) (Or.inl ⟨by rfl, ?_⟩) (by assumption) ?_
      rotate_left
      · intro w hSw
        (try dsimp only at hSw)
        go_simp
        try with_reducible rfl
      try simp only [List.getElem_toArray, List.getElem_cons_succ, List.getElem_cons_zero, Act.put, List.setIfInBounds_toArray, List.set_cons_zero, List.set_cons_succ]
      refine wpAnyH_take (i := 6) (v := ?_) rfl (by kernel_rfl) (by kernel_rfl) (by kernel_rfl) (fun _ _ _ h => h) (Or.inl ⟨by rfl, ?_⟩) (by assumption) ?_
      rotate_left
      · intro w hSw
        (try dsimp only at hSw)
        go_simp
        try with_reducible rfl
      try simp only [List.getElem_toArray, List.getElem_cons_succ, List.getElem_cons_zero, Act.put, List.setIfInBounds_toArray, List.set_cons_zero, List.set_cons_succ]
      refine wpAnyH_ready (rs := [4]) (by kernel_rfl) (by simp) ?_
      refine AllReadyH.cons (i := 4) rfl (fun K hK => ?_) AllReadyH.nil
      go_simp
      refine hK.out _ _ ?_ (fun hHeld1 => ?_)
      · (try dsimp only)
        first | exact p21 | exact cell_other p21 hkf
      clear hK K
      try simp only [List.getElem_toArray, List.getElem_cons_succ, List.getElem_cons_zero, Act.put, List.setIfInBounds_toArray, List.set_cons_zero, List.set_cons_succ]
      refine wpAnyH_take (i := 7) (v := ?_) rfl (by kernel_rfl) (by kernel_rfl) (by kernel_rfl) (fun _ _ _ h => h) (Or.inl ⟨by rfl, ?_⟩) (by assumption) ?_
      rotate_left
      · intro w hSw
        (try dsimp only at hSw)
        go_simp
        try with_reducible rfl
      try simp only [List.getElem_toArray, List.getElem_cons_succ, List.getElem_cons_zero, Act.put, List.setIfInBounds_toArray, List.set_cons_zero, List.set_cons_succ]
      refine wpAnyH_take (i := 8) (v := ?_) rfl (by kernel_rfl) (by kernel_rfl) (by kernel_rfl) (fun _ _ _ h => h) (Or.inl ⟨by rfl, ?_⟩) (by assumption) ?_
      rotate_left
      · intro w hSw
        (try dsimp only at hSw)
        go_simp
        try with_reducible rfl
      try simp only [List.getElem_toArray, List.getElem_cons_succ, List.getElem_cons_zero, Act.put, List.setIfInBounds_toArray, List.set_cons_zero, List.set_cons_succ]
      refine wpAnyH_take (i := 9) (v := ?_) rfl (by kernel_rfl) (by kernel_rfl) (by kernel_rfl) (fun _ _ _ h => h) (Or.inl ⟨by rfl, ?_⟩) (by assumption) ?_
      rotate_left
      · intro w hSw
        (try dsimp only at hSw)
        go_simp
        try with_reducible rfl
      try simp only [List.getElem_toArray, List.getElem_cons_succ, List.getElem_cons_zero, Act.put, List.setIfInBounds_toArray, List.set_cons_zero, List.set_cons_succ]
      refine wpAnyH_take (i := 10) (v := ?_) rfl (by kernel_rfl) (by kernel_rfl) (by kernel_rfl) (fun _ _ _ h => h) (Or.inl ⟨by rfl, ?_⟩) (by assumption) ?_
      rotate_left
      · intro w hSw
        (try dsimp only at hSw)
        go_simp
        try with_reducible rfl
      try simp only [List.getElem_toArray, List.getElem_cons_succ, List.getElem_cons_zero, Act.put, List.setIfInBounds_toArray, List.set_cons_zero, List.set_cons_succ]
      refine wpAnyH_ready (rs := [11]) (by kernel_rfl) (by simp) ?_
      refine AllReadyH.cons (i := 11) rfl (fun K hK => ?_) AllReadyH.nil
      go_simp
      refine hK.out _ _ ?_ (fun hHeld2 => ?_)
      · (try dsimp only)
        first | exact p21 | exact cell_other p21 hkf
      clear hK K
      try simp only [List.getElem_toArray, List.getElem_cons_succ, List.getElem_cons_zero, Act.put, List.setIfInBounds_toArray, List.set_cons_zero, List.set_cons_succ]
      refine wpAnyH_done (by kernel_rfl) ?_ _
      refine NoPanic.normal ?_
      clear hHeld0 hHeld1 hHeld2
      have r0 : ((wc.setCell ⟨f, 3, none⟩ (.int .i64 (c1.unknown + T.1.1.unknown))).drew).cell? ⟨k, 0, none⟩ = some (.int .i64 kk) := cell_other p0 hkf
      have r1 : ((wc.setCell ⟨f, 3, none⟩ (.int .i64 (c1.unknown + T.1.1.unknown))).drew).cell? ⟨k, 1, none⟩ = some (.int .i64 T.1.1.adm.source) := cell_other p1 hkf
      have r2 : ((wc.setCell ⟨f, 3, none⟩ (.int .i64 (c1.unknown + T.1.1.unknown))).drew).cell? ⟨k, 2, none⟩ = some (.int .i64 T.1.1.adm.epoch) := cell_other p2 hkf
      have r3 : ((wc.setCell ⟨f, 3, none⟩ (.int .i64 (c1.unknown + T.1.1.unknown))).drew).cell? ⟨k, 3, none⟩ = some (.int .i64 T.1.1.adm.err) := cell_other p3 hkf
      have y1 : ((wc.setCell ⟨f, 3, none⟩ (.int .i64 (c1.unknown + T.1.1.unknown))).drew).heap[f]? = some (.cells (fcells d { c1 with unknown := c1.unknown + T.1.1.unknown }) 90 (0, 0)) := hp_set HBF1.out 3 _
      have y2 : ((wc.setCell ⟨f, 3, none⟩ (.int .i64 (c1.unknown + T.1.1.unknown))).drew).heap[w.heap.size + 1]? = some (.cells #[.int .i64 0, .int .i64 0, .int .i64 0, .int .i64 0] 35 (0, 0)) := (RowKit.Below.heap_setCell wc ⟨f, 3, none⟩ _ (w.heap.size + 1) (by show w.heap.size + 1 ≠ f; omega)).trans hz2
      have HF3 : Hid (Fr wx.heap.size (· = f) wx ((wc.setCell ⟨f, 3, none⟩ (.int .i64 (c1.unknown + T.1.1.unknown))).drew)) := (HFR.out.setAt 3 _).drew
      clear p0 p1 p2 p3 p21 cu fu hz2 HBF1 HFR
      generalize (wc.setCell ⟨f, 3, none⟩ (.int .i64 (c1.unknown + T.1.1.unknown))).drew = we at *
      go_wp2_with (with_reducible refine store_at 35 (.tmp 4) (.tmp 74) rfl ?_; refine store_rowTo2 rfl 35 (.tmp 4) (.tmp 74) rfl rfl (w.heap.size + 1) #[.int .i64 kk, .int .i64 T.1.1.adm.source, .int .i64 T.1.1.adm.epoch, .int .i64 T.1.1.adm.err] rfl rfl 35 #[.int .i64 0, .int .i64 0, .int .i64 0, .int .i64 0] y2 (by kernel_rfl) (by kernel_rfl) (by kernel_rfl) ?_)
      refine bodyPost_ret (v := .agg #[.int .i64 kk, .int .i64 T.1.1.adm.source, .int .i64 T.1.1.adm.epoch, .int .i64 T.1.1.adm.err]) ?_ rfl ?_
      · exact results_cell_row (by rfl) _ _ (w.heap.size + 1) 35 #[.int .i64 kk, .int .i64 T.1.1.adm.source, .int .i64 T.1.1.adm.epoch, .int .i64 T.1.1.adm.err] (0, 0) _ (by rfl) (setRow_heap _ _ _ _ _ _ y2) Tryz.underlying35 rfl (by kernel_rfl)
      refine HPOST.out _ _ ⟨sv, ?_, ?_, ?_⟩
      · rw [HFT1.out, ← HKK.out]; rfl
      · rw [HFT1.out]
        refine ⟨?_, ?_⟩
        · show (we.setRow _ _).heap[f]? = some (.cells (fcells d (F.c.add kk T.1.1.unknown)) _ _)
          rw [setRow_other we _ f _ (by omega), y1, Cnts.add_split F.c kk, ← HC1.out]
        · have h1 := HFM.out.door.fr HF3.out (fun e => by have e : d = f := e; omega) (fun e => by have e : b = f := e; omega) (fun j c fr hj => by have hj : j = f := hj; rw [hj, HBFX.out]; intro h; injection h with h; injection h with _ h; exact absurd h (by decide))
          exact h1.fr (fr_setRow we _ _) (fun e => by have e : d = w.heap.size + 1 := e; omega) (fun e => by have e : b = w.heap.size + 1 := e; omega) (fun j c fr hj => by have hj : j = w.heap.size + 1 := hj; rw [hj, y2]; intro h; injection h with h; injection h with _ h; exact absurd h (by decide))
      · have g1 : Fr w.heap.size (fun k => k = b ∨ k = d ∨ k = f) w wx := (Fr.of_below _ HBW.out).trans (HFM.out.fr.mono HBW.out.size (fun _ _ h => h.elim Or.inl (fun h => Or.inr (Or.inl h))))
        exact fr_setRow' (g1.trans (HF3.out.mono g1.size (fun _ _ h => Or.inr (Or.inr h)))) (Nat.le_succ _) _
end Go.Proofs.By
set_option linter.unusedSimpArgs false
namespace Go.Proofs.By
open Go.RowKit Go.Proofs.Heap
open Go.Proofs.Rm (TurnRow Turn Room RoomAt Inv doo u32s OpV opvCells inv_doo inv_empty Slim slim_doo slim_empty wrong turns)
open Go.Proofs.Lab (Tabs)
open Go.Proofs.Mem
/-- No feedback. -/
def Plain (l : List UInt8) : Prop := ¬ (192 ≤ at8 l 1 ∧ at8 l 1 ≤ 223)
theorem datagram_known {R : Room} {ep p : Int} {l : List UInt8} (h : Plain l) : (datagram R ep p l).1.1.unknown = 0 ∧ (datagram R ep p l).1.2 = R ∧ (datagram R ep p l).2 = ep := by
  unfold datagram
  by_cases h1 : (sift l).2 ≠ 0
  · rw [if_pos h1]; exact ⟨rfl, rfl, rfl⟩
  rw [if_neg h1]
  by_cases h2 : (!Rm.joined R p) = true
  · rw [if_pos h2]; exact ⟨rfl, rfl, rfl⟩
  rw [if_neg h2]
  obtain ⟨P, d, hp⟩ := sift_media h (by omega)
  rw [hp]
  dsimp only
  refine ⟨?_, rfl, rfl⟩
  unfold mediaT
  split <;> rfl
theorem take_known {R : Room} {ep : Int} {o : Rm.Op} {l : List UInt8} {sv : Value} (h : o.kind = 1 → Plain l) : (take R ep o l sv).1.1.unknown = 0 := by
  unfold take
  by_cases h1 : o.kind = 1
  · rw [if_pos h1]; exact (datagram_known (h h1)).1
  rw [if_neg h1]
  split <;> rfl
set_option maxHeartbeats 1000000 in
theorem FTake_plain (f d b : Nat) (F : Frnt) (kd p n q : Int) (nm : List UInt8) (ss : List Int) (sa ba : Option Addr) (sc bl bc : Nat) (l : List UInt8) (w : World) (hF : FrontAt w f d b F) (hc : F.c.Below 1000000000) (hI : Inv F.R) (hl : ∀ n, (F.R.src n).ss.length ≤ 1000000) (hT : Tabs w) (h0 : 0 ≤ F.ep) (h9 : F.ep < 1000000000)
    (hn : nm.length < 9223372036854775807) (hs : RRow w (.slice sa ss.length sc) ss.length (u32s ss)) (hb : kd = 1 → BRow w (.slice ba bl bc) l ∧ Plain l) :
    Calls Tryz.prog 18 #[.pointer (some ⟨f, 0, none⟩), .agg #[.int .i64 kd, .int .i64 p, .int .i64 n, .int .i64 q, .string (str nm), .slice sa ss.length sc, .slice ba bl bc]] w (FTakePost f d b F ⟨kd, p, n, q, nm, ss⟩ l w) := by
  refine FTake_any f d b F kd p n q nm ss sa ba sc bl bc l w hF hc (fun sv => ?_) (fun w' h => ?_)
  · rw [take_known (fun h => (hb h).2)]; exact ⟨by omega, by omega⟩
  · refine Take_any d b F.R F.ep kd p n q nm ss sa ba sc bl bc l w' (hF.door.below h) hI (Utf8Tabs_below hT h) h0 h9 hn (hs.below h) (fun hk w1 h1 => ?_)
    exact datagram_plain d b F.R F.ep kd p n q (str nm) sa ba ss.length sc bl bc l w1 ((hF.door.below h).below h1) hI hl (((hb hk).1.below h).below h1) (hb hk).2
/-- An operation, its bytes beside it. -/
structure OpB where
  x : OpV
  b : List UInt8
structure OpBsT (w : World) (v : Value) (L : List OpB) : Prop where
  row : Row w 32 v L.length (L.flatMap fun y => opvCells y.x)
  each : ∀ y ∈ L, Row w 66 (.slice y.x.sa y.x.o.ssrcs.length y.x.sc) y.x.o.ssrcs.length (u32s y.x.o.ssrcs) ∧ Row w 5 (.slice y.x.ba y.x.bl y.x.bc) y.b.length (bys y.b) ∧ y.x.o.name.length < 9223372036854775807
theorem OpBsT.below {w w' : World} {v : Value} {L : List OpB} (h : OpBsT w v L) (hb : Below w.heap.size w w') : OpBsT w' v L := ⟨h.row.below hb, fun y hy => ⟨(h.each y hy).1.below hb, (h.each y hy).2.1.below hb, (h.each y hy).2.2⟩⟩
theorem OpBsT.fr {w w' : World} {v : Value} {L : List OpB} {S : Nat → Prop} (h : OpBsT w v L) (hf : Fr w.heap.size S w w') (hS : Apart w S) : OpBsT w' v L :=
  ⟨Row.fr h.row hf (Nat.le_refl _) (hS.ne (by simp)), fun y hy => ⟨Row.fr (h.each y hy).1 hf (Nat.le_refl _) (hS.ne (by simp)), Row.fr (h.each y hy).2.1 hf (Nat.le_refl _) (hS.ne (by simp)), (h.each y hy).2.2⟩⟩
theorem FrontAt.apart {w : World} {f d b : Nat} {F : Frnt} (h : FrontAt w f d b F) : Apart w (fun k => k = b ∨ k = d ∨ k = f) := by
  rintro k (rfl | rfl | rfl)
  · exact h.door.apart k (Or.inl rfl)
  · exact h.door.apart k (Or.inr rfl)
  · exact ⟨_, _, _, h.blk, by decide, by decide, by decide, by decide, by decide, by decide, by decide⟩
def pk7 : List UInt8 := [128, 96, 0, 7, 0, 0, 0, 50, 0, 0, 0, 10, 192, 90, 0, 9, 5]
def bop : Nat → Rm.Op
  | 0 => ⟨2, 1, 0, 0, [97, 110, 110], []⟩
  | 1 => ⟨2, 2, 0, 0, [98, 111, 98], []⟩
  | 2 => ⟨4, 1, 3, 0, [], [10, 11]⟩
  | 3 => ⟨6, 2, 3, 0, [], []⟩
  | _ => ⟨1, 1, 0, 0, [], []⟩
def bby : Nat → List UInt8
  | 4 => pk7
  | _ => []
def bOps (h : Nat) : List OpB := [⟨⟨bop 0, none, 0, none, 0, 0⟩, []⟩, ⟨⟨bop 1, none, 0, none, 0, 0⟩, []⟩, ⟨⟨bop 2, some ⟨h, 0, none⟩, 2, none, 0, 0⟩, []⟩, ⟨⟨bop 3, none, 0, none, 0, 0⟩, []⟩, ⟨⟨bop 4, none, 0, some ⟨h + 1, 0, none⟩, 17, 17⟩, pk7⟩]
theorem packet_any (w : World) : Calls Tryz.prog 68 #[.int .u8 7, .int .u8 10] w fun e w' => e = .returned (.slice (some ⟨w.heap.size, 0, none⟩) 17 17) ∧ w' = w.alloc (.cells (bys pk7).toArray 5) := by
  go_enter Tryz.func68, Tryz.ntmps68
  go_wp2
  go_ret
  exact ⟨rfl, rfl⟩
theorem begin_any (w : World) : Calls Tryz.prog 39 #[] w fun e w' => e = .returned (.slice (some ⟨w.heap.size + 2, 0, none⟩) 5 5) ∧ OpBsT w' (.slice (some ⟨w.heap.size + 2, 0, none⟩) 5 5) (bOps w.heap.size) ∧ Below w.heap.size w w' := by
  have C := Lib.hid packet_any
  go_enter Tryz.func39, Tryz.ntmps39
  go_wp2_with (go_at_call 68; refine (C.out _).mono ?_; rintro e w2 ⟨rfl, rfl⟩)
  go_ret
  have h1 : Row (w.alloc (.cells (u32s [10, 11]).toArray 66)) 66 (.slice (some ⟨w.heap.size, 0, none⟩) 2 2) 2 (u32s [10, 11]) := rowNew w _ 2 (u32s [10, 11]) (by decide)
  have h2 := rowNew (w.alloc (.cells (u32s [10, 11]).toArray 66)) 5 17 (bys pk7) (by decide)
  have h3 := rowNew ((w.alloc (.cells (u32s [10, 11]).toArray 66)).alloc (.cells (bys pk7).toArray 5)) 32 5 ((bOps w.heap.size).flatMap fun y => opvCells y.x) (by decide)
  have e1 : (w.alloc (.cells (u32s [10, 11]).toArray 66)).heap.size = w.heap.size + 1 := by show (w.heap.push _).size = _; rw [Array.size_push]
  have e2 : ((w.alloc (.cells (u32s [10, 11]).toArray 66)).alloc (.cells (bys pk7).toArray 5)).heap.size = w.heap.size + 2 := by show ((w.heap.push _).push _).size = _; rw [Array.size_push, Array.size_push]
  rw [e1] at h2
  rw [e2] at h3
  refine ⟨rfl, ⟨h3, ?_⟩, bel_alloc (bel_alloc (below_alloc w _) (Nat.le_refl _) _) (Nat.le_refl _) _⟩
  intro x hx
  simp only [bOps, List.mem_cons, List.mem_nil_iff, or_false] at hx
  rcases hx with rfl | rfl | rfl | rfl | rfl
  · exact ⟨Row.nil _ _, Row.nil _ _, by decide⟩
  · exact ⟨Row.nil _ _, Row.nil _ _, by decide⟩
  · exact ⟨(h1.below (below_alloc _ _)).below (below_alloc _ _), Row.nil _ _, by show (bop 2).name.length < _; decide⟩
  · exact ⟨Row.nil _ _, Row.nil _ _, by decide⟩
  · exact ⟨Row.nil _ _, h2.below (below_alloc _ _), by show (bop 4).name.length < _; decide⟩
/-- The fronts behind the first operations. -/
def bR : Nat → Value → Room
  | 0, _ => Rm.empty
  | 1, _ => Rm.empty.setName 1 [97, 110, 110]
  | 2, _ => (Rm.empty.setName 1 [97, 110, 110]).setName 2 [98, 111, 98]
  | 3, sv => ((Rm.empty.setName 1 [97, 110, 110]).setName 2 [98, 111, 98]).setSrc 3 ⟨true, 3, 1, sv, [10, 11], false⟩
  | _, sv => (((Rm.empty.setName 1 [97, 110, 110]).setName 2 [98, 111, 98]).setSrc 3 ⟨true, 3, 1, sv, [10, 11], false⟩).setSub 3 2 ⟨true, false, 0⟩
def bE : Nat → Int
  | 0 => 0
  | 1 => 1
  | 2 => 2
  | 3 => 3
  | _ => 4
def bF (k : Nat) (sv : Value) : Frnt := ⟨bR k sv, bE k, noCnts⟩
def bA : Nat → Adm
  | 0 => ⟨0, 0, 0, 0⟩
  | 1 => ⟨2, 0, 1, 0⟩
  | 2 => ⟨2, 0, 2, 0⟩
  | 3 => ⟨2, 0, 3, 0⟩
  | 4 => ⟨2, 0, 4, 0⟩
  | _ => ⟨1, 3, 4, 0⟩
theorem bw0 (sv : Value) : wrong (bR 0 sv) (bop 0) = 0 := by kernel_rfl
theorem bw1 (sv : Value) : wrong (bR 1 sv) (bop 1) = 0 := by kernel_rfl
theorem bw2 (sv : Value) : wrong (bR 2 sv) (bop 2) = 0 := by kernel_rfl
theorem bw3 (sv : Value) : wrong (bR 3 sv) (bop 3) = 0 := by kernel_rfl
theorem bw5 (sv : Value) : wrong (bR 5 sv) ⟨0, 0, 0, 0, [], []⟩ = 4 := by kernel_rfl
theorem doo_okB {R : Room} {o : Rm.Op} {sv : Value} (h : wrong R o = 0) : doo R o sv = (turns R o sv, 0) := by unfold doo; rw [h]; simp
theorem bInv : ∀ k, ∀ sv, Inv (bR k sv)
  | 0, sv => inv_empty
  | 1, sv => by have := inv_doo (bInv 0 sv) (bop 0) sv; rw [doo_okB (bw0 sv)] at this; exact this
  | 2, sv => by have := inv_doo (bInv 1 sv) (bop 1) sv; rw [doo_okB (bw1 sv)] at this; exact this
  | 3, sv => by have := inv_doo (bInv 2 sv) (bop 2) sv; rw [doo_okB (bw2 sv)] at this; exact this
  | 4, sv => by have := inv_doo (bInv 3 sv) (bop 3) sv; rw [doo_okB (bw3 sv)] at this; exact this
  | k + 5, sv => bInv 4 sv
theorem bSlim : ∀ k, ∀ sv, Slim (bR k sv)
  | 0, sv => slim_empty
  | 1, sv => by have := slim_doo (bSlim 0 sv) (bop 0) sv; rw [doo_okB (bw0 sv)] at this; exact this
  | 2, sv => by have := slim_doo (bSlim 1 sv) (bop 1) sv; rw [doo_okB (bw1 sv)] at this; exact this
  | 3, sv => by have := slim_doo (bSlim 2 sv) (bop 2) sv; rw [doo_okB (bw2 sv)] at this; exact this
  | 4, sv => by have := slim_doo (bSlim 3 sv) (bop 3) sv; rw [doo_okB (bw3 sv)] at this; exact this
  | k + 5, sv => bSlim 4 sv
theorem frnt_ctl {F : Frnt} {o : Rm.Op} {l : List UInt8} {sv : Value} (h1 : o.kind ≠ 1) (h2 : wrong F.R o = 0) : F.take o l sv = (feedT (F.ep + 1) [] (turns F.R o sv).1 0, ⟨(turns F.R o sv).2, F.ep + 1, F.c.add 2 0⟩) := by
  unfold Frnt.take By.take
  rw [if_neg h1, doo_okB h2]
  rfl
theorem bStep (k : Nat) (hk : k < 5) (sv sv' : Value) : ∃ sv2, ((bF k sv).take (bop k) (bby k) sv').1.adm = bA (k + 1) ∧ ((bF k sv).take (bop k) (bby k) sv').2 = bF (k + 1) sv2 := by
  have : k = 0 ∨ k = 1 ∨ k = 2 ∨ k = 3 ∨ k = 4 := by omega
  rcases this with rfl | rfl | rfl | rfl | rfl
  · exact ⟨sv, by rw [frnt_ctl (F := bF 0 sv) (o := bop 0) (by decide) (bw0 sv)]; kernel_rfl, by rw [frnt_ctl (F := bF 0 sv) (o := bop 0) (by decide) (bw0 sv)]; kernel_rfl⟩
  · exact ⟨sv, by rw [frnt_ctl (F := bF 1 sv) (o := bop 1) (by decide) (bw1 sv)]; kernel_rfl, by rw [frnt_ctl (F := bF 1 sv) (o := bop 1) (by decide) (bw1 sv)]; kernel_rfl⟩
  · exact ⟨sv', by rw [frnt_ctl (F := bF 2 sv) (o := bop 2) (by decide) (bw2 sv)]; kernel_rfl, by rw [frnt_ctl (F := bF 2 sv) (o := bop 2) (by decide) (bw2 sv)]; kernel_rfl⟩
  · exact ⟨sv, by rw [frnt_ctl (F := bF 3 sv) (o := bop 3) (by decide) (bw3 sv)]; kernel_rfl, by rw [frnt_ctl (F := bF 3 sv) (o := bop 3) (by decide) (bw3 sv)]; kernel_rfl⟩
  · exact ⟨sv, by kernel_rfl, by kernel_rfl⟩
theorem bLast (sv sv' : Value) : ((bF 5 sv).take ⟨0, 0, 0, 0, [], []⟩ [] sv').1.adm = ⟨6, 0, 0, 4⟩ ∧ ((bF 5 sv).take ⟨0, 0, 0, 0, [], []⟩ [] sv').2 = ⟨bR 5 sv, 4, ⟨0, 0, 0, 1⟩⟩ := by
  have h : doo (bR 5 sv) ⟨0, 0, 0, 0, [], []⟩ sv' = (([], bR 5 sv), 4) := by unfold doo; rw [bw5]; rfl
  have h2 : (bF 5 sv).take ⟨0, 0, 0, 0, [], []⟩ [] sv' = (refusedT 6 4, ⟨bR 5 sv, 4, noCnts.add 6 0⟩) := by
    unfold Frnt.take By.take
    rw [if_neg (by decide)]
    show _ = _
    have e : (bF 5 sv).R = bR 5 sv := rfl
    rw [e, h]
    rfl
  rw [h2]
  exact ⟨rfl, rfl⟩
theorem bOps_at (h k : Nat) (hk : k < 5) : ∃ sa sc ba bl bc, (bOps h)[k]? = some ⟨⟨bop k, sa, sc, ba, bl, bc⟩, bby k⟩ := by
  have : k = 0 ∨ k = 1 ∨ k = 2 ∨ k = 3 ∨ k = 4 := by omega
  rcases this with rfl | rfl | rfl | rfl | rfl <;> exact ⟨_, _, _, _, _, rfl⟩
theorem bPlain (k : Nat) (hk : k < 5) : (bop k).kind = 1 → Plain (bby k) := by
  have : k = 0 ∨ k = 1 ∨ k = 2 ∨ k = 3 ∨ k = 4 := by omega
  rcases this with rfl | rfl | rfl | rfl | rfl
  · intro h; exact absurd h (by decide)
  · intro h; exact absurd h (by decide)
  · intro h; exact absurd h (by decide)
  · intro h; exact absurd h (by decide)
  · intro _; unfold Plain; decide
theorem bTab (sv : Value) : (Rm.table (bR 5 sv)).peers.length = 2 := by kernel_rfl
end Go.Proofs.By
set_option linter.unusedSimpArgs false
namespace Go.Proofs.By
open Go.Proofs.Rm (Room Turn inn of goneOp joined doo hears Inv inv_goneOp gone_len Slim slim_goneOp)
/-- What holds of every item that is read. -/
structure ItmOk (i : Itm) : Prop where
  m0 : 0 ≤ i.media
  m1 : i.media < 4294967296
  g : i.gone.length ≤ 128
  b : i.blocks.length ≤ 128
  p : i.pairs.length ≤ 128
theorem get4_lt (b : List UInt8) (p : Int) : get b p 4 < 4294967296 := by
  unfold get
  split
  · exact be_lt4 (by rw [List.length_take]; omega)
  · decide
theorem noItm_ok : ItmOk noItm := ⟨by decide, by decide, by decide, by decide, by decide⟩
theorem report_ok (b : List UInt8) : ItmOk (report b) := ⟨by show (0 : Int) ≤ 0; decide, by show (0 : Int) < 4294967296; decide, Nat.zero_le _, by show ((List.range (at8 b 0 % 32)).map _).length ≤ 128; rw [List.length_map, List.length_range]; omega, Nat.zero_le _⟩
theorem iwords_le {b : List UInt8} (h : b.length ≤ 512) (p : Nat) : (iwords b p).length ≤ 128 := by unfold iwords; rw [List.length_map, List.length_range]; omega
theorem parts_ok {b : List UInt8} (h : b.length ≤ 512) (k : Nat) : ItmOk (parts b k) := by
  unfold parts
  by_cases h1 : k = 203
  · rw [if_pos h1]
    exact ⟨by show (0 : Int) ≤ 0; decide, by show (0 : Int) < 4294967296; decide, by show ((iwords b 4).map _).length ≤ 128; rw [List.length_map]; exact iwords_le h 4, Nat.zero_le _, Nat.zero_le _⟩
  · rw [if_neg h1]
    have hg := get4_lt b 8
    exact ⟨by show (0 : Int) ≤ (get b 8 4 : Int); omega, by show (get b 8 4 : Int) < 4294967296; omega, Nat.zero_le _, Nat.zero_le _, by show ((iwords b 12).map _).length ≤ 128; rw [List.length_map]; exact iwords_le h 12⟩
theorem itemGet_ok {b : List UInt8} (h : b.length ≤ 512) : ItmOk (itemGet b).1.1 := by
  unfold itemGet
  split
  · exact noItm_ok
  split
  · exact noItm_ok
  split
  · exact noItm_ok
  split
  · unfold reportGet
    split
    · exact noItm_ok
    · exact report_ok b
  dsimp only
  split
  · exact noItm_ok
  split
  · exact noItm_ok
  · exact parts_ok (by rw [List.length_take]; omega) _
theorem itemsGo_ok : ∀ (k : Nat) (b : List UInt8), b.length ≤ 512 → (∀ i ∈ (itemsGo k b).1, ItmOk i) ∧ (itemsGo k b).1.length ≤ k
  | 0, b, h => ⟨fun i hi => (by cases hi), Nat.le_refl _⟩
  | k + 1, b, h => by
    unfold itemsGo
    split
    · exact ⟨fun i hi => (by cases hi), Nat.zero_le _⟩
    split
    · exact ⟨fun i hi => by rw [List.mem_singleton] at hi; subst hi; exact itemGet_ok h, by show 1 ≤ k + 1; omega⟩
    have ih := itemsGo_ok k (b.drop (itemGet b).1.2) (by rw [List.length_drop]; omega)
    dsimp only
    split
    · exact ⟨fun i hi => (by cases hi), Nat.zero_le _⟩
    · refine ⟨fun i hi => ?_, by rw [List.length_cons]; exact Nat.succ_le_succ ih.2⟩
      rcases List.mem_cons.1 hi with rfl | hi
      · exact itemGet_ok h
      · exact ih.1 i hi
theorem itemsGet_ok (b : List UInt8) : (∀ i ∈ (itemsGet b).1, ItmOk i) ∧ (itemsGet b).1.length ≤ 8 := by
  unfold itemsGet
  split
  · exact ⟨fun i hi => (by cases hi), Nat.zero_le _⟩
  · exact itemsGo_ok 8 b (by omega)
theorem sift_feed {b : List UInt8} (h3 : 192 ≤ at8 b 1 ∧ at8 b 1 ≤ 223) (h : (sift b).2 = 0) : (sift b).1 = .feedback (itemsGet b).1 := by
  unfold sift at h ⊢
  by_cases h1 : 512 < b.length
  · rw [if_pos h1] at h; cases h
  rw [if_neg h1] at h ⊢
  by_cases h2 : b.length < 2
  · rw [if_pos h2] at h; cases h
  rw [if_neg h2, if_pos h3] at h ⊢
  by_cases h4 : (itemsGet b).2 ≠ 0
  · rw [if_pos h4] at h; exact absurd h h4
  · rw [if_neg h4]
theorem goneOp_len (R : Room) (p x : Int) : (goneOp R p x).1.1.length ≤ 18 := by
  unfold goneOp
  split
  · exact Nat.zero_le _
  · exact gone_len _ _
theorem cnt_le (e : Int) : 0 ≤ cnt e ∧ cnt e ≤ 1 := by unfold cnt; split <;> omega
theorem goneAll_ok (peer : Int) : ∀ (l : List Int) (R : Room), Inv R → Slim R → Inv (goneAll peer l R).1.2 ∧ Slim (goneAll peer l R).1.2 ∧ (goneAll peer l R).1.1.length ≤ 18 * l.length ∧ 0 ≤ (goneAll peer l R).2 ∧ (goneAll peer l R).2 ≤ l.length
  | [], R, h, hs => ⟨h, hs, Nat.le_refl _, Int.le_refl _, Int.le_refl _⟩
  | x :: l, R, h, hs => by
    have ih := goneAll_ok peer l (goneOp R peer x).1.2 (inv_goneOp h peer x) (slim_goneOp hs peer x)
    have h1 := goneOp_len R peer x
    have h2 := cnt_le (goneOp R peer x).2
    unfold goneAll
    refine ⟨ih.1, ih.2.1, ?_, ?_, ?_⟩
    · show ((goneOp R peer x).1.1 ++ _).length ≤ _
      rw [List.length_append, List.length_cons]; have := ih.2.2.1; omega
    · show 0 ≤ cnt _ + _; have := ih.2.2.2.1; omega
    · show cnt _ + _ ≤ ((l.length + 1 : Nat) : Int); have := ih.2.2.2.2; omega
theorem itemDo_ok {R : Room} (h : Inv R) (hs : Slim R) (peer : Int) {i : Itm} (hi : ItmOk i) : Inv (itemDo R peer i).1.2 ∧ Slim (itemDo R peer i).1.2 ∧ (itemDo R peer i).1.1.length ≤ 3000 ∧ 0 ≤ (itemDo R peer i).2 ∧ (itemDo R peer i).2 ≤ 1000 := by
  unfold itemDo
  split
  · exact ⟨h, hs, Nat.zero_le _, by dsimp only; split <;> omega, by dsimp only; split <;> omega⟩
  split
  · exact ⟨h, hs, Nat.zero_le _, by dsimp only; split <;> omega, by dsimp only; split <;> omega⟩
  split
  · have := goneAll_ok peer i.gone R h hs
    have hg := hi.g
    exact ⟨this.1, this.2.1, by omega, this.2.2.2.1, by omega⟩
  · exact ⟨h, hs, Nat.zero_le _, Int.le_refl _, by show (0 : Int) ≤ 1000; decide⟩
theorem itemsDo_ok (peer : Int) : ∀ (l : List Itm) (R : Room), Inv R → Slim R → (∀ i ∈ l, ItmOk i) → Inv (itemsDo peer l R).1.2 ∧ Slim (itemsDo peer l R).1.2 ∧ (itemsDo peer l R).1.1.length ≤ 3000 * l.length ∧ 0 ≤ (itemsDo peer l R).2 ∧ (itemsDo peer l R).2 ≤ 1000 * l.length
  | [], R, h, hs, hi => ⟨h, hs, Nat.le_refl _, Int.le_refl _, Int.le_refl _⟩
  | x :: l, R, h, hs, hi => by
    have h1 := itemDo_ok h hs peer (hi x (List.mem_cons_self ..))
    have ih := itemsDo_ok peer l (itemDo R peer x).1.2 h1.1 h1.2.1 (fun i h => hi i (List.mem_cons_of_mem _ h))
    unfold itemsDo
    refine ⟨ih.1, ih.2.1, ?_, ?_, ?_⟩
    · show ((itemDo R peer x).1.1 ++ _).length ≤ _
      rw [List.length_append, List.length_cons]; have := ih.2.2.1; omega
    · show 0 ≤ (itemDo R peer x).2 + _; have := ih.2.2.2.1; omega
    · show (itemDo R peer x).2 + _ ≤ ((1000 : Int) * ((l.length + 1 : Nat) : Int)); have := ih.2.2.2.2; omega
theorem datagram_ok {R : Room} (h : Inv R) (hs : Slim R) (ep p : Int) (l : List UInt8) : Inv (datagram R ep p l).1.2 ∧ Slim (datagram R ep p l).1.2 ∧ 0 ≤ (datagram R ep p l).1.1.unknown ∧ (datagram R ep p l).1.1.unknown ≤ 8000 ∧ ep ≤ (datagram R ep p l).2 ∧ (datagram R ep p l).2 ≤ ep + 1 := by
  unfold datagram
  by_cases h1 : (sift l).2 ≠ 0
  · rw [if_pos h1]; exact ⟨h, hs, by show (0 : Int) ≤ 0; decide, by show (0 : Int) ≤ 8000; decide, Int.le_refl _, by show ep ≤ ep + 1; omega⟩
  rw [if_neg h1]
  by_cases h2 : (!joined R p) = true
  · rw [if_pos h2]; exact ⟨h, hs, by show (0 : Int) ≤ 0; decide, by show (0 : Int) ≤ 8000; decide, Int.le_refl _, by show ep ≤ ep + 1; omega⟩
  rw [if_neg h2]
  by_cases h3 : 192 ≤ at8 l 1 ∧ at8 l 1 ≤ 223
  · rw [sift_feed h3 (by omega)]
    have hk := itemsGet_ok l
    have := itemsDo_ok p (itemsGet l).1 R h hs hk.1
    exact ⟨this.1, this.2.1, this.2.2.2.1, by show (itemsDo p (itemsGet l).1 R).2 ≤ 8000; omega, by show ep ≤ ep + 1; omega, Int.le_refl _⟩
  · rcases hsf : (sift l).1 with _ | ⟨P, d⟩ | fl
    · exact ⟨h, hs, by show (0 : Int) ≤ 0; decide, by show (0 : Int) ≤ 8000; decide, by show ep ≤ ep + 1; omega, Int.le_refl _⟩
    · dsimp only
      refine ⟨h, hs, ?_, ?_, Int.le_refl _, by omega⟩
      · unfold mediaT; split <;> (show (0 : Int) ≤ 0; decide)
      · unfold mediaT; split <;> (show (0 : Int) ≤ 8000; decide)
    · exfalso
      unfold sift at hsf
      rw [if_neg h3] at hsf
      split at hsf
      · cases hsf
      split at hsf
      · cases hsf
      split at hsf
      · cases hsf
      split at hsf
      · cases hsf
      · cases hsf
end Go.Proofs.By
