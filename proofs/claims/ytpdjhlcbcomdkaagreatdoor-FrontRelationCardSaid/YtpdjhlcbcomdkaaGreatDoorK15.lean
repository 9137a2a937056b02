/- Several texts in one: The walk of door.datagram: a datagram that is no feedback. The walk of door.Take. What package front computes. Plain. The walks of package front and of door: New, Room, Epoch, Counts, Table; a front that is none. -/
import Derived.Test.YtpdjhlcbcomdkaaGreatDoorK04
import Derived.Test.YtpdjhlcbcomdkaaGreatDoorK11
import Derived.Test.YtpdjhlcbcomdkaaGreatDoorK14
set_option linter.unusedSimpArgs false
namespace Go.Proofs.By
open Go.RowKit Go.Proofs.Heap
open Go.Proofs.Rm (TurnRow Turn Room RoomAt Inv joined Joined_any)
theorem run_typeAssert_same {P : Program} (w : World) (t xt : TypeId) (v : Value) (d : TypeDesc) (hu : P.underlying t = some d) (hd : (match d with | .interface _ => false | _ => true) = true) : (Instr.typeAssert (.iface t v) xt t true).run P w = .ok (.tuple #[v, .bool true]) w := by
  unfold Instr.typeAssert
  simp only [Sem.run_bind, run_underlying hu w, Result.andThen_ok]
  cases d <;> simp_all
theorem sift_media {b : List UInt8} (h3 : ¬ (192 ≤ at8 b 1 ∧ at8 b 1 ≤ 223)) (h : (sift b).2 = 0) : ∃ p d, (sift b).1 = .media p d := by
  by_cases h1 : 512 < b.length
  · unfold sift at h; rw [if_pos h1] at h; cases h
  by_cases h2 : b.length < 2
  · unfold sift at h; rw [if_neg h1, if_pos h2] at h; cases h
  rw [sift_plain h1 h2 h3] at h ⊢
  unfold siftQ at h ⊢
  by_cases h4 : (rtpGet b).2 ≠ 0
  · rw [if_pos h4] at h; exact absurd h h4
  rw [if_neg h4] at h ⊢
  by_cases h5 : (descGet (rtpGet b).1.payload).2 ≠ 0
  · rw [if_pos h5] at h; exact absurd h h5
  rw [if_neg h5]
  exact ⟨_, _, rfl⟩
set_option maxRecDepth 100000 in
set_option maxHeartbeats 2000000 in
theorem datagram_plain (g b : Nat) (R : Room) (ep kd peer src ly : Int) (nm : ByteArray) (sa ba : Option Addr) (sl sc bl bc : Nat) (l : List UInt8) (w : World) (hD : DoorAt w g b R ep) (hI : Inv R) (hl : ∀ n, (R.src n).ss.length ≤ 1000000) (hv : BRow w (.slice ba bl bc) l) (h3 : ¬ (192 ≤ at8 l 1 ∧ at8 l 1 ≤ 223)) :
    Calls Tryz.prog 76 #[.pointer (some ⟨g, 0, none⟩), .agg #[.int .i64 kd, .int .i64 peer, .int .i64 src, .int .i64 ly, .string nm, .slice sa sl sc, .slice ba bl bc]] w fun e w' => (∃ cs : List Value, e = .returned (.agg cs.toArray) ∧ TakenIn w' cs (datagram R ep peer l).1.1) ∧ DoorAt w' g b (datagram R ep peer l).1.2 (datagram R ep peer l).2 ∧ Fr w.heap.size (fun k => k = b ∨ k = g) w w' := by
  have HX : Hid (datagram R ep peer l = if (sift l).2 ≠ 0 then ((refusedT 3 (sift l).2, R), ep) else if !joined R peer then ((refusedT 4 0, R), ep) else match (sift l).1 with
    | .media p d => ((mediaT R ep peer p d, R), ep)
    | .feedback l => ((feedT (ep + 1) l (itemsDo peer l R).1.1 (itemsDo peer l R).2, (itemsDo peer l R).1.2), ep + 1)
    | .none => ((feedT (ep + 1) [] [] 0, R), ep + 1)) := rfl
  have HSM := Lib.hid (sift_media (b := l) h3)
  have hgl := hD.cells.2.2.2
  have hxb : ((w.alloc (.cells #[.int .i64 kd, .int .i64 peer, .int .i64 src, .int .i64 ly, .string nm, .slice sa sl sc, .slice ba bl bc] 32)).alloc (.cells #[.int .i64 0, .int .i64 0, .int .i64 0, .int .i64 0, .bool false, .int .i64 0, .int .u16 0, .int .u32 0, .int .u32 0, .slice none 0 0, .bool false, .int .u16 0, .slice none 0 0, .slice none 0 0, .int .i64 0, .int .i64 0, .bool false, .bool false, .int .u16 0, .slice none 0 0, .slice none 0 0, .int .i64 0] 100)).heap[w.heap.size]? = some (.cells #[.int .i64 kd, .int .i64 peer, .int .i64 src, .int .i64 ly, .string nm, .slice sa sl sc, .slice ba bl bc] 32 (0, 0)) := by
    rw [(below_alloc _ _).block _ (by show _ < (w.heap.push _).size; rw [Array.size_push]; exact Nat.lt_succ_self _)]
    exact heap_new w _
  have hz : ((w.alloc (.cells #[.int .i64 kd, .int .i64 peer, .int .i64 src, .int .i64 ly, .string nm, .slice sa sl sc, .slice ba bl bc] 32)).alloc (.cells #[.int .i64 0, .int .i64 0, .int .i64 0, .int .i64 0, .bool false, .int .i64 0, .int .u16 0, .int .u32 0, .int .u32 0, .slice none 0 0, .bool false, .int .u16 0, .slice none 0 0, .slice none 0 0, .int .i64 0, .int .i64 0, .bool false, .bool false, .int .u16 0, .slice none 0 0, .slice none 0 0, .int .i64 0] 100)).heap[w.heap.size + 1]? = some (.cells #[.int .i64 0, .int .i64 0, .int .i64 0, .int .i64 0, .bool false, .int .i64 0, .int .u16 0, .int .u32 0, .int .u32 0, .slice none 0 0, .bool false, .int .u16 0, .slice none 0 0, .slice none 0 0, .int .i64 0, .int .i64 0, .bool false, .bool false, .int .u16 0, .slice none 0 0, .slice none 0 0, .int .i64 0] 100 (0, 0)) := by
    have h := heap_new (w.alloc (.cells #[.int .i64 kd, .int .i64 peer, .int .i64 src, .int .i64 ly, .string nm, .slice sa sl sc, .slice ba bl bc] 32)) (.cells #[.int .i64 0, .int .i64 0, .int .i64 0, .int .i64 0, .bool false, .int .i64 0, .int .u16 0, .int .u32 0, .int .u32 0, .slice none 0 0, .bool false, .int .u16 0, .slice none 0 0, .slice none 0 0, .int .i64 0, .int .i64 0, .bool false, .bool false, .int .u16 0, .slice none 0 0, .slice none 0 0, .int .i64 0] 100)
    have e : (w.alloc (.cells #[.int .i64 kd, .int .i64 peer, .int .i64 src, .int .i64 ly, .string nm, .slice sa sl sc, .slice ba bl bc] 32)).heap.size = w.heap.size + 1 := by show (w.heap.push _).size = _; rw [Array.size_push]
    rw [e] at h
    exact h
  have hbw : Below w.heap.size w ((w.alloc (.cells #[.int .i64 kd, .int .i64 peer, .int .i64 src, .int .i64 ly, .string nm, .slice sa sl sc, .slice ba bl bc] 32)).alloc (.cells #[.int .i64 0, .int .i64 0, .int .i64 0, .int .i64 0, .bool false, .int .i64 0, .int .u16 0, .int .u32 0, .int .u32 0, .slice none 0 0, .bool false, .int .u16 0, .slice none 0 0, .slice none 0 0, .int .i64 0, .int .i64 0, .bool false, .bool false, .int .u16 0, .slice none 0 0, .slice none 0 0, .int .i64 0] 100)) := bel_alloc (below_alloc w _) (Nat.le_refl _) _
  have HD0 := Lib.hid hD
  have HD1 : Hid (DoorAt ((w.alloc (.cells #[.int .i64 kd, .int .i64 peer, .int .i64 src, .int .i64 ly, .string nm, .slice sa sl sc, .slice ba bl bc] 32)).alloc (.cells #[.int .i64 0, .int .i64 0, .int .i64 0, .int .i64 0, .bool false, .int .i64 0, .int .u16 0, .int .u32 0, .int .u32 0, .slice none 0 0, .bool false, .int .u16 0, .slice none 0 0, .slice none 0 0, .int .i64 0, .int .i64 0, .bool false, .bool false, .int .u16 0, .slice none 0 0, .slice none 0 0, .int .i64 0] 100)) g b R ep) := hD.below hbw
  have CS := Lib.hid (siftOf_plain _ l ((w.alloc (.cells #[.int .i64 kd, .int .i64 peer, .int .i64 src, .int .i64 ly, .string nm, .slice sa sl sc, .slice ba bl bc] 32)).alloc (.cells #[.int .i64 0, .int .i64 0, .int .i64 0, .int .i64 0, .bool false, .int .i64 0, .int .u16 0, .int .u32 0, .int .u32 0, .slice none 0 0, .bool false, .int .u16 0, .slice none 0 0, .slice none 0 0, .int .i64 0, .int .i64 0, .bool false, .bool false, .int .u16 0, .slice none 0 0, .slice none 0 0, .int .i64 0] 100)) (hv.below hbw) h3)
  have HXB := Lib.hid hxb
  have HZ := Lib.hid hz
  have HBW := Lib.hid hbw
  clear hD hv hxb hz hbw h3
  generalize datagram R ep peer l = X at *
  generalize sift l = Y at *
  obtain ⟨ev, er⟩ := Y
  dsimp only at HX HSM CS
  go_enter Tryz.func76, Tryz.ntmps76
  go_upto_region 2 with (go_at_call 105; refine CS.out.mono ?_; rintro e w2 ⟨⟨a, rfl, hev⟩, hb2⟩; have HEV := Lib.hid hev; have HB2 := Lib.hid hb2; clear hev hb2)
  clear CS
  generalize ((w.alloc (.cells #[.int .i64 kd, .int .i64 peer, .int .i64 src, .int .i64 ly, .string nm, .slice sa sl sc, .slice ba bl bc] 32)).alloc (.cells #[.int .i64 0, .int .i64 0, .int .i64 0, .int .i64 0, .bool false, .int .i64 0, .int .u16 0, .int .u32 0, .int .u32 0, .slice none 0 0, .bool false, .int .u16 0, .slice none 0 0, .slice none 0 0, .int .i64 0, .int .i64 0, .bool false, .bool false, .int .u16 0, .slice none 0 0, .slice none 0 0, .int .i64 0] 100)) = w1 at *
  have KEEP : Hid (∀ w', Below w1.heap.size w1 w' → w'.cell? ⟨g, 0, none⟩ = some (.pointer (some ⟨b, 0, none⟩)) ∧ w'.cell? ⟨w.heap.size, 1, none⟩ = some (.int .i64 peer)) := fun w' h =>
    ⟨(HD1.out.below h).cells.1, by rw [cell_of ((h.block w.heap.size (hp_lt HXB.out)).trans HXB.out) 1]; rfl⟩
  have HEND : Hid (∀ w' cs T, Below w.heap.size w w' → TakenIn w' cs T → X = ((T, R), ep) → (∃ cs' : List Value, Ending.returned (.agg cs.toArray) = .returned (.agg cs'.toArray) ∧ TakenIn w' cs' X.1.1) ∧ DoorAt w' g b X.1.2 X.2 ∧ Fr w.heap.size (fun k => k = b ∨ k = g) w w') := fun w' cs T h1 h2 h3 => by
    rw [h3]; exact ⟨⟨cs, rfl, h2⟩, HD0.out.below h1, Fr.of_below _ h1⟩
  by_cases her : er = 0
  · subst her
    rw [if_neg (by simp)] at HX
    obtain ⟨p, d, hpd⟩ := HSM.out rfl
    subst hpd
    dsimp only at HX
    have HJ := Lib.hid (Joined_any b R peer w2.drew ((HD1.out.room.below HB2.out).below (Below.refl _ _).drew))
    go_upto_region 4 with fail
    refine wp_region_noPanic ?_
    refine wp_region_held_drew (S := (fun w' => w'.cell? ⟨g, 0, none⟩ = some (.pointer (some ⟨b, 0, none⟩)) ∧ w'.cell? ⟨w.heap.size, 1, none⟩ = some (.int .i64 peer))) (by kernel_rfl) ?_ (fun hHeld0 => ?_)
    · (try dsimp only)
      exact KEEP.out _ HB2.out.drew
    refine wpAnyH_take (i := 0) (v := ?_) rfl (by kernel_rfl) (by kernel_rfl) (by kernel_rfl) (fun _ _ _ h => h) (Or.inl ⟨by rfl, ?_⟩) (by assumption) ?_
    rotate_left
    · intro w hSw
      (try dsimp only at hSw)
      go_simp
      try with_reducible rfl
    try simp only [List.getElem_toArray, List.getElem_cons_succ, List.getElem_cons_zero, Act.put, List.setIfInBounds_toArray, List.set_cons_zero, List.set_cons_succ]
    refine wpAnyH_take (i := 1) (v := ?_) rfl (by kernel_rfl) (by kernel_rfl) (by kernel_rfl) (fun _ _ _ h => h) (Or.inl ⟨by rfl, ?_⟩) (by assumption) ?_
    rotate_left
    · intro w hSw
      (try dsimp only at hSw)
      go_simp
      try with_reducible rfl
    try simp only [List.getElem_toArray, List.getElem_cons_succ, List.getElem_cons_zero, Act.put, List.setIfInBounds_toArray, List.set_cons_zero, List.set_cons_succ]
    refine wpAnyH_take (i := 2) (v := ?_) rfl (by kernel_rfl) (by kernel_rfl) (by kernel_rfl) (fun _ _ _ h => h) (Or.inl ⟨by rfl, ?_⟩) (by assumption) ?_
    rotate_left
    · intro w hSw
      (try dsimp only at hSw)
      go_simp
      try with_reducible rfl
    try simp only [List.getElem_toArray, List.getElem_cons_succ, List.getElem_cons_zero, Act.put, List.setIfInBounds_toArray, List.set_cons_zero, List.set_cons_succ]
    refine wpAnyH_take (i := 3) (v := ?_) rfl (by kernel_rfl) (by kernel_rfl) (by kernel_rfl) (fun _ _ _ h => h) (Or.inl ⟨by rfl, ?_⟩) (by assumption) ?_
    rotate_left
    · intro w hSw
      (try dsimp only at hSw)
      go_simp
      try with_reducible rfl
    try simp only [List.getElem_toArray, List.getElem_cons_succ, List.getElem_cons_zero, Act.put, List.setIfInBounds_toArray, List.set_cons_zero, List.set_cons_succ]
    refine wpAnyH_take (i := 4) (v := ?_) rfl (by kernel_rfl) (by kernel_rfl) (by kernel_rfl) (fun _ _ _ h => h) (Or.inl ⟨by rfl, ?_⟩) (by assumption) ?_
    rotate_left
    · intro w hSw
      (try dsimp only at hSw)
      go_simp
      try with_reducible rfl
    try simp only [List.getElem_toArray, List.getElem_cons_succ, List.getElem_cons_zero, Act.put, List.setIfInBounds_toArray, List.set_cons_zero, List.set_cons_succ]
    refine wpAnyH_take (i := 5) (v := ?_) rfl (by kernel_rfl) (by kernel_rfl) (by kernel_rfl) (fun _ _ _ h => h) (Or.inl ⟨by rfl, ?_⟩) (by assumption) ?_
    rotate_left
    · intro w hSw
      (try dsimp only at hSw)
      go_simp
      try with_reducible rfl
    try simp only [List.getElem_toArray, List.getElem_cons_succ, List.getElem_cons_zero, Act.put, List.setIfInBounds_toArray, List.set_cons_zero, List.set_cons_succ]
    refine wpAnyH_ready (rs := [6]) (by kernel_rfl) (by simp) ?_
    refine AllReadyH.cons (i := 6) rfl (fun K hK => ?_) AllReadyH.nil
    go_simp
    refine HJ.out.mono ?_
    rintro e w' ⟨rfl, rfl⟩
    go_wp2_with fail
    refine hK.out _ _ ?_ (fun hHeld1 => ?_)
    · (try dsimp only)
      exact KEEP.out _ HB2.out.drew
    clear hK K
    try simp only [List.getElem_toArray, List.getElem_cons_succ, List.getElem_cons_zero, Act.put, List.setIfInBounds_toArray, List.set_cons_zero, List.set_cons_succ]
    refine wpAnyH_take (i := 7) (v := ?_) rfl (by kernel_rfl) (by kernel_rfl) (by kernel_rfl) (fun _ _ _ h => h) (Or.inl ⟨by rfl, ?_⟩) (by assumption) ?_
    rotate_left
    · intro w hSw
      (try dsimp only at hSw)
      go_simp
      try with_reducible rfl
    try simp only [List.getElem_toArray, List.getElem_cons_succ, List.getElem_cons_zero, Act.put, List.setIfInBounds_toArray, List.set_cons_zero, List.set_cons_succ]
    refine wpAnyH_done (by kernel_rfl) ?_ _
    refine NoPanic.normal ?_
    clear hHeld0 hHeld1 KEEP
    have HB3 : Hid (Below w1.heap.size w1 w2.drew) := HB2.out.drew
    have HEV3 : Hid (EvIn w2.drew a (.media p d)) := HEV.out.below (Below.refl _ _).drew
    clear HB2 HEV HJ
    generalize w2.drew = w3 at *
    clear w2
    by_cases hj : joined R peer = true
    · rw [hj, if_neg (by simp)] at HX
      rw [hj]
      have hta := fun (w : World) (v : Value) => run_typeAssert_same (P := Tryz.prog) w 97 188 v _ Tryz.underlying97 rfl
      obtain ⟨cv, ev, pv, ha, hP⟩ := HEV3.out
      obtain ⟨⟨ca, cc, hcv⟩, ⟨ea, ec, hevv⟩, ⟨pa, pc, hpv⟩⟩ := hP.form
      subst hcv; subst hevv; subst hpv
      dsimp only [medCells] at ha
      subst ha
      have hxr := heap_new w3 (.cells #[.bool p.marker, .int .i64 p.type, .int .u16 p.seq, .int .u32 p.time, .int .u32 p.ssrc, .slice ca p.csrc.length cc, .bool p.hasExt, .int .u16 p.profile, .slice ea p.ext.length ec, .slice pa p.payload.length pc, .int .i64 p.pad, .int .i64 d.layer, .bool d.key, .bool d.start, .int .u16 d.frame] 97)
      have HB4 : Hid (Below w1.heap.size w1 (w3.alloc (.cells #[.bool p.marker, .int .i64 p.type, .int .u16 p.seq, .int .u32 p.time, .int .u32 p.ssrc, .slice ca p.csrc.length cc, .bool p.hasExt, .int .u16 p.profile, .slice ea p.ext.length ec, .slice pa p.payload.length pc, .int .i64 p.pad, .int .i64 d.layer, .bool d.key, .bool d.start, .int .u16 d.frame] 97))) := bel_alloc HB3.out (Nat.le_refl _) _
      have CM := Lib.hid (media_any g b R ep peer p d _ _ _ (w3.alloc (.cells #[.bool p.marker, .int .i64 p.type, .int .u16 p.seq, .int .u32 p.time, .int .u32 p.ssrc, .slice ca p.csrc.length cc, .bool p.hasExt, .int .u16 p.profile, .slice ea p.ext.length ec, .slice pa p.payload.length pc, .int .i64 p.pad, .int .i64 d.layer, .bool d.key, .bool d.start, .int .u16 d.frame] 97)) (HD1.out.below HB4.out) hI hl (hP.below (below_alloc _ _)))
      have hx4 := cell_of ((HB3.out.block w.heap.size (hp_lt HXB.out)).trans HXB.out) 1
      simp only [List.getElem?_toArray, List.getElem?_cons_zero, List.getElem?_cons_succ] at hx4
      have hxl : w.heap.size < w3.heap.size := Nat.lt_of_lt_of_le (hp_lt HXB.out) HB3.out.size
      clear HEV3 hP
      dsimp only [medCells] at CM
      go_wp2_with (first | (with_reducible refine load_at 97 (.tmp 7) rfl ?_; refine load_rowTo2 rfl 97 (.tmp 7) rfl w3.heap.size rfl 97 #[.bool p.marker, .int .i64 p.type, .int .u16 p.seq, .int .u32 p.time, .int .u32 p.ssrc, .slice ca p.csrc.length cc, .bool p.hasExt, .int .u16 p.profile, .slice ea p.ext.length ec, .slice pa p.payload.length pc, .int .i64 p.pad, .int .i64 d.layer, .bool d.key, .bool d.start, .int .u16 d.frame] (0, 0) _ hxr Tryz.underlying97 rfl (by kernel_rfl) ?_) | (go_at_call 106; refine CM.out.mono ?_; rintro e w5 ⟨⟨cs, rfl, htk⟩, hb5⟩; have HB5 := Lib.hid (HB4.out.trans (hb5.mono HB4.out.size)); have hz5 := (HB5.out.block (w.heap.size + 1) (hp_lt HZ.out)).trans HZ.out; have hi := tk_info htk; have hold := tk_hold htk; have hone := htk.one; have HTK := Lib.hid htk; clear htk hb5) | (with_reducible refine store_at 100 (.tmp 4) (.tmp 46) rfl ?_; refine store_rowTo2 rfl 100 (.tmp 4) (.tmp 46) rfl rfl (w.heap.size + 1) cs.toArray rfl rfl 100 #[.int .i64 0, .int .i64 0, .int .i64 0, .int .i64 0, .bool false, .int .i64 0, .int .u16 0, .int .u32 0, .int .u32 0, .slice none 0 0, .bool false, .int .u16 0, .slice none 0 0, .slice none 0 0, .int .i64 0, .int .i64 0, .bool false, .bool false, .int .u16 0, .slice none 0 0, .slice none 0 0, .int .i64 0] hz5 hi hold hone ?_))
      refine bodyPost_ret (v := .agg cs.toArray) ?_ rfl ?_
      · exact results_cell_row (by rfl) _ _ (w.heap.size + 1) 100 cs.toArray (0, 0) _ (by rfl) (setRow_heap _ _ _ _ _ _ hz5) Tryz.underlying100 rfl hi
      exact HEND.out _ cs _ (below_setRow (HBW.out.trans (HB5.out.mono HBW.out.size)) (Nat.le_succ _) _) (HTK.out.setRow hz5 _) HX.out
    · rw [if_pos (by simp [hj])] at HX
      rw [Bool.not_eq_true] at hj
      rw [hj]
      go_wp2_with (first | (go_at_call 78; refine (refused_any 4 0 _).mono ?_; rintro e w5 ⟨⟨cs, rfl, htk⟩, hb5⟩; have HB5 := Lib.hid (HB3.out.trans (hb5.mono HB3.out.size)); have hz5 := (HB5.out.block (w.heap.size + 1) (hp_lt HZ.out)).trans HZ.out; have hi := tk_info htk; have hold := tk_hold htk; have hone := htk.one; have HTK := Lib.hid htk; clear htk hb5) | (with_reducible refine store_at 100 (.tmp 4) (.tmp 35) rfl ?_; refine store_rowTo2 rfl 100 (.tmp 4) (.tmp 35) rfl rfl (w.heap.size + 1) cs.toArray rfl rfl 100 #[.int .i64 0, .int .i64 0, .int .i64 0, .int .i64 0, .bool false, .int .i64 0, .int .u16 0, .int .u32 0, .int .u32 0, .slice none 0 0, .bool false, .int .u16 0, .slice none 0 0, .slice none 0 0, .int .i64 0, .int .i64 0, .bool false, .bool false, .int .u16 0, .slice none 0 0, .slice none 0 0, .int .i64 0] hz5 hi hold hone ?_))
      refine bodyPost_ret (v := .agg cs.toArray) ?_ rfl ?_
      · exact results_cell_row (by rfl) _ _ (w.heap.size + 1) 100 cs.toArray (0, 0) _ (by rfl) (setRow_heap _ _ _ _ _ _ hz5) Tryz.underlying100 rfl hi
      exact HEND.out _ cs _ (below_setRow (HBW.out.trans (HB5.out.mono HBW.out.size)) (Nat.le_succ _) _) (HTK.out.setRow hz5 _) HX.out
  · have hb : (er != 0) = true := by rw [bne_iff_ne]; exact her
    have hb2 : (er == 0) = false := by rw [beq_eq_false_iff_ne]; exact her
    rw [if_pos her] at HX
    go_wp2_with (first | (go_at_call 78; refine (refused_any 3 er _).mono ?_; rintro e w5 ⟨⟨cs, rfl, htk⟩, hb5⟩; have HB5 := Lib.hid (HB2.out.trans (hb5.mono HB2.out.size)); have hz5 := (HB5.out.block (w.heap.size + 1) (hp_lt HZ.out)).trans HZ.out; have hi := tk_info htk; have hold := tk_hold htk; have hone := htk.one; have HTK := Lib.hid htk; clear htk hb5) | (with_reducible refine store_at 100 (.tmp 4) (.tmp 26) rfl ?_; refine store_rowTo2 rfl 100 (.tmp 4) (.tmp 26) rfl rfl (w.heap.size + 1) cs.toArray rfl rfl 100 #[.int .i64 0, .int .i64 0, .int .i64 0, .int .i64 0, .bool false, .int .i64 0, .int .u16 0, .int .u32 0, .int .u32 0, .slice none 0 0, .bool false, .int .u16 0, .slice none 0 0, .slice none 0 0, .int .i64 0, .int .i64 0, .bool false, .bool false, .int .u16 0, .slice none 0 0, .slice none 0 0, .int .i64 0] hz5 hi hold hone ?_))
    refine bodyPost_ret (v := .agg cs.toArray) ?_ rfl ?_
    · exact results_cell_row (by rfl) _ _ (w.heap.size + 1) 100 cs.toArray (0, 0) _ (by rfl) (setRow_heap _ _ _ _ _ _ hz5) Tryz.underlying100 rfl hi
    exact HEND.out _ cs _ (below_setRow (HBW.out.trans (HB5.out.mono HBW.out.size)) (Nat.le_succ _) _) (HTK.out.setRow hz5 _) HX.out
end Go.Proofs.By
set_option linter.unusedSimpArgs false
namespace Go.Proofs.By
open Go.RowKit Go.Proofs.Heap
open Go.Proofs.Rm (TurnRow Turn Room RoomAt Inv doo u32s Do_any DoPost)
open Go.Proofs.Lab (Tabs)
open Go.Proofs.Mem
def TakePost (g b : Nat) (R : Room) (ep : Int) (o : Rm.Op) (l : List UInt8) (w : World) (e : Ending) (w' : World) : Prop :=
  ∃ sv, (∃ cs : List Value, e = .returned (.agg cs.toArray) ∧ TakenIn w' cs (take R ep o l sv).1.1) ∧ DoorAt w' g b (take R ep o l sv).1.2 (take R ep o l sv).2 ∧ Fr w.heap.size (fun k => k = b ∨ k = g) w w'
theorem doo_err {R : Room} {o : Rm.Op} {sv : Value} (h : (doo R o sv).2 ≠ 0) : (doo R o sv).1.2 = R := by
  unfold doo at h ⊢
  split
  · rfl
  · rename_i h1; rw [if_neg h1] at h; exact absurd rfl h
theorem DoorAt.ne {w : World} {g b : Nat} {R : Room} {ep : Int} (h : DoorAt w g b R ep) : g ≠ b := by
  intro e
  obtain ⟨c, hc, _⟩ := h.room.cells
  rw [← e, h.blk] at hc
  injection hc with hc
  injection hc with _ hc
  exact absurd hc (by decide)
theorem DoorAt.setRow {w : World} {g b : Nat} {R : Room} {ep : Int} (h : DoorAt w g b R ep) {X : Nat} {c : Array Value} {f : Nat × Nat} (hg : w.heap[X]? = some (.cells c 100 f)) (hXg : g ≠ X) (hXb : b ≠ X) (c' : Array Value) : DoorAt (w.setRow X c') g b R ep :=
  ⟨by rw [setRow_other w X g _ hXg]; exact h.blk, h.room.fr (fr_setRow w X c') (Nat.le_refl _) (fun e => hXb e) (fun k _ _ hk => by have hk : k = X := hk; rw [hk, hg]; intro h; injection h with h; injection h with _ h; exact absurd h (by decide))⟩
set_option maxRecDepth 100000 in
set_option maxHeartbeats 2000000 in
theorem Take_any (g b : Nat) (R : Room) (ep kd p n q : Int) (nm : List UInt8) (ss : List Int) (sa ba : Option Addr) (sc bl bc : Nat) (l : List UInt8) (w : World) (hD : DoorAt w g b R ep) (hI : Inv R) (hT : Tabs w) (h0 : 0 ≤ ep) (h9 : ep < 1000000000)
    (hn : nm.length < 9223372036854775807) (hs : RRow w (.slice sa ss.length sc) ss.length (u32s ss))
    (hdg : kd = 1 → ∀ w1, Below w.heap.size w w1 → Calls Tryz.prog 76 #[.pointer (some ⟨g, 0, none⟩), .agg #[.int .i64 kd, .int .i64 p, .int .i64 n, .int .i64 q, .string (str nm), .slice sa ss.length sc, .slice ba bl bc]] w1 fun e w' => (∃ cs : List Value, e = .returned (.agg cs.toArray) ∧ TakenIn w' cs (datagram R ep p l).1.1) ∧ DoorAt w' g b (datagram R ep p l).1.2 (datagram R ep p l).2 ∧ Fr w1.heap.size (fun k => k = b ∨ k = g) w1 w') :
    Calls Tryz.prog 44 #[.pointer (some ⟨g, 0, none⟩), .agg #[.int .i64 kd, .int .i64 p, .int .i64 n, .int .i64 q, .string (str nm), .slice sa ss.length sc, .slice ba bl bc]] w (TakePost g b R ep ⟨kd, p, n, q, nm, ss⟩ l w) := by
  have HX : Hid (∀ sv, take R ep ⟨kd, p, n, q, nm, ss⟩ l sv = if kd = 1 then datagram R ep p l else if (doo R ⟨kd, p, n, q, nm, ss⟩ sv).2 ≠ 0 then ((refusedT 6 (doo R ⟨kd, p, n, q, nm, ss⟩ sv).2, R), ep) else ((feedT (ep + 1) [] (doo R ⟨kd, p, n, q, nm, ss⟩ sv).1.1 0, (doo R ⟨kd, p, n, q, nm, ss⟩ sv).1.2), ep + 1)) := fun sv => rfl
  have hgl := hD.cells.2.2.2
  have hbl := hD.room.lt
  have hgb := hD.ne
  have hxb : ((w.alloc (.cells #[.int .i64 kd, .int .i64 p, .int .i64 n, .int .i64 q, .string (str nm), .slice sa ss.length sc, .slice ba bl bc] 32)).alloc (.cells #[.int .i64 0, .int .i64 0, .int .i64 0, .int .i64 0, .bool false, .int .i64 0, .int .u16 0, .int .u32 0, .int .u32 0, .slice none 0 0, .bool false, .int .u16 0, .slice none 0 0, .slice none 0 0, .int .i64 0, .int .i64 0, .bool false, .bool false, .int .u16 0, .slice none 0 0, .slice none 0 0, .int .i64 0] 100)).heap[w.heap.size]? = some (.cells #[.int .i64 kd, .int .i64 p, .int .i64 n, .int .i64 q, .string (str nm), .slice sa ss.length sc, .slice ba bl bc] 32 (0, 0)) := by
    rw [(below_alloc _ _).block _ (by show _ < (w.heap.push _).size; rw [Array.size_push]; exact Nat.lt_succ_self _)]
    exact heap_new w _
  have hz : ((w.alloc (.cells #[.int .i64 kd, .int .i64 p, .int .i64 n, .int .i64 q, .string (str nm), .slice sa ss.length sc, .slice ba bl bc] 32)).alloc (.cells #[.int .i64 0, .int .i64 0, .int .i64 0, .int .i64 0, .bool false, .int .i64 0, .int .u16 0, .int .u32 0, .int .u32 0, .slice none 0 0, .bool false, .int .u16 0, .slice none 0 0, .slice none 0 0, .int .i64 0, .int .i64 0, .bool false, .bool false, .int .u16 0, .slice none 0 0, .slice none 0 0, .int .i64 0] 100)).heap[w.heap.size + 1]? = some (.cells #[.int .i64 0, .int .i64 0, .int .i64 0, .int .i64 0, .bool false, .int .i64 0, .int .u16 0, .int .u32 0, .int .u32 0, .slice none 0 0, .bool false, .int .u16 0, .slice none 0 0, .slice none 0 0, .int .i64 0, .int .i64 0, .bool false, .bool false, .int .u16 0, .slice none 0 0, .slice none 0 0, .int .i64 0] 100 (0, 0)) := by
    have h := heap_new (w.alloc (.cells #[.int .i64 kd, .int .i64 p, .int .i64 n, .int .i64 q, .string (str nm), .slice sa ss.length sc, .slice ba bl bc] 32)) (.cells #[.int .i64 0, .int .i64 0, .int .i64 0, .int .i64 0, .bool false, .int .i64 0, .int .u16 0, .int .u32 0, .int .u32 0, .slice none 0 0, .bool false, .int .u16 0, .slice none 0 0, .slice none 0 0, .int .i64 0, .int .i64 0, .bool false, .bool false, .int .u16 0, .slice none 0 0, .slice none 0 0, .int .i64 0] 100)
    have e : (w.alloc (.cells #[.int .i64 kd, .int .i64 p, .int .i64 n, .int .i64 q, .string (str nm), .slice sa ss.length sc, .slice ba bl bc] 32)).heap.size = w.heap.size + 1 := by show (w.heap.push _).size = _; rw [Array.size_push]
    rw [e] at h
    exact h
  have hbw : Below w.heap.size w ((w.alloc (.cells #[.int .i64 kd, .int .i64 p, .int .i64 n, .int .i64 q, .string (str nm), .slice sa ss.length sc, .slice ba bl bc] 32)).alloc (.cells #[.int .i64 0, .int .i64 0, .int .i64 0, .int .i64 0, .bool false, .int .i64 0, .int .u16 0, .int .u32 0, .int .u32 0, .slice none 0 0, .bool false, .int .u16 0, .slice none 0 0, .slice none 0 0, .int .i64 0, .int .i64 0, .bool false, .bool false, .int .u16 0, .slice none 0 0, .slice none 0 0, .int .i64 0] 100)) := bel_alloc (below_alloc w _) (Nat.le_refl _) _
  have HD1 : Hid (DoorAt ((w.alloc (.cells #[.int .i64 kd, .int .i64 p, .int .i64 n, .int .i64 q, .string (str nm), .slice sa ss.length sc, .slice ba bl bc] 32)).alloc (.cells #[.int .i64 0, .int .i64 0, .int .i64 0, .int .i64 0, .bool false, .int .i64 0, .int .u16 0, .int .u32 0, .int .u32 0, .slice none 0 0, .bool false, .int .u16 0, .slice none 0 0, .slice none 0 0, .int .i64 0, .int .i64 0, .bool false, .bool false, .int .u16 0, .slice none 0 0, .slice none 0 0, .int .i64 0] 100)) g b R ep) := hD.below hbw
  have HXB := Lib.hid hxb
  have HZ := Lib.hid hz
  have HBW := Lib.hid hbw
  have HEND : Hid (∀ w2 cs (T : (Taken × Room) × Int) sv, Fr ((w.alloc (.cells #[.int .i64 kd, .int .i64 p, .int .i64 n, .int .i64 q, .string (str nm), .slice sa ss.length sc, .slice ba bl bc] 32)).alloc (.cells #[.int .i64 0, .int .i64 0, .int .i64 0, .int .i64 0, .bool false, .int .i64 0, .int .u16 0, .int .u32 0, .int .u32 0, .slice none 0 0, .bool false, .int .u16 0, .slice none 0 0, .slice none 0 0, .int .i64 0, .int .i64 0, .bool false, .bool false, .int .u16 0, .slice none 0 0, .slice none 0 0, .int .i64 0] 100)).heap.size (fun k => k = b ∨ k = g) ((w.alloc (.cells #[.int .i64 kd, .int .i64 p, .int .i64 n, .int .i64 q, .string (str nm), .slice sa ss.length sc, .slice ba bl bc] 32)).alloc (.cells #[.int .i64 0, .int .i64 0, .int .i64 0, .int .i64 0, .bool false, .int .i64 0, .int .u16 0, .int .u32 0, .int .u32 0, .slice none 0 0, .bool false, .int .u16 0, .slice none 0 0, .slice none 0 0, .int .i64 0, .int .i64 0, .bool false, .bool false, .int .u16 0, .slice none 0 0, .slice none 0 0, .int .i64 0] 100)) w2 → TakenIn w2 cs T.1.1 → DoorAt w2 g b T.1.2 T.2 → take R ep ⟨kd, p, n, q, nm, ss⟩ l sv = T → TakePost g b R ep ⟨kd, p, n, q, nm, ss⟩ l w (.returned (.agg cs.toArray)) (w2.setRow (w.heap.size + 1) cs.toArray)) := fun w2 cs T sv h1 h2 h3 h4 => by
    have hz2 := (h1.block (w.heap.size + 1) (hp_lt hz) (by omega)).trans hz
    refine ⟨sv, ⟨cs, rfl, by rw [h4]; exact h2.setRow hz2 _⟩, by rw [h4]; exact h3.setRow hz2 (by omega) (by omega) _, ?_⟩
    exact fr_setRow' ((Fr.of_below _ hbw).trans (h1.mono hbw.size (fun _ _ h => h))) (Nat.le_succ _) _
  by_cases hk : kd = 1
  · have CD := Lib.hid (hdg hk _ hbw)
    have HXX : Hid (take R ep ⟨kd, p, n, q, nm, ss⟩ l (.slice none 0 0) = datagram R ep p l) := by show _ = _; rw [HX.out, if_pos hk]
    subst hk
    clear HX hdg hD hT hs hxb hz hbw
    generalize datagram R ep p l = X at *
    go_enter Tryz.func44, Tryz.ntmps44
    go_wp2_with (first | (go_at_call 76; refine CD.out.mono ?_; rintro e w2 ⟨⟨cs, rfl, htk⟩, hd2, hf2⟩; have hz5 := (hf2.block (w.heap.size + 1) (hp_lt HZ.out) (by omega)).trans HZ.out; have hi := tk_info htk; have hold := tk_hold htk; have hone := htk.one; have HTK := Lib.hid htk; have HD2 := Lib.hid hd2; have HF2 := Lib.hid hf2; clear htk hd2 hf2) | (with_reducible refine store_at 100 (.tmp 4) (.tmp 12) rfl ?_; refine store_rowTo2 rfl 100 (.tmp 4) (.tmp 12) rfl rfl (w.heap.size + 1) cs.toArray rfl rfl 100 #[.int .i64 0, .int .i64 0, .int .i64 0, .int .i64 0, .bool false, .int .i64 0, .int .u16 0, .int .u32 0, .int .u32 0, .slice none 0 0, .bool false, .int .u16 0, .slice none 0 0, .slice none 0 0, .int .i64 0, .int .i64 0, .bool false, .bool false, .int .u16 0, .slice none 0 0, .slice none 0 0, .int .i64 0] hz5 hi hold hone ?_))
    refine bodyPost_ret (v := .agg cs.toArray) ?_ rfl ?_
    · exact results_cell_row (by rfl) _ _ (w.heap.size + 1) 100 cs.toArray (0, 0) _ (by rfl) (setRow_heap _ _ _ _ _ _ hz5) Tryz.underlying100 rfl hi
    exact HEND.out _ cs _ _ HF2.out HTK.out HD2.out HXX.out
  · have HXX : Hid (∀ sv, take R ep ⟨kd, p, n, q, nm, ss⟩ l sv = if (doo R ⟨kd, p, n, q, nm, ss⟩ sv).2 ≠ 0 then ((refusedT 6 (doo R ⟨kd, p, n, q, nm, ss⟩ sv).2, R), ep) else ((feedT (ep + 1) [] (doo R ⟨kd, p, n, q, nm, ss⟩ sv).1.1 0, (doo R ⟨kd, p, n, q, nm, ss⟩ sv).1.2), ep + 1)) := fun sv => by rw [HX.out, if_neg hk]
    have CD := Lib.hid (Do_any b R ⟨kd, p, n, q, nm, ss⟩ sa ba sc bl bc ((w.alloc (.cells #[.int .i64 kd, .int .i64 p, .int .i64 n, .int .i64 q, .string (str nm), .slice sa ss.length sc, .slice ba bl bc] 32)).alloc (.cells #[.int .i64 0, .int .i64 0, .int .i64 0, .int .i64 0, .bool false, .int .i64 0, .int .u16 0, .int .u32 0, .int .u32 0, .slice none 0 0, .bool false, .int .u16 0, .slice none 0 0, .slice none 0 0, .int .i64 0, .int .i64 0, .bool false, .bool false, .int .u16 0, .slice none 0 0, .slice none 0 0, .int .i64 0] 100)).drew (HD1.out.room.below (Below.refl _ _).drew) hI (Utf8Tabs_below hT hbw.drew) hn (hs.below hbw.drew))
    have hkb : (kd == 1) = false := by rw [beq_eq_false_iff_ne]; exact hk
    dsimp only at CD
    clear HX hdg hD hT hs hxb hz hbw
    generalize hdo : doo R ⟨kd, p, n, q, nm, ss⟩ = DO at *
    go_enter Tryz.func44, Tryz.ntmps44
    go_upto_region 3 with fail
    generalize ((w.alloc (.cells #[.int .i64 kd, .int .i64 p, .int .i64 n, .int .i64 q, .string (str nm), .slice sa ss.length sc, .slice ba bl bc] 32)).alloc (.cells #[.int .i64 0, .int .i64 0, .int .i64 0, .int .i64 0, .bool false, .int .i64 0, .int .u16 0, .int .u32 0, .int .u32 0, .slice none 0 0, .bool false, .int .u16 0, .slice none 0 0, .slice none 0 0, .int .i64 0, .int .i64 0, .bool false, .bool false, .int .u16 0, .slice none 0 0, .slice none 0 0, .int .i64 0] 100)) = w1 at *
    have cg1 := HD1.out.cells.1
    have hx1 := HXB.out
    refine wp_region_noPanic ?_
    refine wp_region_held_drew (S := (fun w' => w'.cell? ⟨g, 0, none⟩ = some (.pointer (some ⟨b, 0, none⟩)))) (by kernel_rfl) ?_ (fun hHeld0 => ?_)
    · (try dsimp only)
      exact cg1
    refine wpAnyH_take (i := 0) (v := ?_) rfl (by kernel_rfl) (by kernel_rfl) (by kernel_rfl) (fun _ _ _ h => h) (Or.inl ⟨by rfl, ?_⟩) (by assumption) ?_
    rotate_left
    · intro w hSw
      (try dsimp only at hSw)
      go_simp
      try with_reducible rfl
    try simp only [List.getElem_toArray, List.getElem_cons_succ, List.getElem_cons_zero, Act.put, List.setIfInBounds_toArray, List.set_cons_zero, List.set_cons_succ]
    refine wpAnyH_take (i := 1) (v := ?_) rfl (by kernel_rfl) (by kernel_rfl) (by kernel_rfl) (fun _ _ _ h => h) (Or.inl ⟨by rfl, ?_⟩) (by assumption) ?_
    rotate_left
    · intro w hSw
      (try dsimp only at hSw)
      go_simp
      try with_reducible rfl
    try simp only [List.getElem_toArray, List.getElem_cons_succ, List.getElem_cons_zero, Act.put, List.setIfInBounds_toArray, List.set_cons_zero, List.set_cons_succ]
    refine wpAnyH_take (i := 2) (v := ?_) rfl (by kernel_rfl) (by kernel_rfl) (by kernel_rfl) (fun _ _ _ h => h) (Or.inl ⟨by rfl, ?_⟩) (by assumption) ?_
    rotate_left
    · intro w hSw
      (try dsimp only at hSw)
      go_simp
      try with_reducible rfl
    try simp only [List.getElem_toArray, List.getElem_cons_succ, List.getElem_cons_zero, Act.put, List.setIfInBounds_toArray, List.set_cons_zero, List.set_cons_succ]
    refine wpAnyH_take (i := 3) (v := ?_) rfl (by kernel_rfl) (by kernel_rfl) (by kernel_rfl) (fun _ _ _ h => h) (Or.inl ⟨by rfl, ?_⟩) (by assumption) ?_
    rotate_left
    · intro w hSw
      (try dsimp only at hSw)
      go_simp
      try with_reducible rfl
    try simp only [List.getElem_toArray, List.getElem_cons_succ, List.getElem_cons_zero, Act.put, List.setIfInBounds_toArray, List.set_cons_zero, List.set_cons_succ]
    refine wpAnyH_ready (rs := [4]) (by kernel_rfl) (by simp) ?_
    refine AllReadyH.cons (i := 4) rfl (fun K hK => ?_) AllReadyH.nil
    refine step_loadrow (by rfl) 32 (.tmp 3) (by rfl) w.heap.size (by rfl) 32 #[.int .i64 kd, .int .i64 p, .int .i64 n, .int .i64 q, .string (str nm), .slice sa ss.length sc, .slice ba bl bc] (0, 0) _ hx1 Tryz.underlying32 rfl (by kernel_rfl) ?_
    refine hK.out _ _ ?_ (fun hHeld1 => ?_)
    · (try dsimp only)
      first | exact cg2 | exact cg1
    clear hK K
    try simp only [List.getElem_toArray, List.getElem_cons_succ, List.getElem_cons_zero, Act.put, List.setIfInBounds_toArray, List.set_cons_zero, List.set_cons_succ]
    refine wpAnyH_ready (rs := [5]) (by kernel_rfl) (by simp) ?_
    refine AllReadyH.cons (i := 5) rfl (fun K hK => ?_) AllReadyH.nil
    go_simp
    refine CD.out.mono ?_
    rintro e w2 ⟨v, sv, rfl, htr, hroom, hfr⟩
    rw [hdo] at htr hroom
    try rw [hdo]
    obtain ⟨va, vc, hv, -⟩ := id htr
    subst hv
    have HTAKE := Lib.hid (HXX.out sv)
    have HDOR : Hid ((DO sv).2 ≠ 0 → (DO sv).1.2 = R) := by rw [← hdo]; exact doo_err
    have HF2 : Hid (Fr w1.heap.size (fun k => k = b ∨ k = g) w1 w2) := (Fr.of_below _ (Below.refl w1.heap.size w1).drew).trans (hfr.mono (Nat.le_refl _) (fun _ _ h => Or.inl h))
    have HD2 : Hid (DoorAt w2 g b (DO sv).1.2 ep) := ⟨(hfr.block g (by have h := HD1.out.cells.2.2.2; exact h) hgb).trans HD1.out.blk, hroom⟩
    have HTR := Lib.hid htr
    have cg2 := HD2.out.cells.1
    clear htr hroom hfr CD
    generalize (DO sv).1.1.length = vn at *
    go_wp2_with fail
    refine hK.out _ _ ?_ (fun hHeld2 => ?_)
    · (try dsimp only)
      first | exact cg2 | exact cg1
    clear hK K
    try simp only [List.getElem_toArray, List.getElem_cons_succ, List.getElem_cons_zero, Act.put, List.setIfInBounds_toArray, List.set_cons_zero, List.set_cons_succ]
    refine wpAnyH_take (i := 6) (v := ?_) rfl (by kernel_rfl) (by kernel_rfl) (by kernel_rfl) (fun _ _ _ h => h) (Or.inl ⟨by rfl, ?_⟩) (by assumption) ?_
    rotate_left
    · intro w hSw
      (try dsimp only at hSw)
      go_simp
      try with_reducible rfl
    try simp only [List.getElem_toArray, List.getElem_cons_succ, List.getElem_cons_zero, Act.put, List.setIfInBounds_toArray, List.set_cons_zero, List.set_cons_succ]
    refine wpAnyH_take (i := 7) (v := ?_) rfl (by kernel_rfl) (by kernel_rfl) (by kernel_rfl) (fun _ _ _ h => h) (Or.inl ⟨by rfl, ?_⟩) (by assumption) ?_
    rotate_left
    · intro w hSw
      (try dsimp only at hSw)
      go_simp
      try with_reducible rfl
    try simp only [List.getElem_toArray, List.getElem_cons_succ, List.getElem_cons_zero, Act.put, List.setIfInBounds_toArray, List.set_cons_zero, List.set_cons_succ]
    refine wpAnyH_take (i := 8) (v := ?_) rfl (by kernel_rfl) (by kernel_rfl) (by kernel_rfl) (fun _ _ _ h => h) (Or.inl ⟨by rfl, ?_⟩) (by assumption) ?_
    rotate_left
    · intro w hSw
      (try dsimp only at hSw)
      go_simp
      try with_reducible rfl
    try simp only [List.getElem_toArray, List.getElem_cons_succ, List.getElem_cons_zero, Act.put, List.setIfInBounds_toArray, List.set_cons_zero, List.set_cons_succ]
    refine wpAnyH_take (i := 9) (v := ?_) rfl (by kernel_rfl) (by kernel_rfl) (by kernel_rfl) (fun _ _ _ h => h) (Or.inl ⟨by rfl, ?_⟩) (by assumption) ?_
    rotate_left
    · intro w hSw
      (try dsimp only at hSw)
      go_simp
      try with_reducible rfl
    try simp only [List.getElem_toArray, List.getElem_cons_succ, List.getElem_cons_zero, Act.put, List.setIfInBounds_toArray, List.set_cons_zero, List.set_cons_succ]
    refine wpAnyH_take (i := 10) (v := ?_) rfl (by kernel_rfl) (by kernel_rfl) (by kernel_rfl) (fun _ _ _ h => h) (Or.inl ⟨by rfl, ?_⟩) (by assumption) ?_
    rotate_left
    · intro w hSw
      (try dsimp only at hSw)
      go_simp
      try with_reducible rfl
    try simp only [List.getElem_toArray, List.getElem_cons_succ, List.getElem_cons_zero, Act.put, List.setIfInBounds_toArray, List.set_cons_zero, List.set_cons_succ]
    refine wpAnyH_done (by kernel_rfl) ?_ _
    refine NoPanic.normal ?_
    clear hHeld0 hHeld1 hHeld2
    by_cases he : (DO sv).2 = 0
    · rw [he]
      rw [if_neg (by simp [he])] at HTAKE
      have hcs : ([.int .i64 0, .int .i64 0, .int .i64 0, .int .i64 0, .bool false, .int .i64 0, .int .u16 0, .int .u32 0, .int .u32 0, .slice none 0 0, .bool false, .int .u16 0, .slice none 0 0, .slice none 0 0, .int .i64 0, .int .i64 0, .bool false, .bool false, .int .u16 0, .slice none 0 0, .slice va vn vc, .int .i64 0] : List Value).length = 22 := rfl
      have CC := Lib.hid (control_any g (.pointer (some ⟨b, 0, none⟩)) ep [.int .i64 0, .int .i64 0, .int .i64 0, .int .i64 0, .bool false, .int .i64 0, .int .u16 0, .int .u32 0, .int .u32 0, .slice none 0 0, .bool false, .int .u16 0, .slice none 0 0, .slice none 0 0, .int .i64 0, .int .i64 0, .bool false, .bool false, .int .u16 0, .slice none 0 0, .slice va vn vc, .int .i64 0] w2 HD2.out.blk h0 h9 rfl (by kernel_rfl))
      clear hcs
      have HTK2 : Hid (TakenIn w2 ((([.int .i64 0, .int .i64 0, .int .i64 0, .int .i64 0, .bool false, .int .i64 0, .int .u16 0, .int .u32 0, .int .u32 0, .slice none 0 0, .bool false, .int .u16 0, .slice none 0 0, .slice none 0 0, .int .i64 0, .int .i64 0, .bool false, .bool false, .int .u16 0, .slice none 0 0, .slice va vn vc, .int .i64 0] : List Value).set 0 (.int .i64 2)).set 2 (.int .i64 (ep + 1))) (feedT (ep + 1) [] (DO sv).1.1 0)) := ⟨_, _, _, _, _, rfl, PktR.nil _, ItmsRow.nil _, HTR.out⟩
      have HAP := Lib.hid HD2.out.apart
      generalize hcc : ((([.int .i64 0, .int .i64 0, .int .i64 0, .int .i64 0, .bool false, .int .i64 0, .int .u16 0, .int .u32 0, .int .u32 0, .slice none 0 0, .bool false, .int .u16 0, .slice none 0 0, .slice none 0 0, .int .i64 0, .int .i64 0, .bool false, .bool false, .int .u16 0, .slice none 0 0, .slice va vn vc, .int .i64 0] : List Value).set 0 (.int .i64 2)).set 2 (.int .i64 (ep + 1))) = cs at *
      have HCC := Lib.hid hcc
      clear hcc
      go_wp2_with (first | (go_at_call 79; refine CC.out.mono ?_; rintro e w5 ⟨rfl, hg5, hf5⟩; have HF5 : Hid (Fr w1.heap.size (fun k => k = b ∨ k = g) w1 w5) := HF2.out.trans (hf5.mono HF2.out.size (fun _ _ h => Or.inr h)); have hz5 := (HF5.out.block (w.heap.size + 1) (hp_lt HZ.out) (by omega)).trans HZ.out; have HTK : Hid (TakenIn w5 cs (feedT (ep + 1) [] (DO sv).1.1 0)) := HTK2.out.fr hf5 (fun k hk => HAP.out k (Or.inr hk)); have HD5 : Hid (DoorAt w5 g b (DO sv).1.2 (ep + 1)) := ⟨hg5, HD2.out.room.fr hf5 (Nat.le_refl _) (fun h => hgb (Eq.symm h)) (fun k c fr hk => HAP.out.ne (by simp) k c fr (Or.inr hk))⟩; have hi := tk_info HTK.out; have hold := tk_hold HTK.out; have hone := HTK.out.one; clear hg5 hf5 CC) | (with_reducible refine store_at 100 (.tmp 4) (.tmp 29) rfl ?_; refine store_rowTo2 rfl 100 (.tmp 4) (.tmp 29) rfl rfl (w.heap.size + 1) cs.toArray rfl rfl 100 #[.int .i64 0, .int .i64 0, .int .i64 0, .int .i64 0, .bool false, .int .i64 0, .int .u16 0, .int .u32 0, .int .u32 0, .slice none 0 0, .bool false, .int .u16 0, .slice none 0 0, .slice none 0 0, .int .i64 0, .int .i64 0, .bool false, .bool false, .int .u16 0, .slice none 0 0, .slice none 0 0, .int .i64 0] hz5 hi hold hone ?_))
      refine bodyPost_ret (v := .agg cs.toArray) ?_ rfl ?_
      · exact results_cell_row (by rfl) _ _ (w.heap.size + 1) 100 cs.toArray (0, 0) _ (by rfl) (setRow_heap _ _ _ _ _ _ hz5) Tryz.underlying100 rfl hi
      exact HEND.out _ cs _ _ HF5.out HTK.out HD5.out HTAKE.out
    · rw [if_pos he] at HTAKE
      have hb : ((DO sv).2 != 0) = true := by rw [bne_iff_ne]; exact he
      have hb2 : ((DO sv).2 == 0) = false := by rw [beq_eq_false_iff_ne]; exact he
      have HDR : Hid (DoorAt w2 g b R ep) := by have h := HD2.out; rw [HDOR.out he] at h; exact h
      clear HD2
      go_wp2_with (first | (go_at_call 78; refine (refused_any 6 (DO sv).2 _).mono ?_; rintro e w5 ⟨⟨cs, rfl, htk⟩, hb5⟩; have HF5 : Hid (Fr w1.heap.size (fun k => k = b ∨ k = g) w1 w5) := HF2.out.trans (Fr.of_below _ (hb5.mono HF2.out.size)); have hz5 := (HF5.out.block (w.heap.size + 1) (hp_lt HZ.out) (by omega)).trans HZ.out; have HD5 := Lib.hid (HDR.out.below hb5); have hi := tk_info htk; have hold := tk_hold htk; have hone := htk.one; have HTK := Lib.hid htk; clear htk hb5) | (with_reducible refine store_at 100 (.tmp 4) (.tmp 25) rfl ?_; refine store_rowTo2 rfl 100 (.tmp 4) (.tmp 25) rfl rfl (w.heap.size + 1) cs.toArray rfl rfl 100 #[.int .i64 0, .int .i64 0, .int .i64 0, .int .i64 0, .bool false, .int .i64 0, .int .u16 0, .int .u32 0, .int .u32 0, .slice none 0 0, .bool false, .int .u16 0, .slice none 0 0, .slice none 0 0, .int .i64 0, .int .i64 0, .bool false, .bool false, .int .u16 0, .slice none 0 0, .slice none 0 0, .int .i64 0] hz5 hi hold hone ?_))
      refine bodyPost_ret (v := .agg cs.toArray) ?_ rfl ?_
      · exact results_cell_row (by rfl) _ _ (w.heap.size + 1) 100 cs.toArray (0, 0) _ (by rfl) (setRow_heap _ _ _ _ _ _ hz5) Tryz.underlying100 rfl hi
      exact HEND.out _ cs _ _ HF5.out HTK.out HD5.out HTAKE.out
end Go.Proofs.By
namespace Go.Proofs.By
open Go.Proofs.Rm (Room)
structure Cnts where
  bad : Int
  stranger : Int
  unknown : Int
  refused : Int
def noCnts : Cnts := ⟨0, 0, 0, 0⟩
def Cnts.add (c : Cnts) (k u : Int) : Cnts :=
  ⟨if k = 3 then c.bad + 1 else c.bad, if k = 4 then c.stranger + 1 else c.stranger, (if k = 5 then c.unknown + 1 else c.unknown) + u, if k = 6 then c.refused + 1 else c.refused⟩
structure Cnts.Below (c : Cnts) (n : Int) : Prop where
  bad : 0 ≤ c.bad ∧ c.bad ≤ n
  stranger : 0 ≤ c.stranger ∧ c.stranger ≤ n
  unknown : 0 ≤ c.unknown ∧ c.unknown ≤ n
  refused : 0 ≤ c.refused ∧ c.refused ≤ n
structure Frnt where
  R : Room
  ep : Int
  c : Cnts
def front0 : Frnt := ⟨Rm.empty, 0, noCnts⟩
def Frnt.take (F : Frnt) (o : Rm.Op) (b : List UInt8) (sv : Value) : Taken × Frnt :=
  ((Go.Proofs.By.take F.R F.ep o b sv).1.1, ⟨(Go.Proofs.By.take F.R F.ep o b sv).1.2, (Go.Proofs.By.take F.R F.ep o b sv).2, F.c.add (Go.Proofs.By.take F.R F.ep o b sv).1.1.adm.kind (Go.Proofs.By.take F.R F.ep o b sv).1.1.unknown⟩)
end Go.Proofs.By
set_option linter.unusedSimpArgs false
namespace Go.Proofs.By
open Go.RowKit Go.Proofs.Heap
open Go.Proofs.Rm (TurnRow Turn Room RoomAt Inv New_any Table_any TabAt table)
def fcells (d : Nat) (c : Cnts) : Array Value := #[.pointer (some ⟨d, 0, none⟩), .int .i64 c.bad, .int .i64 c.stranger, .int .i64 c.unknown, .int .i64 c.refused, .int .i64 0, .int .i64 0, .int .i64 0, .int .i64 0]
/-- Block f holds a front; its door lies in d, its room in b. -/
structure FrontAt (w : World) (f d b : Nat) (F : Frnt) : Prop where
  blk : w.heap[f]? = some (.cells (fcells d F.c) 90 (0, 0))
  door : DoorAt w d b F.R F.ep
theorem FrontAt.below {w w' : World} {f d b : Nat} {F : Frnt} (h : FrontAt w f d b F) (hb : Below w.heap.size w w') : FrontAt w' f d b F := ⟨by rw [hb.block f (hp_lt h.blk)]; exact h.blk, h.door.below hb⟩
theorem FrontAt.ne {w : World} {f d b : Nat} {F : Frnt} (h : FrontAt w f d b F) : f ≠ d ∧ f ≠ b ∧ d ≠ b := by
  refine ⟨fun e => ?_, fun e => ?_, h.door.ne⟩
  · have h1 := h.blk
    rw [e, h.door.blk] at h1
    injection h1 with h1
    injection h1 with _ h1
    exact absurd h1 (by decide)
  · obtain ⟨c, hc, _⟩ := h.door.room.cells
    rw [← e, h.blk] at hc
    injection hc with hc
    injection hc with _ hc
    exact absurd hc (by decide)
theorem tab_form {w : World} {pv sv uv : Value} {T : Rm.Tab} (h : TabAt w pv sv uv T) : (∃ a n c, pv = .slice a n c) ∧ (∃ a n c, sv = .slice a n c) ∧ (∃ a n c, uv = .slice a n c) := by
  obtain ⟨a, ⟨ms, _, b, _⟩, c⟩ := h
  obtain ⟨_, _, h1⟩ := Row.form a
  obtain ⟨_, _, h2⟩ := Row.form b
  obtain ⟨_, _, h3⟩ := Row.form c
  exact ⟨⟨_, _, _, h1⟩, ⟨_, _, _, h2⟩, ⟨_, _, _, h3⟩⟩
theorem DoorNew_any (w : World) : Calls Tryz.prog 40 #[] w fun e w' => (∃ d b, e = .returned (.pointer (some ⟨d, 0, none⟩)) ∧ DoorAt w' d b Rm.empty 0 ∧ w.heap.size ≤ d ∧ w.heap.size ≤ b) ∧ Below w.heap.size w w' := by
  have C := Lib.hid (New_any w)
  go_enter Tryz.func40, Tryz.ntmps40
  go_wp2_with (go_at_call 69; refine C.out.mono ?_; rintro e w2 ⟨rfl, hroom, hb2⟩; have HR := Lib.hid hroom; have HB := Lib.hid hb2; clear hroom hb2)
  go_ret
  exact ⟨⟨_, w.heap.size, rfl, ⟨heap_new w2 _, HR.out.below (below_alloc w2 _)⟩, HB.out.size, Nat.le_refl _⟩, bel_alloc HB.out (Nat.le_refl _) _⟩
theorem FrontNew_any (w : World) : Calls Tryz.prog 16 #[] w fun e w' => (∃ f d b, e = .returned (.pointer (some ⟨f, 0, none⟩)) ∧ FrontAt w' f d b front0 ∧ w.heap.size ≤ f ∧ w.heap.size ≤ d ∧ w.heap.size ≤ b) ∧ Below w.heap.size w w' := by
  have C := Lib.hid (DoorNew_any w)
  go_enter Tryz.func16, Tryz.ntmps16
  go_wp2_with (go_at_call 40; refine C.out.mono ?_; rintro e w2 ⟨⟨d, b, rfl, hd, hd1, hd2⟩, hb2⟩; have HR := Lib.hid hd; have HB := Lib.hid hb2; have HD1 := Lib.hid hd1; have HD2 := Lib.hid hd2; clear hd hb2 hd1 hd2)
  go_ret
  exact ⟨⟨_, d, b, rfl, ⟨heap_new w2 _, HR.out.below (below_alloc w2 _)⟩, HB.out.size, HD1.out, HD2.out⟩, bel_alloc HB.out (Nat.le_refl _) _⟩
theorem DoorEpoch_any (g b : Nat) (R : Room) (ep : Int) (w : World) (h : DoorAt w g b R ep) : Calls Tryz.prog 52 #[.pointer (some ⟨g, 0, none⟩)] w fun e w' => e = .returned (.int .i64 ep) ∧ w = w' := by
  have c1 := h.cells.2.1
  clear h
  go_enter Tryz.func52, Tryz.ntmps52
  go_wp2
  go_ret
  exact ⟨rfl, rfl⟩
theorem DoorRoom_any (g b : Nat) (R : Room) (ep : Int) (w : World) (h : DoorAt w g b R ep) : Calls Tryz.prog 46 #[.pointer (some ⟨g, 0, none⟩)] w fun e w' => e = .returned (.pointer (some ⟨b, 0, none⟩)) ∧ w = w' := by
  have c1 := h.cells.1
  clear h
  go_enter Tryz.func46, Tryz.ntmps46
  go_wp2
  go_ret
  exact ⟨rfl, rfl⟩
theorem Epoch_any (f d b : Nat) (F : Frnt) (w : World) (h : FrontAt w f d b F) : Calls Tryz.prog 23 #[.pointer (some ⟨f, 0, none⟩)] w fun e w' => e = .returned (.int .i64 F.ep) ∧ w = w' := by
  have c1 : w.cell? ⟨f, 0, none⟩ = some (.pointer (some ⟨d, 0, none⟩)) := cell_of h.blk 0
  have C := Lib.hid (DoorEpoch_any d b F.R F.ep w h.door)
  clear h
  go_enter Tryz.func23, Tryz.ntmps23
  go_wp2_with (go_at_call 52; refine C.out.mono ?_; rintro e w2 ⟨rfl, rfl⟩)
  go_ret
  exact ⟨rfl, rfl⟩
theorem Counts_any (f d b : Nat) (F : Frnt) (w : World) (h : FrontAt w f d b F) : Calls Tryz.prog 19 #[.pointer (some ⟨f, 0, none⟩)] w fun e w' => e = .returned (.agg #[.int .i64 F.c.bad, .int .i64 F.c.stranger, .int .i64 F.c.unknown, .int .i64 F.c.refused, .int .i64 0, .int .i64 0, .int .i64 0, .int .i64 0]) ∧ Below w.heap.size w w' := by
  have hfl := hp_lt h.blk
  have c1 : w.cell? ⟨f, 1, none⟩ = some (.int .i64 F.c.bad) := cell_of h.blk 1
  have c2 : w.cell? ⟨f, 2, none⟩ = some (.int .i64 F.c.stranger) := cell_of h.blk 2
  have c3 : w.cell? ⟨f, 3, none⟩ = some (.int .i64 F.c.unknown) := cell_of h.blk 3
  have c4 : w.cell? ⟨f, 4, none⟩ = some (.int .i64 F.c.refused) := cell_of h.blk 4
  have c5 : w.cell? ⟨f, 5, none⟩ = some (.int .i64 0) := cell_of h.blk 5
  have c6 : w.cell? ⟨f, 6, none⟩ = some (.int .i64 0) := cell_of h.blk 6
  have c7 : w.cell? ⟨f, 7, none⟩ = some (.int .i64 0) := cell_of h.blk 7
  have c8 : w.cell? ⟨f, 8, none⟩ = some (.int .i64 0) := cell_of h.blk 8
  clear h
  go_enter Tryz.func19, Tryz.ntmps19
  go_wp2
  refine bodyPost_ret (v := .agg #[.int .i64 F.c.bad, .int .i64 F.c.stranger, .int .i64 F.c.unknown, .int .i64 F.c.refused, .int .i64 0, .int .i64 0, .int .i64 0, .int .i64 0]) (by simp [results, Tryz.results19, go_sem]) rfl ⟨rfl, below_alloc w _⟩
theorem FrontTable_any (f d b : Nat) (F : Frnt) (w : World) (h : FrontAt w f d b F) (hl : ∀ n, (F.R.src n).ss.length ≤ 1000000) : Calls Tryz.prog 21 #[.pointer (some ⟨f, 0, none⟩)] w fun e w' => (∃ pv sv uv, e = .returned (.agg #[pv, sv, uv]) ∧ TabAt w' pv sv uv (table F.R)) ∧ Below w.heap.size w w' := by
  have hfl := hp_lt h.blk
  have c1 : w.cell? ⟨f, 0, none⟩ = some (.pointer (some ⟨d, 0, none⟩)) := cell_of h.blk 0
  have hb1 := below_alloc w (.cells #[.slice none 0 0, .slice none 0 0, .slice none 0 0] 51)
  have C1 := Lib.hid (DoorRoom_any d b F.R F.ep _ (h.door.below hb1))
  have C2 := Lib.hid (Table_any b F.R _ (h.door.room.below hb1) hl)
  have HB1 := Lib.hid hb1
  have hxr := heap_new w (.cells #[.slice none 0 0, .slice none 0 0, .slice none 0 0] 51)
  have hlt := hp_lt hxr
  clear h hb1
  go_enter Tryz.func21, Tryz.ntmps21
  go_wp2_with (first | (go_at_call 46; refine C1.out.mono ?_; rintro e w2 ⟨rfl, rfl⟩) | (go_at_call 47; refine C2.out.mono ?_; rintro e w2 ⟨⟨pv, sv, uv, rfl, ht⟩, hb2⟩; obtain ⟨⟨pa, pn, pc, hpv⟩, ⟨sa, sn, sc, hsv⟩, ⟨ua, un, uc, huv⟩⟩ := tab_form ht; subst hpv; subst hsv; subst huv; have HT := Lib.hid ht; have HB2 := Lib.hid hb2; have y0 := (hb2.block _ hlt).trans hxr; clear hb2 ht) | (with_reducible refine store_at 51 (.tmp 2) (.tmp 11) rfl ?_; refine store_rowTo2 rfl 51 (.tmp 2) (.tmp 11) rfl rfl w.heap.size #[.slice pa pn pc, .slice sa sn sc, .slice ua un uc] rfl rfl 51 #[.slice none 0 0, .slice none 0 0, .slice none 0 0] y0 (by kernel_rfl) (by kernel_rfl) (by kernel_rfl) ?_))
  refine bodyPost_ret (v := .agg #[.slice pa pn pc, .slice sa sn sc, .slice ua un uc]) ?_ rfl ?_
  · exact results_cell_row (by rfl) _ _ w.heap.size 51 #[.slice pa pn pc, .slice sa sn sc, .slice ua un uc] (0, 0) _ (by rfl) (setRow_heap _ _ _ _ _ _ y0) Tryz.underlying51 rfl (by kernel_rfl)
  have hne : ∀ e, e ≠ 51 → ∀ k c fr, k = w.heap.size → w2.heap[k]? ≠ some (.cells c e fr) := fun e he k c fr hk => by
    rw [hk, y0]; intro h; injection h with h; injection h with _ h; exact he h.symm
  exact ⟨⟨_, _, _, rfl, HT.out.fr (fr_setRow w2 _ _) (Nat.le_refl _) (hne _ (by decide)) (hne _ (by decide)) (hne _ (by decide)) (hne _ (by decide))⟩, below_setRow (HB1.out.trans (HB2.out.mono HB1.out.size)) (Nat.le_refl _) _⟩
/-- A front that is none. -/
theorem nilTake_any (ov : Array Value) (w : World) : Calls Tryz.prog 18 #[.pointer none, .agg ov] w fun e w' => e = .returned (.agg #[.int .i64 0, .int .i64 0, .int .i64 0, .int .i64 0]) ∧ Below w.heap.size w w' := by
  go_enter Tryz.func18, Tryz.ntmps18
  go_wp2
  refine bodyPost_ret (v := .agg #[.int .i64 0, .int .i64 0, .int .i64 0, .int .i64 0]) (by simp [results, Tryz.results18, go_sem]) rfl ⟨rfl, bel_alloc (below_alloc w _) (Nat.le_refl _) _⟩
theorem nilEpoch_any (w : World) : Calls Tryz.prog 23 #[.pointer none] w fun e w' => e = .returned (.int .i64 0) ∧ w = w' := by
  go_enter Tryz.func23, Tryz.ntmps23
  go_wp2
  go_ret
  exact ⟨rfl, rfl⟩
theorem nilCounts_any (w : World) : Calls Tryz.prog 19 #[.pointer none] w fun e w' => e = .returned (.agg #[.int .i64 0, .int .i64 0, .int .i64 0, .int .i64 0, .int .i64 0, .int .i64 0, .int .i64 0, .int .i64 0]) ∧ Below w.heap.size w w' := by
  go_enter Tryz.func19, Tryz.ntmps19
  go_wp2
  refine bodyPost_ret (v := .agg #[.int .i64 0, .int .i64 0, .int .i64 0, .int .i64 0, .int .i64 0, .int .i64 0, .int .i64 0, .int .i64 0]) (by simp [results, Tryz.results19, go_sem]) rfl ⟨rfl, below_alloc w _⟩
theorem nilTable_any (w : World) : Calls Tryz.prog 21 #[.pointer none] w fun e w' => e = .returned (.agg #[.slice none 0 0, .slice none 0 0, .slice none 0 0]) ∧ Below w.heap.size w w' := by
  go_enter Tryz.func21, Tryz.ntmps21
  go_wp2
  refine bodyPost_ret (v := .agg #[.slice none 0 0, .slice none 0 0, .slice none 0 0]) (by simp [results, Tryz.results21, go_sem]) rfl ⟨rfl, below_alloc w _⟩
end Go.Proofs.By
