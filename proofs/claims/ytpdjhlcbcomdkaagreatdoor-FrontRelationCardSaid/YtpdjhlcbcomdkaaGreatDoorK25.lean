/- Several texts in one: The walk of the law's own function shown. The law FrontRelation. -/
import Derived.Test.YtpdjhlcbcomdkaaGreatDoorK16
import Derived.Test.YtpdjhlcbcomdkaaGreatDoorK24
set_option linter.unusedSimpArgs false
namespace Go.Proofs.By
open Go.RowKit Go.Proofs.Heap
open Go.Proofs.Rm (TurnRow Turn Room RoomAt Inv doo u32s OpV opvCells)
open Go.Proofs.Lab (Tabs)
open Go.Proofs.Mem
theorem FrontAt.fr {w w' : World} {f d b : Nat} {F : Frnt} {S : Nat → Prop} (h : FrontAt w f d b F) (hf : Fr w.heap.size S w w') (h1 : ¬ S f) (h2 : ¬ S d) (h3 : ¬ S b) (hS : ∀ k c fr, S k → w.heap[k]? ≠ some (.cells c 66 fr)) : FrontAt w' f d b F :=
  ⟨(hf.block f (hp_lt h.blk) h1).trans h.blk, h.door.fr hf h2 h3 hS⟩
def admCells (a : Adm) : Array Value := #[.int .i64 a.kind, .int .i64 a.source, .int .i64 a.epoch, .int .i64 a.err]
theorem apart_one {w : World} {X : Nat} {c : Array Value} {f : Nat × Nat} (h : w.heap[X]? = some (.cells c 35 f)) : Apart w (· = X) := fun k hk => by
  have hk : k = X := hk
  subst hk
  exact ⟨_, _, _, h, by decide, by decide, by decide, by decide, by decide, by decide, by decide⟩
theorem opb_at {w : World} {a : Option Addr} {c : Nat} {L : List OpB} (h : OpBsT w (.slice a L.length c) L) (hl : 0 < L.length) : ∃ g off, a = some ⟨g, off, none⟩ ∧ ∀ (i : Nat) (y : OpB), L[i]? = some y →
    w.cell? ⟨g, off + i * 7, none⟩ = some (.int .i64 y.x.o.kind) ∧ w.cell? ⟨g, off + i * 7 + 1, none⟩ = some (.int .i64 y.x.o.peer) ∧ w.cell? ⟨g, off + i * 7 + 2, none⟩ = some (.int .i64 y.x.o.source) ∧ w.cell? ⟨g, off + i * 7 + 3, none⟩ = some (.int .i64 y.x.o.layer) ∧ w.cell? ⟨g, off + i * 7 + 4, none⟩ = some (.string (str y.x.o.name)) ∧ w.cell? ⟨g, off + i * 7 + 5, none⟩ = some (.slice y.x.sa y.x.o.ssrcs.length y.x.sc) ∧ w.cell? ⟨g, off + i * 7 + 6, none⟩ = some (.slice y.x.ba y.x.bl y.x.bc) := by
  obtain ⟨g, off, cap, h1, _, _, _, h5⟩ := Rm.row_at (fun y : OpB => opvCells y.x) 7 (fun _ => rfl) (by omega) h.row hl
  exact ⟨g, off, (Rm.slice_inj h1).1, fun i x hx => ⟨h5 i x hx 0 (by omega), h5 i x hx 1 (by omega), h5 i x hx 2 (by omega), h5 i x hx 3 (by omega), h5 i x hx 4 (by omega), h5 i x hx 5 (by omega), h5 i x hx 6 (by omega)⟩⟩
theorem brow_of {w : World} {a : Option Addr} {n c : Nat} {l : List UInt8} (h : Row w 5 (.slice a n c) l.length (bys l)) : BRow w (.slice a n c) l := h.r
theorem bE_le (k : Nat) : 0 ≤ bE k ∧ bE k ≤ 4 := by
  match k with
  | 0 => exact ⟨by decide, by decide⟩
  | 1 => exact ⟨by decide, by decide⟩
  | 2 => exact ⟨by decide, by decide⟩
  | 3 => exact ⟨by decide, by decide⟩
  | k + 4 => exact ⟨by show (0 : Int) ≤ 4; decide, by show (4 : Int) ≤ 4; decide⟩
theorem noCnts_below : noCnts.Below 1000000000 := ⟨by decide, by decide, by decide, by decide⟩
set_option maxRecDepth 100000 in
set_option maxHeartbeats 8000000 in
theorem Fshown_any (w : World) (hT : Tabs w) : Calls Tryz.prog 14 #[] w fun e w' => e = .returned (.bool true) ∧ Below w.heap.size w w' := by
  have HT : Hid (∀ w', Below w.heap.size w w' → Tabs w') := fun w' h => Utf8Tabs_below hT h
  clear hT
  have CN := Lib.hid (FrontNew_any w)
  go_enter Tryz.func14, Tryz.ntmps14
  go_wp2_with fail
  refine CN.out.mono ?_
  rintro e w1 ⟨⟨f, d, b, rfl, hF, h1, h2, h3⟩, hb1⟩
  obtain ⟨nfd, nfb, ndb⟩ := hF.ne
  have hfl := hp_lt hF.blk
  have hdl := hp_lt hF.door.blk
  have hbl := hF.door.room.lt
  have HF1 := Lib.hid (hF.below (below_alloc w1 (.cells (admCells (bA 0)) 35)))
  have HL1 : Hid ((w1.alloc (.cells (admCells (bA 0)) 35)).heap[w1.heap.size]? = some (.cells (admCells (bA 0)) 35 (0, 0))) := heap_new w1 _
  have HB1 : Hid (Below w.heap.size w (w1.alloc (.cells (admCells (bA 0)) 35))) := bel_alloc hb1 (Nat.le_refl _) _
  have CB := Lib.hid (begin_any (w1.alloc (.cells (admCells (bA 0)) 35)))
  have hws := hb1.size
  clear hF CN hb1
  go_wp2_with fail
  refine CB.out.mono ?_
  rintro e w2 ⟨rfl, hops, hb2⟩
  have HB2 := Lib.hid (HB1.out.trans (hb2.mono HB1.out.size))
  have HF2 := Lib.hid (HF1.out.below hb2)
  have HL2 := Lib.hid ((hb2.block w1.heap.size (hp_lt HL1.out)).trans HL1.out)
  have HOPS := Lib.hid hops
  clear hops hb2 HF1 HL1 HB1 CB
  obtain ⟨H, hH⟩ : ∃ H, H = (w1.alloc (.cells (admCells (bA 0)) 35)).heap.size := ⟨_, rfl⟩
  rw [← hH] at HOPS ⊢
  clear hH
  obtain ⟨L, hL⟩ : ∃ L, L = w1.heap.size := ⟨_, rfl⟩
  rw [← hL] at HL2 hfl hdl hbl hws ⊢
  clear hL
  go_wp2_with fail
  go_loopw [9] (fun i w' => ∃ k : Nat, k ≤ 5 ∧ i = .int .i64 k ∧ Below w.heap.size w w' ∧ OpBsT w' (.slice (some ⟨H + 2, 0, none⟩) 5 5) (bOps H) ∧ w'.heap[L]? = some (.cells (admCells (bA k)) 35 (0, 0)) ∧ ∃ sv, FrontAt w' f d b (bF k sv)) (fun i _ => 5 - (intOf i).toNat)
  case atStart => exact ⟨0, by omega, rfl, HB2.out, HOPS.out, HL2.out, .slice none 0 0, HF2.out⟩
  case round =>
    clear HB2 HOPS HL2 HF2
    obtain ⟨k, hk, rfl, hbl', hops, hL, sv, hF⟩ := hrel
    have HBL := Lib.hid hbl'
    have HOPS := Lib.hid hops
    have HLB := Lib.hid hL
    have HF := Lib.hid hF
    have hsz := hbl'.size
    have hLl := hp_lt hL
    clear hbl' hL hF
    by_cases hk5 : k < 5
    · obtain ⟨g, off, e1, hcells⟩ := opb_at (L := bOps H) (a := some ⟨H + 2, 0, none⟩) (c := 5) hops (Nat.zero_lt_succ _)
      cases e1
      obtain ⟨xa, xc, ya, yl, yc, hx⟩ := bOps_at H k hk5
      obtain ⟨c0, c1, c2, c3, c4, c5, c6⟩ := hcells k _ hx
      have HXR := Lib.hid (hops.each _ (List.mem_of_getElem? hx))
      have hgl : H + 2 < wr.heap.size := World.block_lt_of_cell? wr ⟨H + 2, 0 + k * 7, none⟩ c0
      have HST := Lib.hid (bStep k hk5 sv)
      have HPL := Lib.hid (bPlain k hk5)
      have he := bE_le k
      clear hcells hx hops
      generalize bop k = o at *
      generalize bby k = y at *
      obtain ⟨kd, p, n, q, nm, ss⟩ := o
      dsimp only at c0 c1 c2 c3 c4 c5 c6 HXR HST HPL
      simp only [Nat.zero_add] at c0 c1 c2 c3 c4 c5 c6
      have hyl : kd = 1 ∨ kd ≠ 1 := by omega
      have CD : Hid (∀ w4, Below wr.heap.size wr w4 → Calls Tryz.prog 18 #[.pointer (some ⟨f, 0, none⟩), .agg #[.int .i64 kd, .int .i64 p, .int .i64 n, .int .i64 q, .string (str nm), .slice xa ss.length xc, .slice ya yl yc]] w4 (FTakePost f d b (bF k sv) ⟨kd, p, n, q, nm, ss⟩ y w4)) :=
        fun w4 h => FTake_plain f d b (bF k sv) kd p n q nm ss xa ya xc yl yc y w4 (HF.out.below h) noCnts_below (bInv k sv) (bSlim k sv).short (HT.out _ (HBL.out.trans (h.mono hsz))) he.1 (by show bE k < _; omega) HXR.out.2.2 (HXR.out.1.below h).r (fun hk1 => ⟨brow_of (HXR.out.2.1.below h), HPL.out hk1⟩)
      go_wp2_with (first | (go_at_call 18; refine (CD.out _ (below_alloc _ _)).mono ?_; rintro e w5 ⟨sv', he5, hF5, hfr5⟩; obtain ⟨sv2, ha, hf⟩ := HST.out sv'; rw [ha] at he5; rw [hf] at hF5; clear ha hf; dsimp only [admAgg] at he5; subst he5; have HF5 := Lib.hid hF5; have HFR5 := Lib.hid hfr5; have hb4 := below_alloc wr (.cells #[.int .i64 kd, .int .i64 p, .int .i64 n, .int .i64 q, .string (str nm), .slice xa ss.length xc, .slice ya yl yc] 32); have hw4 := hb4.size; have hL5 : w5.heap[L]? = some (.cells (admCells (bA k)) 35 (0, 0)) := (hfr5.block L (by omega) (by omega)).trans ((hb4.block L hLl).trans HLB.out); have HOPS5 := Lib.hid ((HOPS.out.below hb4).fr hfr5 (HF.out.below hb4).apart); have HBL5 : Hid (Below w.heap.size w w5) := (HBL.out.trans (hb4.mono hsz)).trans (Fr.below (hfr5.mono (Nat.le_trans hsz hw4) (fun j hj hs => by omega))); clear hF5 hfr5 hb4 hw4 CD) | (with_reducible refine store_at 35 (.tmp 2) (.tmp 15) rfl ?_; refine store_rowTo2 rfl 35 (.tmp 2) (.tmp 15) rfl rfl L (admCells (bA (k + 1))) rfl rfl 35 _ hL5 (by kernel_rfl) (by kernel_rfl) (by kernel_rfl) ?_))
      go_roundw
      case rel =>
        refine ⟨k + 1, by omega, by go_num, below_setRow HBL5.out hws _, HOPS5.out.fr (fr_setRow w5 L _) (apart_one hL5), setRow_heap _ _ _ _ _ _ hL5, sv2, ?_⟩
        exact HF5.out.fr (fr_setRow w5 L _) (fun e => by have e : f = L := e; omega) (fun e => by have e : d = L := e; omega) (fun e => by have e : b = L := e; omega) (fun j c fr hj => (apart_one hL5).ne (by simp) j c fr hj)
      case measure => simp [intOf]; omega
    · obtain rfl : k = 5 := by omega
      have CT : Hid (Calls Tryz.prog 18 #[.pointer (some ⟨f, 0, none⟩), .agg #[.int .i64 0, .int .i64 0, .int .i64 0, .int .i64 0, .string ⟨#[]⟩, .slice none 0 0, .slice none 0 0]] wr (FTakePost f d b (bF 5 sv) ⟨0, 0, 0, 0, [], []⟩ [] wr)) :=
        FTake_plain f d b (bF 5 sv) 0 0 0 0 [] [] none none 0 0 0 [] wr HF.out noCnts_below (bInv 5 sv) (bSlim 5 sv).short (HT.out _ HBL.out) (by show (0 : Int) ≤ 4; decide) (by show (4 : Int) < 1000000000; decide) (by decide) (RRow.nil _) (fun h => absurd h (by decide))
      clear hops
      go_wp2_with fail
      refine CT.out.mono ?_
      rintro e w5 ⟨sv', he5, hF5, hfr5⟩
      rw [(bLast sv sv').1] at he5
      rw [(bLast sv sv').2] at hF5
      dsimp only [admAgg] at he5
      subst he5
      have hL5 : w5.heap[L]? = some (.cells (admCells (bA 5)) 35 (0, 0)) := (hfr5.block L (by omega) (by omega)).trans HLB.out
      have HBL5 : Hid (Below w.heap.size w w5) := HBL.out.trans (Fr.below (hfr5.mono hsz (fun j hj hs => by omega)))
      have hb6 := below_alloc w5 (.cells #[.int .i64 6, .int .i64 0, .int .i64 0, .int .i64 4] 35)
      have HF6 := Lib.hid (hF5.below hb6)
      have HB6 : Hid (Below w.heap.size w (w5.alloc (.cells #[.int .i64 6, .int .i64 0, .int .i64 0, .int .i64 4] 35))) := HBL5.out.trans (hb6.mono HBL5.out.size)
      have hLl5 := hp_lt hL5
      have z0 : w5.cell? ⟨L, 0, none⟩ = some (.int .i64 1) := cell_of hL5 0
      have z1 : w5.cell? ⟨L, 1, none⟩ = some (.int .i64 3) := cell_of hL5 1
      have z2 : w5.cell? ⟨L, 2, none⟩ = some (.int .i64 4) := cell_of hL5 2
      have z3 : w5.cell? ⟨L, 3, none⟩ = some (.int .i64 0) := cell_of hL5 3
      have CE := Lib.hid (Epoch_any f d b _ _ HF6.out)
      have CC := Lib.hid (Counts_any f d b _ _ HF6.out)
      have CTB := Lib.hid (fun w' h => FrontTable_any f d b _ w' (HF6.out.below h) (bSlim 5 sv).short)
      have HTB := Lib.hid (bTab sv)
      clear CT hF5 hfr5 hb6 HF HLB HOPS HBL HT hL5 HBL5
      dsimp only at CE CC
      have hfd1 : ∀ w : World, (Instr.field 41 (.agg #[.int .i64 0, .int .i64 0, .int .i64 0, .int .i64 1, .int .i64 0, .int .i64 0, .int .i64 0, .int .i64 0]) 3).run Tryz.prog w = .ok (.int .i64 1) w := fun _ => by kernel_rfl
      have hfd2 : ∀ (a : Option Addr) (n c : Nat) (y z : Value) (w : World), (Instr.field 51 (.agg #[.slice a n c, y, z]) 0).run Tryz.prog w = .ok (.slice a n c) w := fun _ _ _ _ _ _ => by kernel_rfl
      go_wp2_with (first | (go_at_call 23; refine CE.out.mono ?_; rintro e w7 ⟨rfl, rfl⟩) | (go_at_call 19; refine CC.out.mono ?_; rintro e w7 ⟨rfl, hb7⟩; have HB7 := Lib.hid hb7; clear hb7) | (go_at_call 21; refine (CTB.out _ HB7.out).mono ?_; rintro e w8 ⟨⟨pv, sv2, uv, rfl, ht⟩, hb8⟩; obtain ⟨pa, pc, hpv⟩ := Row.form ht.peers; rw [HTB.out] at hpv; subst hpv; have HB8 := Lib.hid (HB7.out.trans (hb8.mono HB7.out.size)); clear ht hb8))
      go_ret
      exact ⟨rfl, HB6.out.trans (HB8.out.mono HB6.out.size)⟩
end Go.Proofs.By
set_option linter.unusedSimpArgs false
namespace Go.Proofs.By
open Go.RowKit Go.Proofs.Heap
open Go.Proofs.Rm (below_drewN Room Inv Slim OpV opvCells u32s inv_empty slim_empty)
open Go.Proofs.Lab (Tabs)
open Go.Proofs.Mem
theorem Few_any (v : Value) (L : List OpB) (w : World) (h : OpBsR w v L) : Calls Tryz.prog 15 #[v] w fun e w' => (∃ v', e = .returned v' ∧ OpBsR w' v' (L.take 80)) ∧ w = w' := by
  obtain ⟨va, vc, rfl, hvc, hmx⟩ := h.form
  obtain ⟨K, hKd⟩ : ∃ K, K = min L.length 80 := ⟨_, rfl⟩
  have hK1 : K ≤ L.length := by omega
  have hKm : min (L.length : Int) 80 = (K : Int) := by omega
  obtain ⟨vs, hsl, -, hslR⟩ := slice_to (P := Tryz.prog) elemOp va L.length vc K (by omega)
  have HO : Hid (OpBsR w (.slice vs K vc) (L.take 80)) := by
    have h2 := h.take hK1 hslR
    have e : L.take K = L.take 80 := by
      rcases Nat.le_total L.length 80 with h3 | h3
      · rw [hKd, Nat.min_eq_left h3, List.take_length, List.take_of_length_le h3]
      · rw [hKd, Nat.min_eq_right h3]
    rwa [e] at h2
  clear h hslR hKd
  go_enter Tryz.func15, Tryz.ntmps15
  go_wp2
  go_ret
  exact ⟨⟨_, rfl, HO.out⟩, rfl⟩
theorem Admits_any (v : Value) (L : List OpB) (w : World) (hT : Tabs w) (h : OpBsR w v L) (hL : L.length ≤ 256) :
    Calls Tryz.prog 24 #[v] w fun e w' => (∃ av, e = .returned av ∧ Row w' 35 av L.length ((admsTo L L.length).flatMap admC4)) ∧ Below w.heap.size w w' := by
  have C := Lib.hid (Read_any v L w hT h hL)
  clear hT h hL
  go_enter Tryz.func24, Tryz.ntmps24
  go_wp2_with (go_at_call 53; refine C.out.mono ?_; rintro e w2 ⟨k, g, b, ov, av, mv, lv, M, R, ep, rfl, -, hrs⟩; have HRS := Lib.hid hrs; have k1 : w2.cell? ⟨k, 1, none⟩ = some av := (by rw [cell_of hrs.book.blk 1]; rfl); clear hrs)
  go_ret
  refine ⟨⟨av, rfl, ?_⟩, HRS.out.bel⟩
  have h := Row.of_owns HRS.out.book.adm
  rwa [admsTo_len] at h
theorem add_below {c : Cnts} {n : Int} (h : c.Below n) (k : Int) {u : Int} (h0 : 0 ≤ u) (h1 : u ≤ 8000) : (c.add k u).Below (n + 8001) := by
  obtain ⟨⟨a1, a2⟩, ⟨b1, b2⟩, ⟨c1, c2⟩, ⟨d1, d2⟩⟩ := h
  unfold Cnts.add
  refine ⟨?_, ?_, ?_, ?_⟩ <;> dsimp only <;> split <;> omega
theorem FTakeB_any (f d b : Nat) (F : Frnt) (kd p n q : Int) (nm : List UInt8) (ss : List Int) (sa ba : Option Addr) (sc bl bc : Nat) (l : List UInt8) (w : World) (hF : FrontAt w f d b F) (hc : F.c.Below 1000000000) (hI : Inv F.R) (hS : Slim F.R) (hT : Tabs w) (h0 : 0 ≤ F.ep) (h9 : F.ep < 1000000000)
    (hn : nm.length < 9223372036854775807) (hs : RRow w (.slice sa ss.length sc) ss.length (u32s ss)) (hb : BRow w (.slice ba bl bc) l) :
    Calls Tryz.prog 18 #[.pointer (some ⟨f, 0, none⟩), .agg #[.int .i64 kd, .int .i64 p, .int .i64 n, .int .i64 q, .string (str nm), .slice sa ss.length sc, .slice ba bl bc]] w (FTakePost f d b F ⟨kd, p, n, q, nm, ss⟩ l w) := by
  refine FTake_any f d b F kd p n q nm ss sa ba sc bl bc l w hF hc (fun sv => ?_) (fun w' h => ?_)
  · have := take_ok hI hS F.ep ⟨kd, p, n, q, nm, ss⟩ l sv
    exact ⟨this.2.2.1, by have := this.2.2.2.1; omega⟩
  · exact Take_any d b F.R F.ep kd p n q nm ss sa ba sc bl bc l w' (hF.door.below h) hI (Utf8Tabs_below hT h) h0 h9 hn (hs.below h) (fun hk w1 h1 => datagram_any d b F.R F.ep kd p n q (str nm) sa ba ss.length sc bl bc l w1 ((hF.door.below h).below h1) hI hS h0 h9 ((RRow.below hb h).below h1))
theorem FrontAt.apartA {w : World} {f d b : Nat} {F : Frnt} (h : FrontAt w f d b F) : ∀ k c fr, (k = b ∨ k = d ∨ k = f) → w.heap[k]? ≠ some (.cells c 35 fr) := by
  rintro k c fr hk hc
  rcases hk with rfl | rfl | rfl
  · obtain ⟨c', hc', _⟩ := h.door.room.cells
    rw [hc] at hc'
    injection hc' with hc'
    injection hc' with _ hc'
    exact absurd hc' (by decide)
  · have h2 := h.door.blk
    rw [hc] at h2
    injection h2 with h2
    injection h2 with _ h2
    exact absurd h2 (by decide)
  · have h2 := h.blk
    rw [hc] at h2
    injection h2 with h2
    injection h2 with _ h2
    exact absurd h2 (by decide)
/-- Where a front stands ahead of operation j of a script. -/
structure FS (w w' : World) (f d b : Nat) (L : List OpB) (av : Value) (j : Nat) (R : Room) (ep : Int) (c : Cnts) : Prop where
  bel : Below w.heap.size w w'
  front : FrontAt w' f d b ⟨R, ep, c⟩
  row : Row w' 35 av L.length ((admsTo L L.length).flatMap admC4)
  inv : Inv R
  slim : Slim R
  bare : R.bare = (runTo L j).1
  eps : ep = (runTo L j).2
  cnt : c.Below (8001 * (j : Int))
  fg : w.heap.size ≤ f ∧ w.heap.size ≤ d ∧ w.heap.size ≤ b
theorem FS.below {w w1 w2 : World} {f d b : Nat} {L : List OpB} {av : Value} {j : Nat} {R : Room} {ep : Int} {c : Cnts} (h : FS w w1 f d b L av j R ep c) (hb : Below w1.heap.size w1 w2) : FS w w2 f d b L av j R ep c :=
  ⟨h.bel.trans (hb.mono h.bel.size), h.front.below hb, Row.below h.row hb, h.inv, h.slim, h.bare, h.eps, h.cnt, h.fg⟩
theorem adm_at {w : World} {a : Option Addr} {n c : Nat} {L : List OpB} {m : Nat} (h : Row w 35 (.slice a n c) n ((admsTo L m).flatMap admC4)) {j : Nat} (hj : j < m) : ∃ g off, a = some ⟨g, off, none⟩ ∧ w.cell? ⟨g, off + j * 4, none⟩ = some (.int .i64 (takenAt L j).adm.kind) ∧ w.cell? ⟨g, off + j * 4 + 1, none⟩ = some (.int .i64 (takenAt L j).adm.source) ∧ w.cell? ⟨g, off + j * 4 + 2, none⟩ = some (.int .i64 (takenAt L j).adm.epoch) ∧ w.cell? ⟨g, off + j * 4 + 3, none⟩ = some (.int .i64 (takenAt L j).adm.err) := by
  obtain ⟨g, off, e, h2⟩ := row_atB admC4 4 (fun _ => rfl) h (by rw [admsTo_len]; omega)
  have hx : (admsTo L m)[j]? = some (takenAt L j).adm := by unfold admsTo; rw [List.getElem?_map, List.getElem?_range hj]; rfl
  exact ⟨g, off, e, h2 j _ hx 0 (by omega), h2 j _ hx 1 (by omega), h2 j _ hx 2 (by omega), h2 j _ hx 3 (by omega)⟩
set_option maxRecDepth 100000 in
set_option maxHeartbeats 8000000 in
theorem FrontRelation_any (v : Value) (L0 : List OpB) (w : World) (hT : Tabs w) (hv : OpBsR w v L0) : Calls Tryz.prog 5 #[v] w fun e w' => e = .returned (.bool true) ∧ Below w.heap.size w w' := by
  have CS := Lib.hid (Fshown_any w hT)
  have CF := Lib.hid (fun (w' : World) (h : Below w.heap.size w w') => Few_any v L0 w' (hv.below h))
  have HT : Hid (∀ w', Below w.heap.size w w' → Tabs w') := fun w' h => Utf8Tabs_below hT h
  have CN := Lib.hid FrontNew_any
  have hL : (L0.take 80).length ≤ 80 := by rw [List.length_take]; omega
  have CA := Lib.hid (fun (v' : Value) (w' : World) (hT : Tabs w') (h : OpBsR w' v' (L0.take 80)) => Admits_any v' (L0.take 80) w' hT h (by omega))
  generalize L0.take 80 = L at *
  clear hT hv
  go_enter Tryz.func5, Tryz.ntmps5
  go_wp2_with (first | (go_at_call 14; refine CS.out.mono ?_; rintro e w1 ⟨rfl, hb1⟩; have HB1 := Lib.hid hb1; clear hb1) | (go_at_call 15; refine (CF.out _ HB1.out).mono ?_; rintro e w' ⟨⟨v', rfl, ho⟩, rfl⟩; obtain ⟨va, vc, hv', hvc, hmx⟩ := OpBsR.form ho; subst hv'; have HO := Lib.hid ho; clear ho) | (go_at_call 16; refine (CN.out _).mono ?_; rintro e w2 ⟨⟨f, d, b, rfl, hF, hf, hd, hb⟩, hb2⟩; have HF := Lib.hid hF; have HB2 := Lib.hid hb2; have HFG : Hid (w1.heap.size ≤ f ∧ w1.heap.size ≤ d ∧ w1.heap.size ≤ b) := ⟨hf, hd, hb⟩; clear hF hb2 hf hd hb) | (go_at_call 24; refine (CA.out _ _ (HT.out _ (HB1.out.trans (HB2.out.mono HB1.out.size))) (HO.out.below HB2.out)).mono ?_; rintro e w3 ⟨⟨av, rfl, hrow⟩, hb3⟩; obtain ⟨aa, ac, hav⟩ := Row.form hrow; subst hav; have HROW := Lib.hid hrow; have HB3 := Lib.hid (HB2.out.trans (hb3.mono HB2.out.size)); have HF3 := Lib.hid (HF.out.below hb3); clear hrow hb3))
  have HS0 : Hid (FS w1 w3 f d b L (.slice aa L.length ac) 0 Rm.empty 0 noCnts) := ⟨HB3.out, HF3.out, HROW.out, inv_empty, slim_empty, rfl, rfl, ⟨by decide, by decide, by decide, by decide⟩, HFG.out⟩
  have HT1 : Hid (∀ w', Below w1.heap.size w1 w' → Tabs w') := fun w' h => HT.out _ (HB1.out.trans (h.mono HB1.out.size))
  clear CS CF CN CA HF HB2 HROW HB3 HF3 HT
  go_loopw [5, 18] (fun s5 s18 w' => ∃ (j : Nat) (R : Room) (ep : Int) (c : Cnts), j ≤ L.length ∧ s18 = .int .i64 (j : Int) ∧ s5 = .int .i64 (runTo L j).2 ∧ FS w1 w' f d b L (.slice aa L.length ac) j R ep c) (fun _ s18 _ => L.length - (intOf s18).toNat)
  case atStart => exact ⟨0, _, _, _, by omega, rfl, rfl, HS0.out⟩
  case round =>
    obtain ⟨j, R, ep, c, hj, rfl, rfl, hfs⟩ := hrel
    clear HS0
    have HFS := Lib.hid hfs
    by_cases hjl : j < L.length
    · have hOr := HO.out.below hfs.bel
      obtain ⟨g', off', cap', e1, -, -, -, hat⟩ := Rm.row_atR (fun y : OpB => opvCells y.x) 7 (fun _ => rfl) (by omega) hOr.row (by omega)
      cases e1
      have hy : L[j]? = some L[j] := List.getElem?_eq_getElem hjl
      have hat := hat j _ hy
      have hea := hOr.each L[j] (List.getElem_mem hjl)
      have HST := Lib.hid (fun sv => run_step hy hfs.bare hfs.eps sv)
      have hbd := run_bound L j
      have hbe := hfs.eps
      rw [← hbe] at hbd
      generalize L[j] = y at *
      obtain ⟨⟨⟨kd, p, s, q, nm, ss⟩, sa, sc, ba, bl, bc⟩, bb⟩ := y
      dsimp only at hea HST
      obtain ⟨hss, hbb, hnm⟩ := hea
      have HEP := Lib.hid (run_epoch hjl)
      have hrg : wr.rangeAt g' (off' + j * 7) [.int .i64 kd, .int .i64 p, .int .i64 s, .int .i64 q, .string (str nm), .slice sa ss.length sc, .slice ba bl bc] := fun m v hm => (hat m (by have h := (List.getElem?_eq_some_iff.1 hm).1; simpa using h)).trans hm
      have hjI : (j : Int) < (L.length : Int) := Int.ofNat_lt.2 hjl
      have hjD : decide ((L.length : Int) ≤ (j : Int)) = false := decide_eq_false (by omega)
      have hz := heap_new wr (.cells #[.int .i64 0, .int .i64 0, .int .i64 0, .int .i64 0, .string ⟨#[]⟩, .slice none 0 0, .slice none 0 0] 32)
      have hx3 := setRow_heap _ _ _ #[.int .i64 kd, .int .i64 p, .int .i64 s, .int .i64 q, .string (str nm), .slice sa ss.length sc, .slice ba bl bc] _ _ hz
      have HB3 : Hid (Below wr.heap.size wr ((wr.alloc (.cells #[.int .i64 0, .int .i64 0, .int .i64 0, .int .i64 0, .string ⟨#[]⟩, .slice none 0 0, .slice none 0 0] 32)).setRow wr.heap.size #[.int .i64 kd, .int .i64 p, .int .i64 s, .int .i64 q, .string (str nm), .slice sa ss.length sc, .slice ba bl bc])) := below_setRow (below_alloc wr _) (Nat.le_refl _) _
      have HF3 := Lib.hid (hfs.front.below HB3.out)
      have HR3 := Lib.hid (Row.below hfs.row HB3.out)
      have HBL3 := Lib.hid (hfs.bel.trans (HB3.out.mono hfs.bel.size))
      have hcb : (c).Below 1000000000 := by
        obtain ⟨⟨a1, a2⟩, ⟨b1, b2⟩, ⟨c1, c2⟩, ⟨d1, d2⟩⟩ := hfs.cnt
        exact ⟨⟨a1, by omega⟩, ⟨b1, by omega⟩, ⟨c1, by omega⟩, ⟨d1, by omega⟩⟩
      have CT := Lib.hid (FTakeB_any f d b ⟨R, ep, c⟩ kd p s q nm ss sa ba sc bl bc bb ((wr.alloc (.cells #[.int .i64 0, .int .i64 0, .int .i64 0, .int .i64 0, .string ⟨#[]⟩, .slice none 0 0, .slice none 0 0] 32)).setRow wr.heap.size #[.int .i64 kd, .int .i64 p, .int .i64 s, .int .i64 q, .string (str nm), .slice sa ss.length sc, .slice ba bl bc]) HF3.out hcb hfs.inv hfs.slim (HT1.out _ HBL3.out) hbd.1 (by show ep < 1000000000; omega) hnm (hss.below HB3.out) (RRow.below hbb HB3.out))
      have HNX : Hid (∀ sv, Inv ((⟨R, ep, c⟩ : Frnt).take ⟨kd, p, s, q, nm, ss⟩ bb sv).2.R ∧ Slim ((⟨R, ep, c⟩ : Frnt).take ⟨kd, p, s, q, nm, ss⟩ bb sv).2.R ∧ ((⟨R, ep, c⟩ : Frnt).take ⟨kd, p, s, q, nm, ss⟩ bb sv).2.R.bare = (runTo L (j + 1)).1 ∧ ((⟨R, ep, c⟩ : Frnt).take ⟨kd, p, s, q, nm, ss⟩ bb sv).2.ep = (runTo L (j + 1)).2 ∧ ((⟨R, ep, c⟩ : Frnt).take ⟨kd, p, s, q, nm, ss⟩ bb sv).2.c.Below (8001 * ((j + 1 : Nat) : Int)) ∧ ((⟨R, ep, c⟩ : Frnt).take ⟨kd, p, s, q, nm, ss⟩ bb sv).1 = takenAt L j) := fun sv => by
        have ok := take_ok hfs.inv hfs.slim ep ⟨kd, p, s, q, nm, ss⟩ bb sv
        obtain ⟨st1, st2, st3⟩ := HST.out sv
        have hcc := add_below hfs.cnt (take R ep ⟨kd, p, s, q, nm, ss⟩ bb sv).1.1.adm.kind ok.2.2.1 ok.2.2.2.1
        have e8 : 8001 * ((j + 1 : Nat) : Int) = 8001 * (j : Int) + 8001 := by omega
        rw [e8]
        exact ⟨ok.1, ok.2.1, st2, st3, hcc, st1⟩
      clear hat hOr hss hbb HST hfs
      go_upto_region 10 with (first | (with_reducible refine load_at 32 (.tmp 21) rfl ?_; refine wpList_load_mid rfl 32 (.tmp 21) rfl g' (off' + j * 7) rfl [.int .i64 kd, .int .i64 p, .int .i64 s, .int .i64 q, .string (str nm), .slice sa ss.length sc, .slice ba bl bc] _ hrg Tryz.underlying32 rfl (by kernel_rfl) ?_) | (with_reducible refine store_at 32 (.tmp 7) (.tmp 22) rfl ?_; refine store_rowTo2 rfl 32 (.tmp 7) (.tmp 22) rfl rfl wr.heap.size #[.int .i64 kd, .int .i64 p, .int .i64 s, .int .i64 q, .string (str nm), .slice sa ss.length sc, .slice ba bl bc] rfl rfl 32 #[.int .i64 0, .int .i64 0, .int .i64 0, .int .i64 0, .string ⟨#[]⟩, .slice none 0 0, .slice none 0 0] hz (by kernel_rfl) (by kernel_rfl) (by kernel_rfl) ?_))
      clear hz hrg HB3
      generalize ((wr.alloc (.cells #[.int .i64 0, .int .i64 0, .int .i64 0, .int .i64 0, .string ⟨#[]⟩, .slice none 0 0, .slice none 0 0] 32)).setRow wr.heap.size #[.int .i64 kd, .int .i64 p, .int .i64 s, .int .i64 q, .string (str nm), .slice sa ss.length sc, .slice ba bl bc]) = w3' at *
      generalize hT0 : takenAt L j = T at *
      have HT0 := Lib.hid hT0
      clear hT0
      obtain ⟨⟨ak, as', ae, ar⟩, T1, T2, T3, T4, T5⟩ := T
      dsimp only at HEP
      go_upto_region 11 with (first | (with_reducible refine load_at 32 (.tmp 7) rfl ?_; refine load_rowTo2 rfl 32 (.tmp 7) rfl wr.heap.size rfl 32 #[.int .i64 kd, .int .i64 p, .int .i64 s, .int .i64 q, .string (str nm), .slice sa ss.length sc, .slice ba bl bc] (0, 0) _ hx3 Tryz.underlying32 rfl (by kernel_rfl) ?_) | (go_at_call 18; refine CT.out.mono ?_; rintro e w4 ⟨sv, rfl, hF4, hf4⟩; obtain ⟨n1, n2, n3, n4, n5, n6⟩ := HNX.out sv; rw [n6]; dsimp only [admAgg]; have HF4 := Lib.hid hF4; have HFF := Lib.hid hf4; have HN : Hid (Inv ((⟨R, ep, c⟩ : Frnt).take ⟨kd, p, s, q, nm, ss⟩ bb sv).2.R ∧ Slim ((⟨R, ep, c⟩ : Frnt).take ⟨kd, p, s, q, nm, ss⟩ bb sv).2.R ∧ ((⟨R, ep, c⟩ : Frnt).take ⟨kd, p, s, q, nm, ss⟩ bb sv).2.R.bare = (runTo L (j + 1)).1 ∧ ((⟨R, ep, c⟩ : Frnt).take ⟨kd, p, s, q, nm, ss⟩ bb sv).2.ep = (runTo L (j + 1)).2 ∧ ((⟨R, ep, c⟩ : Frnt).take ⟨kd, p, s, q, nm, ss⟩ bb sv).2.c.Below (8001 * ((j + 1 : Nat) : Int))) := ⟨n1, n2, n3, n4, n5⟩; have hz8 := heap_new w4 (.cells #[.int .i64 0, .int .i64 0, .int .i64 0, .int .i64 0] 35); clear n1 n2 n3 n4 n5 n6 hF4 hf4) | (with_reducible refine store_at 35 (.tmp 8) (.tmp 25) rfl ?_; refine store_rowTo2 rfl 35 (.tmp 8) (.tmp 25) rfl rfl w4.heap.size #[.int .i64 ak, .int .i64 as', .int .i64 ae, .int .i64 ar] rfl rfl 35 #[.int .i64 0, .int .i64 0, .int .i64 0, .int .i64 0] hz8 (by kernel_rfl) (by kernel_rfl) (by kernel_rfl) ?_))
      generalize ((⟨R, ep, c⟩ : Frnt).take ⟨kd, p, s, q, nm, ss⟩ bb sv).2 = F2 at *
      obtain ⟨R2, ep2, c2⟩ := F2
      dsimp only at HN
      obtain ⟨N1, N2, N3, N4, N5⟩ := HN.out
      have hb45 : Below w4.heap.size w4 ((w4.alloc (.cells #[.int .i64 0, .int .i64 0, .int .i64 0, .int .i64 0] 35)).setRow w4.heap.size #[.int .i64 ak, .int .i64 as', .int .i64 ae, .int .i64 ar]) := below_setRow (below_alloc w4 _) (Nat.le_refl _) _
      have hx8 := setRow_heap _ _ _ #[.int .i64 ak, .int .i64 as', .int .i64 ae, .int .i64 ar] _ _ hz8
      have hbel4 : Below w1.heap.size w1 w4 := HBL3.out.trans (HFF.out.mono HBL3.out.size (S' := NoB) (fun m hm hs => by have := HFG.out; omega)).below
      have HFS5 : Hid (FS w1 ((w4.alloc (.cells #[.int .i64 0, .int .i64 0, .int .i64 0, .int .i64 0] 35)).setRow w4.heap.size #[.int .i64 ak, .int .i64 as', .int .i64 ae, .int .i64 ar]) f d b L (.slice aa L.length ac) (j + 1) R2 ep2 c2) := ⟨hbel4.trans (hb45.mono hbel4.size), HF4.out.below hb45, Row.below (Row.fr HR3.out HFF.out (Nat.le_refl _) HF3.out.apartA) hb45, N1, N2, N3, N4, N5, HFG.out⟩
      clear hb45 hbel4 HN N1 N2 N3 N5 HF4 HFF HR3 HF3 HBL3 hz8 hx3 CT HNX hcb
      generalize ((w4.alloc (.cells #[.int .i64 0, .int .i64 0, .int .i64 0, .int .i64 0] 35)).setRow w4.heap.size #[.int .i64 ak, .int .i64 as', .int .i64 ae, .int .i64 ar]) = w5 at *
      generalize w4.heap.size = K at *
      obtain ⟨ga, oa, ea, x0, x1, x2, x3⟩ := adm_at HFS5.out.row (m := L.length) hjl
      cases ea
      rw [HT0.out] at x0 x1 x2 x3
      dsimp only at x0 x1 x2 x3
      have y0 : w5.cell? ⟨K, 0, none⟩ = some (.int .i64 ak) := by rw [cell_of hx8 0]; rfl
      have y1 : w5.cell? ⟨K, 1, none⟩ = some (.int .i64 as') := by rw [cell_of hx8 1]; rfl
      have y2 : w5.cell? ⟨K, 2, none⟩ = some (.int .i64 ae) := by rw [cell_of hx8 2]; rfl
      have y3 : w5.cell? ⟨K, 3, none⟩ = some (.int .i64 ar) := by rw [cell_of hx8 3]; rfl
      have HE0 := Lib.hid (run_bound L j)
      generalize (runTo L j).2 = E at *
      generalize hE2 : (runTo L (j + 1)).2 = E2 at *
      have HE2 := Lib.hid hE2
      clear hE2
      subst N4
      go_quiet (fail)
      have CE := Lib.hid (Epoch_any f d b ⟨R2, ep2, c2⟩ (w5.drewN nq) (HFS5.out.front.below (below_drewN (Below.refl _ _) _)))
      have HFS6 := Lib.hid (HFS5.out.below (below_drewN (Below.refl _ _) nq))
      have u0 : (w5.drewN nq).cell? ⟨K, 0, none⟩ = some (.int .i64 ak) := y0
      have u2 : (w5.drewN nq).cell? ⟨K, 2, none⟩ = some (.int .i64 ae) := y2
      rcases HEP.out with ⟨h1, h2, h3⟩ | ⟨h1, h2, h3⟩
      · subst h1; subst h2; subst h3
        have hw5 : IntKind.i64.wrap (E + 1) = E + 1 := IntWalk.i64_in _ (by have := HE0.out; omega)
        go_wp2_with (go_at_call 23; refine CE.out.mono ?_; rintro e w' ⟨rfl, rfl⟩)
        go_roundw
        case rel => exact ⟨j + 1, R2, E + 1, c2, by omega, by go_num, by rw [HE2.out], HFS6.out⟩
        case measure => simp [intOf]; omega
      · subst h2
        have e1 : (ak == 2) = false := by rw [beq_eq_false_iff_ne]; exact h1
        by_cases h4 : ak = 1
        · have h5 := h3 h4
          subst h4; subst h5
          go_wp2_with (go_at_call 23; refine CE.out.mono ?_; rintro e w' ⟨rfl, rfl⟩)
          go_roundw
          case rel => exact ⟨j + 1, R2, _, c2, by omega, by go_num, by rw [HE2.out], HFS6.out⟩
          case measure => simp [intOf]; omega
        · have e4 : (ak == 1) = false := by rw [beq_eq_false_iff_ne]; exact h4
          go_wp2_with (go_at_call 23; refine CE.out.mono ?_; rintro e w' ⟨rfl, rfl⟩)
          go_roundw
          case rel => exact ⟨j + 1, R2, _, c2, by omega, by go_num, by rw [HE2.out], HFS6.out⟩
          case measure => simp [intOf]; omega
    · have hjj : j = L.length := by omega
      have HBE : Hid (Below w.heap.size w wr) := HB1.out.trans (hfs.bel.mono HB1.out.size)
      clear hfs
      go_wp2
      go_ret
      exact ⟨rfl, HBE.out⟩
end Go.Proofs.By
