/- Several texts in one: The walks of the law's own functions begin, packet; front.Take of what is no feedback. The walk of the law's own function shown. The law FrontNone. -/
import Derived.Test.YtpdjhlcbcomdkaaGreatDoorF14
import Derived.Test.YtpdjhlcbcomdkaaGreatDoorF17
import Derived.Test.YtpdjhlcbcomdkaaGreatDoorF18
import Derived.Test.YtpdjhlcbcomdkaaGreatDoorF23
set_option linter.unusedSimpArgs false
namespace Go.Proofs.By
open Go.RowKit Go.Proofs.Heap
open Go.Proofs.Rm (TurnRow Turn Room RoomAt Inv doo u32s OpV opvCells inv_doo inv_empty Slim slim_doo slim_empty wrong turns)
open Go.Proofs.Lab (Tabs)
open Go.Proofs.Mem
/-- No feedback. -/
def Plain (l : List UInt8) : Prop := ¬ (192 ≤ at8 l 1 ∧ at8 l 1 ≤ 223)
theorem datagram_known {R : Room} {ep p : Int} {l : List UInt8} (h : Plain l) : (datagram R ep p l).1.1.unknown = 0 ∧ (datagram R ep p l).1.2 = R ∧ (datagram R ep p l).2 = ep := by
  unfold datagram
  by_cases h1 : (sift l).2 ≠ 0
  · rw [if_pos h1]; exact ⟨rfl, rfl, rfl⟩
  rw [if_neg h1]
  by_cases h2 : (!Rm.joined R p) = true
  · rw [if_pos h2]; exact ⟨rfl, rfl, rfl⟩
  rw [if_neg h2]
  obtain ⟨P, d, hp⟩ := sift_media h (by omega)
  rw [hp]
  dsimp only
  refine ⟨?_, rfl, rfl⟩
  unfold mediaT
  split <;> rfl
theorem take_known {R : Room} {ep : Int} {o : Rm.Op} {l : List UInt8} {sv : Value} (h : o.kind = 1 → Plain l) : (take R ep o l sv).1.1.unknown = 0 := by
  unfold take
  by_cases h1 : o.kind = 1
  · rw [if_pos h1]; exact (datagram_known (h h1)).1
  rw [if_neg h1]
  split <;> rfl
set_option maxHeartbeats 1000000 in
theorem FTake_plain (f d b : Nat) (F : Frnt) (kd p n q : Int) (nm : List UInt8) (ss : List Int) (sa ba : Option Addr) (sc bl bc : Nat) (l : List UInt8) (w : World) (hF : FrontAt w f d b F) (hc : F.c.Below 1000000000) (hI : Inv F.R) (hl : ∀ n, (F.R.src n).ss.length ≤ 1000000) (hT : Tabs w) (h0 : 0 ≤ F.ep) (h9 : F.ep < 1000000000)
    (hn : nm.length < 9223372036854775807) (hs : RRow w (.slice sa ss.length sc) ss.length (u32s ss)) (hb : kd = 1 → BRow w (.slice ba bl bc) l ∧ Plain l) :
    Calls Tryz.prog 18 #[.pointer (some ⟨f, 0, none⟩), .agg #[.int .i64 kd, .int .i64 p, .int .i64 n, .int .i64 q, .string (str nm), .slice sa ss.length sc, .slice ba bl bc]] w (FTakePost f d b F ⟨kd, p, n, q, nm, ss⟩ l w) := by
  refine FTake_any f d b F kd p n q nm ss sa ba sc bl bc l w hF hc (fun sv => ?_) (fun w' h => ?_)
  · rw [take_known (fun h => (hb h).2)]; exact ⟨by omega, by omega⟩
  · refine Take_any d b F.R F.ep kd p n q nm ss sa ba sc bl bc l w' (hF.door.below h) hI (Utf8Tabs_below hT h) h0 h9 hn (hs.below h) (fun hk w1 h1 => ?_)
    exact datagram_plain d b F.R F.ep kd p n q (str nm) sa ba ss.length sc bl bc l w1 ((hF.door.below h).below h1) hI hl (((hb hk).1.below h).below h1) (hb hk).2
/-- An operation, its bytes beside it. -/
structure OpB where
  x : OpV
  b : List UInt8
structure OpBsT (w : World) (v : Value) (L : List OpB) : Prop where
  row : Row w 32 v L.length (L.flatMap fun y => opvCells y.x)
  each : ∀ y ∈ L, Row w 66 (.slice y.x.sa y.x.o.ssrcs.length y.x.sc) y.x.o.ssrcs.length (u32s y.x.o.ssrcs) ∧ Row w 5 (.slice y.x.ba y.x.bl y.x.bc) y.b.length (bys y.b) ∧ y.x.o.name.length < 9223372036854775807
theorem OpBsT.below {w w' : World} {v : Value} {L : List OpB} (h : OpBsT w v L) (hb : Below w.heap.size w w') : OpBsT w' v L := ⟨h.row.below hb, fun y hy => ⟨(h.each y hy).1.below hb, (h.each y hy).2.1.below hb, (h.each y hy).2.2⟩⟩
theorem OpBsT.fr {w w' : World} {v : Value} {L : List OpB} {S : Nat → Prop} (h : OpBsT w v L) (hf : Fr w.heap.size S w w') (hS : Apart w S) : OpBsT w' v L :=
  ⟨Row.fr h.row hf (Nat.le_refl _) (hS.ne (by simp)), fun y hy => ⟨Row.fr (h.each y hy).1 hf (Nat.le_refl _) (hS.ne (by simp)), Row.fr (h.each y hy).2.1 hf (Nat.le_refl _) (hS.ne (by simp)), (h.each y hy).2.2⟩⟩
theorem FrontAt.apart {w : World} {f d b : Nat} {F : Frnt} (h : FrontAt w f d b F) : Apart w (fun k => k = b ∨ k = d ∨ k = f) := by
  rintro k (rfl | rfl | rfl)
  · exact h.door.apart k (Or.inl rfl)
  · exact h.door.apart k (Or.inr rfl)
  · exact ⟨_, _, _, h.blk, by decide, by decide, by decide, by decide, by decide, by decide, by decide⟩
def pk7 : List UInt8 := [128, 96, 0, 7, 0, 0, 0, 50, 0, 0, 0, 10, 192, 90, 0, 9, 5]
def bop : Nat → Rm.Op
  | 0 => ⟨2, 1, 0, 0, [97, 110, 110], []⟩
  | 1 => ⟨2, 2, 0, 0, [98, 111, 98], []⟩
  | 2 => ⟨4, 1, 3, 0, [], [10, 11]⟩
  | 3 => ⟨6, 2, 3, 0, [], []⟩
  | _ => ⟨1, 1, 0, 0, [], []⟩
def bby : Nat → List UInt8
  | 4 => pk7
  | _ => []
def bOps (h : Nat) : List OpB := [⟨⟨bop 0, none, 0, none, 0, 0⟩, []⟩, ⟨⟨bop 1, none, 0, none, 0, 0⟩, []⟩, ⟨⟨bop 2, some ⟨h, 0, none⟩, 2, none, 0, 0⟩, []⟩, ⟨⟨bop 3, none, 0, none, 0, 0⟩, []⟩, ⟨⟨bop 4, none, 0, some ⟨h + 1, 0, none⟩, 17, 17⟩, pk7⟩]
theorem packet_any (w : World) : Calls Tryz.prog 68 #[.int .u8 7, .int .u8 10] w fun e w' => e = .returned (.slice (some ⟨w.heap.size, 0, none⟩) 17 17) ∧ w' = w.alloc (.cells (bys pk7).toArray 5) := by
  go_enter Tryz.func68, Tryz.ntmps68
  go_wp2
  go_ret
  exact ⟨rfl, rfl⟩
theorem begin_any (w : World) : Calls Tryz.prog 39 #[] w fun e w' => e = .returned (.slice (some ⟨w.heap.size + 2, 0, none⟩) 5 5) ∧ OpBsT w' (.slice (some ⟨w.heap.size + 2, 0, none⟩) 5 5) (bOps w.heap.size) ∧ Below w.heap.size w w' := by
  have C := Lib.hid packet_any
  go_enter Tryz.func39, Tryz.ntmps39
  go_wp2_with (go_at_call 68; refine (C.out _).mono ?_; rintro e w2 ⟨rfl, rfl⟩)
  go_ret
  have h1 : Row (w.alloc (.cells (u32s [10, 11]).toArray 66)) 66 (.slice (some ⟨w.heap.size, 0, none⟩) 2 2) 2 (u32s [10, 11]) := rowNew w _ 2 (u32s [10, 11]) (by decide)
  have h2 := rowNew (w.alloc (.cells (u32s [10, 11]).toArray 66)) 5 17 (bys pk7) (by decide)
  have h3 := rowNew ((w.alloc (.cells (u32s [10, 11]).toArray 66)).alloc (.cells (bys pk7).toArray 5)) 32 5 ((bOps w.heap.size).flatMap fun y => opvCells y.x) (by decide)
  have e1 : (w.alloc (.cells (u32s [10, 11]).toArray 66)).heap.size = w.heap.size + 1 := by show (w.heap.push _).size = _; rw [Array.size_push]
  have e2 : ((w.alloc (.cells (u32s [10, 11]).toArray 66)).alloc (.cells (bys pk7).toArray 5)).heap.size = w.heap.size + 2 := by show ((w.heap.push _).push _).size = _; rw [Array.size_push, Array.size_push]
  rw [e1] at h2
  rw [e2] at h3
  refine ⟨rfl, ⟨h3, ?_⟩, bel_alloc (bel_alloc (below_alloc w _) (Nat.le_refl _) _) (Nat.le_refl _) _⟩
  intro x hx
  simp only [bOps, List.mem_cons, List.mem_nil_iff, or_false] at hx
  rcases hx with rfl | rfl | rfl | rfl | rfl
  · exact ⟨Row.nil _ _, Row.nil _ _, by decide⟩
  · exact ⟨Row.nil _ _, Row.nil _ _, by decide⟩
  · exact ⟨(h1.below (below_alloc _ _)).below (below_alloc _ _), Row.nil _ _, by show (bop 2).name.length < _; decide⟩
  · exact ⟨Row.nil _ _, Row.nil _ _, by decide⟩
  · exact ⟨Row.nil _ _, h2.below (below_alloc _ _), by show (bop 4).name.length < _; decide⟩
/-- The fronts behind the first operations. -/
def bR : Nat → Value → Room
  | 0, _ => Rm.empty
  | 1, _ => Rm.empty.setName 1 [97, 110, 110]
  | 2, _ => (Rm.empty.setName 1 [97, 110, 110]).setName 2 [98, 111, 98]
  | 3, sv => ((Rm.empty.setName 1 [97, 110, 110]).setName 2 [98, 111, 98]).setSrc 3 ⟨true, 3, 1, sv, [10, 11], false⟩
  | _, sv => (((Rm.empty.setName 1 [97, 110, 110]).setName 2 [98, 111, 98]).setSrc 3 ⟨true, 3, 1, sv, [10, 11], false⟩).setSub 3 2 ⟨true, false, 0⟩
def bE : Nat → Int
  | 0 => 0
  | 1 => 1
  | 2 => 2
  | 3 => 3
  | _ => 4
def bF (k : Nat) (sv : Value) : Frnt := ⟨bR k sv, bE k, noCnts⟩
def bA : Nat → Adm
  | 0 => ⟨0, 0, 0, 0⟩
  | 1 => ⟨2, 0, 1, 0⟩
  | 2 => ⟨2, 0, 2, 0⟩
  | 3 => ⟨2, 0, 3, 0⟩
  | 4 => ⟨2, 0, 4, 0⟩
  | _ => ⟨1, 3, 4, 0⟩
theorem bw0 (sv : Value) : wrong (bR 0 sv) (bop 0) = 0 := by kernel_rfl
theorem bw1 (sv : Value) : wrong (bR 1 sv) (bop 1) = 0 := by kernel_rfl
theorem bw2 (sv : Value) : wrong (bR 2 sv) (bop 2) = 0 := by kernel_rfl
theorem bw3 (sv : Value) : wrong (bR 3 sv) (bop 3) = 0 := by kernel_rfl
theorem bw5 (sv : Value) : wrong (bR 5 sv) ⟨0, 0, 0, 0, [], []⟩ = 4 := by kernel_rfl
theorem doo_okB {R : Room} {o : Rm.Op} {sv : Value} (h : wrong R o = 0) : doo R o sv = (turns R o sv, 0) := by unfold doo; rw [h]; simp
theorem bInv : ∀ k, ∀ sv, Inv (bR k sv)
  | 0, sv => inv_empty
  | 1, sv => by have := inv_doo (bInv 0 sv) (bop 0) sv; rw [doo_okB (bw0 sv)] at this; exact this
  | 2, sv => by have := inv_doo (bInv 1 sv) (bop 1) sv; rw [doo_okB (bw1 sv)] at this; exact this
  | 3, sv => by have := inv_doo (bInv 2 sv) (bop 2) sv; rw [doo_okB (bw2 sv)] at this; exact this
  | 4, sv => by have := inv_doo (bInv 3 sv) (bop 3) sv; rw [doo_okB (bw3 sv)] at this; exact this
  | k + 5, sv => bInv 4 sv
theorem bSlim : ∀ k, ∀ sv, Slim (bR k sv)
  | 0, sv => slim_empty
  | 1, sv => by have := slim_doo (bSlim 0 sv) (bop 0) sv; rw [doo_okB (bw0 sv)] at this; exact this
  | 2, sv => by have := slim_doo (bSlim 1 sv) (bop 1) sv; rw [doo_okB (bw1 sv)] at this; exact this
  | 3, sv => by have := slim_doo (bSlim 2 sv) (bop 2) sv; rw [doo_okB (bw2 sv)] at this; exact this
  | 4, sv => by have := slim_doo (bSlim 3 sv) (bop 3) sv; rw [doo_okB (bw3 sv)] at this; exact this
  | k + 5, sv => bSlim 4 sv
theorem frnt_ctl {F : Frnt} {o : Rm.Op} {l : List UInt8} {sv : Value} (h1 : o.kind ≠ 1) (h2 : wrong F.R o = 0) : F.take o l sv = (feedT (F.ep + 1) [] (turns F.R o sv).1 0, ⟨(turns F.R o sv).2, F.ep + 1, F.c.add 2 0⟩) := by
  unfold Frnt.take By.take
  rw [if_neg h1, doo_okB h2]
  rfl
theorem bStep (k : Nat) (hk : k < 5) (sv sv' : Value) : ∃ sv2, ((bF k sv).take (bop k) (bby k) sv').1.adm = bA (k + 1) ∧ ((bF k sv).take (bop k) (bby k) sv').2 = bF (k + 1) sv2 := by
  have : k = 0 ∨ k = 1 ∨ k = 2 ∨ k = 3 ∨ k = 4 := by omega
  rcases this with rfl | rfl | rfl | rfl | rfl
  · exact ⟨sv, by rw [frnt_ctl (F := bF 0 sv) (o := bop 0) (by decide) (bw0 sv)]; kernel_rfl, by rw [frnt_ctl (F := bF 0 sv) (o := bop 0) (by decide) (bw0 sv)]; kernel_rfl⟩
  · exact ⟨sv, by rw [frnt_ctl (F := bF 1 sv) (o := bop 1) (by decide) (bw1 sv)]; kernel_rfl, by rw [frnt_ctl (F := bF 1 sv) (o := bop 1) (by decide) (bw1 sv)]; kernel_rfl⟩
  · exact ⟨sv', by rw [frnt_ctl (F := bF 2 sv) (o := bop 2) (by decide) (bw2 sv)]; kernel_rfl, by rw [frnt_ctl (F := bF 2 sv) (o := bop 2) (by decide) (bw2 sv)]; kernel_rfl⟩
  · exact ⟨sv, by rw [frnt_ctl (F := bF 3 sv) (o := bop 3) (by decide) (bw3 sv)]; kernel_rfl, by rw [frnt_ctl (F := bF 3 sv) (o := bop 3) (by decide) (bw3 sv)]; kernel_rfl⟩
  · exact ⟨sv, by kernel_rfl, by kernel_rfl⟩
theorem bLast (sv sv' : Value) : ((bF 5 sv).take ⟨0, 0, 0, 0, [], []⟩ [] sv').1.adm = ⟨6, 0, 0, 4⟩ ∧ ((bF 5 sv).take ⟨0, 0, 0, 0, [], []⟩ [] sv').2 = ⟨bR 5 sv, 4, ⟨0, 0, 0, 1⟩⟩ := by
  have h : doo (bR 5 sv) ⟨0, 0, 0, 0, [], []⟩ sv' = (([], bR 5 sv), 4) := by unfold doo; rw [bw5]; rfl
  have h2 : (bF 5 sv).take ⟨0, 0, 0, 0, [], []⟩ [] sv' = (refusedT 6 4, ⟨bR 5 sv, 4, noCnts.add 6 0⟩) := by
    unfold Frnt.take By.take
    rw [if_neg (by decide)]
    show _ = _
    have e : (bF 5 sv).R = bR 5 sv := rfl
    rw [e, h]
    rfl
  rw [h2]
  exact ⟨rfl, rfl⟩
theorem bOps_at (h k : Nat) (hk : k < 5) : ∃ sa sc ba bl bc, (bOps h)[k]? = some ⟨⟨bop k, sa, sc, ba, bl, bc⟩, bby k⟩ := by
  have : k = 0 ∨ k = 1 ∨ k = 2 ∨ k = 3 ∨ k = 4 := by omega
  rcases this with rfl | rfl | rfl | rfl | rfl <;> exact ⟨_, _, _, _, _, rfl⟩
theorem bPlain (k : Nat) (hk : k < 5) : (bop k).kind = 1 → Plain (bby k) := by
  have : k = 0 ∨ k = 1 ∨ k = 2 ∨ k = 3 ∨ k = 4 := by omega
  rcases this with rfl | rfl | rfl | rfl | rfl
  · intro h; exact absurd h (by decide)
  · intro h; exact absurd h (by decide)
  · intro h; exact absurd h (by decide)
  · intro h; exact absurd h (by decide)
  · intro _; unfold Plain; decide
theorem bTab (sv : Value) : (Rm.table (bR 5 sv)).peers.length = 2 := by kernel_rfl
end Go.Proofs.By
set_option linter.unusedSimpArgs false
namespace Go.Proofs.By
open Go.RowKit Go.Proofs.Heap
open Go.Proofs.Rm (TurnRow Turn Room RoomAt Inv doo u32s OpV opvCells)
open Go.Proofs.Lab (Tabs)
open Go.Proofs.Mem
theorem FrontAt.fr {w w' : World} {f d b : Nat} {F : Frnt} {S : Nat → Prop} (h : FrontAt w f d b F) (hf : Fr w.heap.size S w w') (h1 : ¬ S f) (h2 : ¬ S d) (h3 : ¬ S b) (hS : ∀ k c fr, S k → w.heap[k]? ≠ some (.cells c 66 fr)) : FrontAt w' f d b F :=
  ⟨(hf.block f (hp_lt h.blk) h1).trans h.blk, h.door.fr hf h2 h3 hS⟩
def admCells (a : Adm) : Array Value := #[.int .i64 a.kind, .int .i64 a.source, .int .i64 a.epoch, .int .i64 a.err]
theorem apart_one {w : World} {X : Nat} {c : Array Value} {f : Nat × Nat} (h : w.heap[X]? = some (.cells c 35 f)) : Apart w (· = X) := fun k hk => by
  have hk : k = X := hk
  subst hk
  exact ⟨_, _, _, h, by decide, by decide, by decide, by decide, by decide, by decide, by decide⟩
theorem opb_at {w : World} {a : Option Addr} {c : Nat} {L : List OpB} (h : OpBsT w (.slice a L.length c) L) (hl : 0 < L.length) : ∃ g off, a = some ⟨g, off, none⟩ ∧ ∀ (i : Nat) (y : OpB), L[i]? = some y →
    w.cell? ⟨g, off + i * 7, none⟩ = some (.int .i64 y.x.o.kind) ∧ w.cell? ⟨g, off + i * 7 + 1, none⟩ = some (.int .i64 y.x.o.peer) ∧ w.cell? ⟨g, off + i * 7 + 2, none⟩ = some (.int .i64 y.x.o.source) ∧ w.cell? ⟨g, off + i * 7 + 3, none⟩ = some (.int .i64 y.x.o.layer) ∧ w.cell? ⟨g, off + i * 7 + 4, none⟩ = some (.string (str y.x.o.name)) ∧ w.cell? ⟨g, off + i * 7 + 5, none⟩ = some (.slice y.x.sa y.x.o.ssrcs.length y.x.sc) ∧ w.cell? ⟨g, off + i * 7 + 6, none⟩ = some (.slice y.x.ba y.x.bl y.x.bc) := by
  obtain ⟨g, off, cap, h1, _, _, _, h5⟩ := Rm.row_at (fun y : OpB => opvCells y.x) 7 (fun _ => rfl) (by omega) h.row hl
  exact ⟨g, off, (Rm.slice_inj h1).1, fun i x hx => ⟨h5 i x hx 0 (by omega), h5 i x hx 1 (by omega), h5 i x hx 2 (by omega), h5 i x hx 3 (by omega), h5 i x hx 4 (by omega), h5 i x hx 5 (by omega), h5 i x hx 6 (by omega)⟩⟩
theorem brow_of {w : World} {a : Option Addr} {n c : Nat} {l : List UInt8} (h : Row w 5 (.slice a n c) l.length (bys l)) : BRow w (.slice a n c) l := h.r
theorem bE_le (k : Nat) : 0 ≤ bE k ∧ bE k ≤ 4 := by
  match k with
  | 0 => exact ⟨by decide, by decide⟩
  | 1 => exact ⟨by decide, by decide⟩
  | 2 => exact ⟨by decide, by decide⟩
  | 3 => exact ⟨by decide, by decide⟩
  | k + 4 => exact ⟨by show (0 : Int) ≤ 4; decide, by show (4 : Int) ≤ 4; decide⟩
theorem noCnts_below : noCnts.Below 1000000000 := ⟨by decide, by decide, by decide, by decide⟩
set_option maxRecDepth 100000 in
set_option maxHeartbeats 8000000 in
theorem Fshown_any (w : World) (hT : Tabs w) : Calls Tryz.prog 14 #[] w fun e w' => e = .returned (.bool true) ∧ Below w.heap.size w w' := by
  have HT : Hid (∀ w', Below w.heap.size w w' → Tabs w') := fun w' h => Utf8Tabs_below hT h
  clear hT
  have CN := Lib.hid (FrontNew_any w)
  go_enter Tryz.func14, Tryz.ntmps14
  go_wp2_with fail
  refine CN.out.mono ?_
  rintro e w1 ⟨⟨f, d, b, rfl, hF, h1, h2, h3⟩, hb1⟩
  obtain ⟨nfd, nfb, ndb⟩ := hF.ne
  have hfl := hp_lt hF.blk
  have hdl := hp_lt hF.door.blk
  have hbl := hF.door.room.lt
  have HF1 := Lib.hid (hF.below (below_alloc w1 (.cells (admCells (bA 0)) 35)))
  have HL1 : Hid ((w1.alloc (.cells (admCells (bA 0)) 35)).heap[w1.heap.size]? = some (.cells (admCells (bA 0)) 35 (0, 0))) := heap_new w1 _
  have HB1 : Hid (Below w.heap.size w (w1.alloc (.cells (admCells (bA 0)) 35))) := bel_alloc hb1 (Nat.le_refl _) _
  have CB := Lib.hid (begin_any (w1.alloc (.cells (admCells (bA 0)) 35)))
  have hws := hb1.size
  clear hF CN hb1
  go_wp2_with fail
  refine CB.out.mono ?_
  rintro e w2 ⟨rfl, hops, hb2⟩
  have HB2 := Lib.hid (HB1.out.trans (hb2.mono HB1.out.size))
  have HF2 := Lib.hid (HF1.out.below hb2)
  have HL2 := Lib.hid ((hb2.block w1.heap.size (hp_lt HL1.out)).trans HL1.out)
  have HOPS := Lib.hid hops
  clear hops hb2 HF1 HL1 HB1 CB
  obtain ⟨H, hH⟩ : ∃ H, H = (w1.alloc (.cells (admCells (bA 0)) 35)).heap.size := ⟨_, rfl⟩
  rw [← hH] at HOPS ⊢
  clear hH
  obtain ⟨L, hL⟩ : ∃ L, L = w1.heap.size := ⟨_, rfl⟩
  rw [← hL] at HL2 hfl hdl hbl hws ⊢
  clear hL
  go_wp2_with fail
  go_loopw [9] (fun i w' => ∃ k : Nat, k ≤ 5 ∧ i = .int .i64 k ∧ Below w.heap.size w w' ∧ OpBsT w' (.slice (some ⟨H + 2, 0, none⟩) 5 5) (bOps H) ∧ w'.heap[L]? = some (.cells (admCells (bA k)) 35 (0, 0)) ∧ ∃ sv, FrontAt w' f d b (bF k sv)) (fun i _ => 5 - (intOf i).toNat)
  case atStart => exact ⟨0, by omega, rfl, HB2.out, HOPS.out, HL2.out, .slice none 0 0, HF2.out⟩
  case round =>
    clear HB2 HOPS HL2 HF2
    obtain ⟨k, hk, rfl, hbl', hops, hL, sv, hF⟩ := hrel
    have HBL := Lib.hid hbl'
    have HOPS := Lib.hid hops
    have HLB := Lib.hid hL
    have HF := Lib.hid hF
    have hsz := hbl'.size
    have hLl := hp_lt hL
    clear hbl' hL hF
    by_cases hk5 : k < 5
    · obtain ⟨g, off, e1, hcells⟩ := opb_at (L := bOps H) (a := some ⟨H + 2, 0, none⟩) (c := 5) hops (Nat.zero_lt_succ _)
      cases e1
      obtain ⟨xa, xc, ya, yl, yc, hx⟩ := bOps_at H k hk5
      obtain ⟨c0, c1, c2, c3, c4, c5, c6⟩ := hcells k _ hx
      have HXR := Lib.hid (hops.each _ (List.mem_of_getElem? hx))
      have hgl : H + 2 < wr.heap.size := World.block_lt_of_cell? wr ⟨H + 2, 0 + k * 7, none⟩ c0
      have HST := Lib.hid (bStep k hk5 sv)
      have HPL := Lib.hid (bPlain k hk5)
      have he := bE_le k
      clear hcells hx hops
      generalize bop k = o at *
      generalize bby k = y at *
      obtain ⟨kd, p, n, q, nm, ss⟩ := o
      dsimp only at c0 c1 c2 c3 c4 c5 c6 HXR HST HPL
      simp only [Nat.zero_add] at c0 c1 c2 c3 c4 c5 c6
      have hyl : kd = 1 ∨ kd ≠ 1 := by omega
      have CD : Hid (∀ w4, Below wr.heap.size wr w4 → Calls Tryz.prog 18 #[.pointer (some ⟨f, 0, none⟩), .agg #[.int .i64 kd, .int .i64 p, .int .i64 n, .int .i64 q, .string (str nm), .slice xa ss.length xc, .slice ya yl yc]] w4 (FTakePost f d b (bF k sv) ⟨kd, p, n, q, nm, ss⟩ y w4)) :=
        fun w4 h => FTake_plain f d b (bF k sv) kd p n q nm ss xa ya xc yl yc y w4 (HF.out.below h) noCnts_below (bInv k sv) (bSlim k sv).short (HT.out _ (HBL.out.trans (h.mono hsz))) he.1 (by show bE k < _; omega) HXR.out.2.2 (HXR.out.1.below h).r (fun hk1 => ⟨brow_of (HXR.out.2.1.below h), HPL.out hk1⟩)
      go_wp2_with (first | (go_at_call 18; refine (CD.out _ (below_alloc _ _)).mono ?_; rintro e w5 ⟨sv', he5, hF5, hfr5⟩; obtain ⟨sv2, ha, hf⟩ := HST.out sv'; rw [ha] at he5; rw [hf] at hF5; clear ha hf; dsimp only [admAgg] at he5; subst he5; have HF5 := Lib.hid hF5; have HFR5 := Lib.hid hfr5; have hb4 := below_alloc wr (.cells #[.int .i64 kd, .int .i64 p, .int .i64 n, .int .i64 q, .string (str nm), .slice xa ss.length xc, .slice ya yl yc] 32); have hw4 := hb4.size; have hL5 : w5.heap[L]? = some (.cells (admCells (bA k)) 35 (0, 0)) := (hfr5.block L (by omega) (by omega)).trans ((hb4.block L hLl).trans HLB.out); have HOPS5 := Lib.hid ((HOPS.out.below hb4).fr hfr5 (HF.out.below hb4).apart); have HBL5 : Hid (Below w.heap.size w w5) := (HBL.out.trans (hb4.mono hsz)).trans (Fr.below (hfr5.mono (Nat.le_trans hsz hw4) (fun j hj hs => by omega))); clear hF5 hfr5 hb4 hw4 CD) | (with_reducible refine store_at 35 (.tmp 2) (.tmp 15) rfl ?_; refine store_rowTo2 rfl 35 (.tmp 2) (.tmp 15) rfl rfl L (admCells (bA (k + 1))) rfl rfl 35 _ hL5 (by kernel_rfl) (by kernel_rfl) (by kernel_rfl) ?_))
      go_roundw
      case rel =>
        refine ⟨k + 1, by omega, by go_num, below_setRow HBL5.out hws _, HOPS5.out.fr (fr_setRow w5 L _) (apart_one hL5), setRow_heap _ _ _ _ _ _ hL5, sv2, ?_⟩
        exact HF5.out.fr (fr_setRow w5 L _) (fun e => by have e : f = L := e; omega) (fun e => by have e : d = L := e; omega) (fun e => by have e : b = L := e; omega) (fun j c fr hj => (apart_one hL5).ne (by simp) j c fr hj)
      case measure => simp [intOf]; omega
    · obtain rfl : k = 5 := by omega
      have CT : Hid (Calls Tryz.prog 18 #[.pointer (some ⟨f, 0, none⟩), .agg #[.int .i64 0, .int .i64 0, .int .i64 0, .int .i64 0, .string ⟨#[]⟩, .slice none 0 0, .slice none 0 0]] wr (FTakePost f d b (bF 5 sv) ⟨0, 0, 0, 0, [], []⟩ [] wr)) :=
        FTake_plain f d b (bF 5 sv) 0 0 0 0 [] [] none none 0 0 0 [] wr HF.out noCnts_below (bInv 5 sv) (bSlim 5 sv).short (HT.out _ HBL.out) (by show (0 : Int) ≤ 4; decide) (by show (4 : Int) < 1000000000; decide) (by decide) (RRow.nil _) (fun h => absurd h (by decide))
      clear hops
      go_wp2_with fail
      refine CT.out.mono ?_
      rintro e w5 ⟨sv', he5, hF5, hfr5⟩
      rw [(bLast sv sv').1] at he5
      rw [(bLast sv sv').2] at hF5
      dsimp only [admAgg] at he5
      subst he5
      have hL5 : w5.heap[L]? = some (.cells (admCells (bA 5)) 35 (0, 0)) := (hfr5.block L (by omega) (by omega)).trans HLB.out
      have HBL5 : Hid (Below w.heap.size w w5) := HBL.out.trans (Fr.below (hfr5.mono hsz (fun j hj hs => by omega)))
      have hb6 := below_alloc w5 (.cells #[.int .i64 6, .int .i64 0, .int .i64 0, .int .i64 4] 35)
      have HF6 := Lib.hid (hF5.below hb6)
      have HB6 : Hid (Below w.heap.size w (w5.alloc (.cells #[.int .i64 6, .int .i64 0, .int .i64 0, .int .i64 4] 35))) := HBL5.out.trans (hb6.mono HBL5.out.size)
      have hLl5 := hp_lt hL5
      have z0 : w5.cell? ⟨L, 0, none⟩ = some (.int .i64 1) := cell_of hL5 0
      have z1 : w5.cell? ⟨L, 1, none⟩ = some (.int .i64 3) := cell_of hL5 1
      have z2 : w5.cell? ⟨L, 2, none⟩ = some (.int .i64 4) := cell_of hL5 2
      have z3 : w5.cell? ⟨L, 3, none⟩ = some (.int .i64 0) := cell_of hL5 3
      have CE := Lib.hid (Epoch_any f d b _ _ HF6.out)
      have CC := Lib.hid (Counts_any f d b _ _ HF6.out)
      have CTB := Lib.hid (fun w' h => FrontTable_any f d b _ w' (HF6.out.below h) (bSlim 5 sv).short)
      have HTB := Lib.hid (bTab sv)
      clear CT hF5 hfr5 hb6 HF HLB HOPS HBL HT hL5 HBL5
      dsimp only at CE CC
      have hfd1 : ∀ w : World, (Instr.field 41 (.agg #[.int .i64 0, .int .i64 0, .int .i64 0, .int .i64 1, .int .i64 0, .int .i64 0, .int .i64 0, .int .i64 0]) 3).run Tryz.prog w = .ok (.int .i64 1) w := fun _ => by kernel_rfl
      have hfd2 : ∀ (a : Option Addr) (n c : Nat) (y z : Value) (w : World), (Instr.field 51 (.agg #[.slice a n c, y, z]) 0).run Tryz.prog w = .ok (.slice a n c) w := fun _ _ _ _ _ _ => by kernel_rfl
      go_wp2_with (first | (go_at_call 23; refine CE.out.mono ?_; rintro e w7 ⟨rfl, rfl⟩) | (go_at_call 19; refine CC.out.mono ?_; rintro e w7 ⟨rfl, hb7⟩; have HB7 := Lib.hid hb7; clear hb7) | (go_at_call 21; refine (CTB.out _ HB7.out).mono ?_; rintro e w8 ⟨⟨pv, sv2, uv, rfl, ht⟩, hb8⟩; obtain ⟨pa, pc, hpv⟩ := Row.form ht.peers; rw [HTB.out] at hpv; subst hpv; have HB8 := Lib.hid (HB7.out.trans (hb8.mono HB7.out.size)); clear ht hb8))
      go_ret
      exact ⟨rfl, HB6.out.trans (HB8.out.mono HB6.out.size)⟩
end Go.Proofs.By
set_option linter.unusedSimpArgs false
namespace Go.Proofs.By
open Go.RowKit Go.Proofs.Heap
open Go.Proofs.Rm (OpV opvCells u32s trod_op)
open Go.Proofs.Lab (Tabs)
open Go.Proofs.Mem
set_option maxRecDepth 100000 in
set_option maxHeartbeats 4000000 in
theorem FrontNone_any (y : OpV) (w : World) (hT : Tabs w) : Calls Tryz.prog 4 #[.agg (opvCells y).toArray] w fun e w' => e = .returned (.bool true) ∧ Below w.heap.size w w' := by
  obtain ⟨⟨kd, p, n, q, nm, ss⟩, sa, sc, ba, bl, bc⟩ := y
  dsimp only [opvCells]
  have hba := below_alloc w (.cells #[.int .i64 kd, .int .i64 p, .int .i64 n, .int .i64 q, .string (str nm), .slice sa ss.length sc, .slice ba bl bc] 32)
  have hxr := heap_new w (.cells #[.int .i64 kd, .int .i64 p, .int .i64 n, .int .i64 q, .string (str nm), .slice sa ss.length sc, .slice ba bl bc] 32)
  have CS := Lib.hid (Fshown_any _ (Utf8Tabs_below hT hba))
  have HBA := Lib.hid hba
  have hxl := hp_lt hxr
  clear hT hba
  go_enter Tryz.func4, Tryz.ntmps4
  go_wp2_with fail
  refine CS.out.mono ?_
  rintro e w2 ⟨rfl, hb2⟩
  have hx2 := (hb2.block _ hxl).trans hxr
  have HB2 := Lib.hid (HBA.out.trans (hb2.mono HBA.out.size))
  have hx2l := hp_lt hx2
  clear hb2 hxr CS
  go_wp2_with fail
  refine (nilTable_any _).mono ?_
  rintro e w3 ⟨rfl, hb3⟩
  have hx3 := ((below_alloc w3 (.cells #[.slice none 0 0, .slice none 0 0, .slice none 0 0] 51)).block _ (Nat.lt_of_lt_of_le hx2l hb3.size)).trans ((hb3.block _ hx2l).trans hx2)
  have HB3 : Hid (Below w.heap.size w (w3.alloc (.cells #[.slice none 0 0, .slice none 0 0, .slice none 0 0] 51))) := bel_alloc (HB2.out.trans (hb3.mono HB2.out.size)) (Nat.le_refl _) _
  have hsz3 := HB3.out.size
  have ht3 := heap_new w3 (.cells #[.slice none 0 0, .slice none 0 0, .slice none 0 0] 51)
  have htl := hp_lt ht3
  clear hb3 hx2 hx2l
  go_wp2_with (first | (with_reducible refine load_at 32 (.tmp 1) rfl ?_; refine load_rowTo2 rfl 32 (.tmp 1) rfl w.heap.size rfl 32 #[.int .i64 kd, .int .i64 p, .int .i64 n, .int .i64 q, .string (str nm), .slice sa ss.length sc, .slice ba bl bc] (0, 0) _ hx3 Tryz.underlying32 rfl (by kernel_rfl) ?_) | (go_at_call 18; refine (nilTake_any _ _).mono ?_; rintro e w4 ⟨rfl, hb4⟩; have HB4 := Lib.hid hb4; have hs4 := hb4.size; clear hb4) | (go_at_call 23; refine (nilEpoch_any _).mono ?_; rintro e w7 ⟨rfl, rfl⟩) | (go_at_call 19; refine (nilCounts_any _).mono ?_; rintro e w5 ⟨rfl, hb5⟩; have ht5 := (hb5.block _ (Nat.lt_of_lt_of_le htl hs4)).trans ((HB4.out.block _ htl).trans ht3); have z0 : w5.cell? ⟨w3.heap.size, 0, none⟩ = some (.slice none 0 0) := cell_of ht5 0; have z1 : w5.cell? ⟨w3.heap.size, 1, none⟩ = some (.slice none 0 0) := cell_of ht5 1; have z2 : w5.cell? ⟨w3.heap.size, 2, none⟩ = some (.slice none 0 0) := cell_of ht5 2; have HB5 := Lib.hid hb5; clear hb5 ht5))
  go_ret
  exact ⟨rfl, (HB3.out.trans (HB4.out.mono hsz3)).trans (HB5.out.mono (Nat.le_trans hsz3 hs4))⟩
/-- An argument that is an operation. -/
theorem open_op {H : Type} {enc : TypeId × Value → H} {W : World} {base : Nat} {sp : Nat → Bool} {held : Bool} {v : Value} {d : DataW H} {ps : List MemPlace} (h : DataW.Trod enc Tryz.prog W base sp held 32 v d ps) : ∃ y : OpV, v = .agg (opvCells y).toArray ∧ RRow W (.slice y.sa y.o.ssrcs.length y.sc) y.o.ssrcs.length (u32s y.o.ssrcs) ∧ y.o.name.length ∈ d.weights Tryz.prog 32 := by
  obtain ⟨fuel, h⟩ := h
  obtain ⟨y, hy, hr, hn⟩ := trod_op h
  refine ⟨y, ?_, hr, hn⟩
  cases v with
  | agg cs =>
    have hy : cs.toList = opvCells y := hy
    rw [← hy]
  | _ => first | (exact absurd (congrArg List.length hy) (by simp [Value.cells, opvCells]))
end Go.Proofs.By
