/- Several texts in one: The laws' first part: the operations of 'start', and what 'shown' asks. The walk of the law RoomKeeps, out of the contracts. The walk of the law RoomGone, out of the contracts. -/
import Derived.StillTailTactics
import Derived.Deep.RegionHeld3
import Derived.Test.YtpdjhlcbcomdkaaGreatDoorK02
import Derived.Test.YtpdjhlcbcomdkaaGreatDoorK11
import Derived.Test.YtpdjhlcbcomdkaaGreatDoorK12
namespace Go.Proofs.Rm
open Go.RowKit Go.Proofs.Heap Go.Proofs.Mem
open Go.Proofs.Lab (may key Tabs)
/-- A slice value holds operations. -/
structure OpsRow (w : World) (v : Value) (l : List OpV) : Prop where
  row : Row w 32 v l.length (l.flatMap opvCells)
  each : ∀ x ∈ l, Row w 66 (.slice x.sa x.o.ssrcs.length x.sc) x.o.ssrcs.length (u32s x.o.ssrcs) ∧ x.o.name.length < 9223372036854775807
theorem OpsRow.below {w w' : World} {v : Value} {l : List OpV} (h : OpsRow w v l) (hb : Below w.heap.size w w') : OpsRow w' v l := ⟨h.row.below hb, fun x hx => ⟨(h.each x hx).1.below hb, (h.each x hx).2⟩⟩
theorem row_atR {α : Type} (f : α → List Value) (k : Nat) (hk : ∀ x, (f x).length = k) (hk0 : 0 < k) {w : World} {v : Value} {n : Nat} {l : List α} (h : RRow w v n (l.flatMap f)) (hl : 0 < l.length) :
    ∃ g off cap, v = .slice (some ⟨g, off, none⟩) n cap ∧ n ≤ cap ∧ cap ≤ maxLen ∧ g < w.heap.size ∧ ∀ (i : Nat) (x : α), l[i]? = some x → ∀ j, j < k → w.cell? ⟨g, off + i * k + j, none⟩ = (f x)[j]? := by
  have hfl := flat_length f k hk l
  obtain ⟨g, off, cap, h1, h2, h3, h4, h5⟩ := h.open (by rw [hfl]; exact Nat.mul_pos hl hk0)
  refine ⟨g, off, cap, h1, h2, h3, h4, fun i x hx j hj => ?_⟩
  have hi : i < l.length := (List.getElem?_eq_some_iff.1 hx).1
  have hlt : i * k + j < l.length * k := by
    have h6 : (i + 1) * k ≤ l.length * k := Nat.mul_le_mul_right _ hi
    rw [Nat.succ_mul] at h6
    omega
  rw [Nat.add_assoc, h5 _ (by rw [hfl]; exact hlt)]
  exact flat_at f k hk l i j x hx hj
theorem opsR_at {w : World} {a : Option Addr} {c : Nat} {l : List OpV} (h : OpsR w (.slice a l.length c) l) (hl : 0 < l.length) : ∃ g off, a = some ⟨g, off, none⟩ ∧ ∀ (i : Nat) (x : OpV), l[i]? = some x →
    w.cell? ⟨g, off + i * 7, none⟩ = some (.int .i64 x.o.kind) ∧ w.cell? ⟨g, off + i * 7 + 1, none⟩ = some (.int .i64 x.o.peer) ∧ w.cell? ⟨g, off + i * 7 + 2, none⟩ = some (.int .i64 x.o.source) ∧ w.cell? ⟨g, off + i * 7 + 3, none⟩ = some (.int .i64 x.o.layer) ∧ w.cell? ⟨g, off + i * 7 + 4, none⟩ = some (.string (str x.o.name)) ∧ w.cell? ⟨g, off + i * 7 + 5, none⟩ = some (.slice x.sa x.o.ssrcs.length x.sc) ∧ w.cell? ⟨g, off + i * 7 + 6, none⟩ = some (.slice x.ba x.bl x.bc) := by
  obtain ⟨g, off, cap, h1, _, _, _, h5⟩ := row_atR opvCells 7 (fun _ => rfl) (by omega) h.row hl
  exact ⟨g, off, (slice_inj h1).1, fun i x hx => ⟨h5 i x hx 0 (by omega), h5 i x hx 1 (by omega), h5 i x hx 2 (by omega), h5 i x hx 3 (by omega), h5 i x hx 4 (by omega), h5 i x hx 5 (by omega), h5 i x hx 6 (by omega)⟩⟩
theorem OpsRow.fr {w w' : World} {v : Value} {l : List OpV} {b : Nat} {R : Room} (h : OpsRow w v l) (hf : Fr w.heap.size (· = b) w w') (hR : RoomAt w b R) : OpsRow w' v l :=
  ⟨h.row.fr hf (Nat.le_refl _) (hR.typ (by decide)), fun x hx => ⟨(h.each x hx).1.fr hf (Nat.le_refl _) (hR.typ (by decide)), (h.each x hx).2⟩⟩
theorem ops_at {w : World} {a : Option Addr} {c : Nat} {l : List OpV} (h : OpsRow w (.slice a l.length c) l) (hl : 0 < l.length) : ∃ g off, a = some ⟨g, off, none⟩ ∧ ∀ (i : Nat) (x : OpV), l[i]? = some x →
    w.cell? ⟨g, off + i * 7, none⟩ = some (.int .i64 x.o.kind) ∧ w.cell? ⟨g, off + i * 7 + 1, none⟩ = some (.int .i64 x.o.peer) ∧ w.cell? ⟨g, off + i * 7 + 2, none⟩ = some (.int .i64 x.o.source) ∧ w.cell? ⟨g, off + i * 7 + 3, none⟩ = some (.int .i64 x.o.layer) ∧ w.cell? ⟨g, off + i * 7 + 4, none⟩ = some (.string (str x.o.name)) ∧ w.cell? ⟨g, off + i * 7 + 5, none⟩ = some (.slice x.sa x.o.ssrcs.length x.sc) ∧ w.cell? ⟨g, off + i * 7 + 6, none⟩ = some (.slice x.ba x.bl x.bc) := by
  obtain ⟨g, off, cap, h1, _, _, _, h5⟩ := row_at opvCells 7 (fun _ => rfl) (by omega) h.row hl
  exact ⟨g, off, (slice_inj h1).1, fun i x hx => ⟨h5 i x hx 0 (by omega), h5 i x hx 1 (by omega), h5 i x hx 2 (by omega), h5 i x hx 3 (by omega), h5 i x hx 4 (by omega), h5 i x hx 5 (by omega), h5 i x hx 6 (by omega)⟩⟩
/-- The room after some operations; the slice values of its sources are as they may be. -/
inductive Runs : List Op → Room → Prop
  | nil : Runs [] empty
  | snoc {l : List Op} {R : Room} (o : Op) (sv : Value) : Runs l R → Runs (l ++ [o]) (doo R o sv).1.2
theorem Runs.inv {l : List Op} {R : Room} (h : Runs l R) : Inv R := by
  induction h with
  | nil => exact inv_empty
  | snoc o sv _ ih => exact inv_doo ih o sv
theorem inv_short {R : Room} (h : Inv R) : ∀ n, (R.src n).there = true → (R.src n).ss.length ≤ 1000000 := fun n ht => by have := (h.srcAt n ht).2.2.2.2.2.1; omega
/-- Of a room that keeps what is not there empty, every list of SSRCs is short. -/
structure Slim (R : Room) : Prop where
  short : ∀ n, (R.src n).ss.length ≤ 1000000
theorem slim_setSrc {R : Room} (h : Slim R) (n : Nat) (x : Src) (hx : x.ss.length ≤ 1000000) : Slim (R.setSrc n x) := ⟨fun m => by rw [setSrc_src]; split; exact hx; exact h.short m⟩
theorem slim_gone {R : Room} (h : Slim R) (n : Nat) : Slim (gone R n).2 := ⟨fun m => by rw [gone_src]; split; exact Nat.zero_le _; exact h.short m⟩
theorem slim_leave {R : Room} (h : Slim R) (p : Nat) : Slim (leave R p).2 := by
  have h1 : Slim (leave1 p R 9).2 := ⟨fun m => by rw [(leave1_names R p 9).2]; exact h.short m⟩
  exact ⟨fun m => by show ((leave2 (leave1 p R 9).2 p 9).2.src m).ss.length ≤ _; rw [leave2_src]; split; exact Nat.zero_le _; exact h1.short m⟩
theorem slim_turns {R : Room} {o : Op} (h : Slim R) (ok : Ok R o) (sv : Value) : Slim (turns R o sv).2 := by
  unfold turns
  dsimp only
  by_cases k2 : o.kind = 2
  · rw [if_pos k2]; exact ⟨h.short⟩
  rw [if_neg k2]
  by_cases k3 : o.kind = 3
  · rw [if_pos k3]; exact slim_leave h _
  rw [if_neg k3]
  by_cases k4 : o.kind = 4
  · rw [if_pos k4]; exact slim_setSrc h _ _ (by have := (pub_ok (ok.pub k4)).2.1; show o.ssrcs.length ≤ _; omega)
  rw [if_neg k4]
  by_cases k5 : o.kind = 5
  · rw [if_pos k5]; exact slim_gone h _
  rw [if_neg k5]
  by_cases k6 : o.kind = 6
  · rw [if_pos k6]; exact ⟨h.short⟩
  rw [if_neg k6]
  by_cases k7 : o.kind = 7
  · rw [if_pos k7]; exact ⟨h.short⟩
  rw [if_neg k7]
  by_cases k8 : o.kind = 8
  · rw [if_pos k8]; exact slim_setSrc h _ _ (h.short _)
  rw [if_neg k8]
  by_cases k9 : o.kind = 9
  · rw [if_pos k9]; exact slim_setSrc h _ _ (h.short _)
  rw [if_neg k9]
  split
  · exact ⟨h.short⟩
  split
  · exact ⟨h.short⟩
  split
  · exact ⟨h.short⟩
  · exact h
theorem slim_doo {R : Room} (h : Slim R) (o : Op) (sv : Value) : Slim (doo R o sv).1.2 := by
  unfold doo
  by_cases h0 : wrong R o = 0
  · rw [if_neg (by simpa using h0)]; exact slim_turns h (wrong_ok h0) sv
  · rw [if_pos h0]; exact h
theorem slim_empty : Slim empty := ⟨fun _ => Nat.zero_le _⟩
theorem slim_goneOp {R : Room} (h : Slim R) (p x : Int) : Slim (goneOp R p x).1.2 := by
  unfold goneOp
  split
  · exact h
  · exact slim_gone h _
def op1 : Op := ⟨2, 1, 0, 0, [97, 110, 110], []⟩
def op2 : Op := ⟨2, 2, 0, 0, [98, 111, 98], []⟩
def op3 : Op := ⟨4, 1, 3, 0, [], [10, 11]⟩
def op4 : Op := ⟨6, 2, 3, 1, [], []⟩
def op5 : Op := ⟨2, 3, 0, 0, [65, 78, 78], []⟩
end Go.Proofs.Rm
namespace Go.Proofs.Rm
open Go.RowKit Go.Proofs.Heap Go.Proofs.Mem
open Go.Proofs.Lab (may key Tabs)
theorem doo_wrong {R : Room} {o : Op} {sv : Value} (h : (doo R o sv).2 ≠ 0) : (doo R o sv).1 = ([], R) := by
  unfold doo at h ⊢
  by_cases h0 : wrong R o = 0
  · rw [if_neg (by simpa using h0)] at h; exact absurd rfl h
  · rw [if_pos h0]
theorem fr_below {B b : Nat} {w3 w5 : World} (h : Fr w3.heap.size (· = b) w3 w5) (hb : B ≤ b) (h3 : B ≤ w3.heap.size) : Below B w3 w5 := Fr.below (h.mono h3 (fun k hk hs => by have hs : k = b := hs; omega))
theorem fr_alloc {b : Nat} {w3 w5 : World} {o : Obj} (h : Fr (w3.alloc o).heap.size (· = b) (w3.alloc o) w5) : Fr w3.heap.size (· = b) w3 w5 := (Fr.of_below _ (below_alloc w3 o)).trans (h.mono (by simp) (fun _ _ h => h))
end Go.Proofs.Rm
namespace Go.Proofs.Rm
open Go.RowKit Go.Proofs.Heap Go.Proofs.Mem
open Go.Proofs.Lab (may key Tabs)
theorem ofGo_no (R : Room) (x : Int) : ∀ k n, (ofGo R x k n).2.2 = false → ofGo R x k n = (0, 0, false)
  | 0, _, _ => rfl
  | k + 1, n, h => by
    unfold ofGo at h ⊢
    by_cases hc : ((R.src n).there && decide (0 ≤ index (R.src n).ss x)) = true
    · rw [if_pos hc] at h; cases h
    · rw [if_neg hc] at h ⊢; exact ofGo_no R x k (n + 1) h
theorem of_no {R : Room} {x : Int} (h : (of R x).2.2 = false) : of R x = (0, 0, false) := ofGo_no R x 9 0 h
theorem table_eqv {R R' : Room} (h : R.bare = R'.bare) : table R = table R' := by
  have a : table R.bare = table R := rfl
  have b : table R'.bare = table R' := rfl
  rw [← a, ← b, h]
/-- What 'Source' leaves, whatever the number. -/
theorem Source_any (b : Nat) (R : Room) (n : Nat) (w : World) (hR : RoomAt w b R) (hI : Inv R) (hl : ∀ n, (R.src n).ss.length ≤ 1000000) :
    Calls Tryz.prog 81 #[.pointer (some ⟨b, 0, none⟩), .int .i64 n] w fun e w' =>
      (∃ (nm ow : Int) (a : Option Addr) (k c : Nat) (mu has : Bool), e = .returned (.tuple #[.agg #[.int .i64 nm, .int .i64 ow, .slice a k c, .bool mu], .bool has]) ∧ has = (R.src n).there ∧ (has = true → ow = (R.src n).own)) ∧ Below w.heap.size w w' := by
  cases ht : (R.src n).there
  · refine (Source_no b R n w hR ?_).mono ?_
    · rw [Int.toNat_natCast, ht, Bool.and_false]
    · rintro e w' ⟨rfl, hb⟩
      exact ⟨⟨_, _, _, _, _, _, _, rfl, rfl, fun h => by cases h⟩, hb⟩
  · have hs := hI.srcAt n ht
    refine (Source_yes b R n w hR ⟨hs.1, hs.2.1⟩ ht (hl n)).mono ?_
    rintro e w' ⟨⟨v', rfl, ⟨a, c, rfl, _⟩⟩, hb⟩
    exact ⟨⟨_, _, _, _, _, _, _, rfl, rfl, fun _ => rfl⟩, hb⟩
end Go.Proofs.Rm
