/- The room in memory: one block of 297 cells. -/
import Derived.Test.YthlamfoldfeocaaDoorChecked
import Derived.Test.YthlamfoldfeocaaDoorHeap
import Derived.Test.YthlamfoldfeocaaDoorMem
import Derived.Test.YthlamfoldfeocaaDoorRoomDef
import Derived.Test.YthlamfoldfeocaaDoorApp
import Derived.Test.YthlamfoldfeocaaDoorLoad
namespace Go.Proofs.Rm
open Go.RowKit Go.Proofs.Heap Go.Proofs.Mem
def srcCell (s : Src) (i : Nat) : Value :=
  if i = 0 then .bool s.there else if i = 1 then .int .i64 s.num else if i = 2 then .int .i64 s.own else if i = 3 then s.sv else .bool s.muted
def subCell (x : Sub) (i : Nat) : Value :=
  if i = 0 then .bool x.there else if i = 1 then .bool x.paused else .int .i64 x.want
def roomCell (R : Room) (j : Nat) : Value :=
  if j < 9 then .string (str (R.names j)) else if j < 54 then srcCell (R.src ((j - 9) / 5)) ((j - 9) % 5)
  else subCell (R.sub ((j - 54) / 27) ((j - 54) % 27 / 3)) ((j - 54) % 3)
def u32s (l : List Int) : List Value := l.map (Value.int .u32)
/-- Block b holds the room R. -/
structure RoomAt (w : World) (b : Nat) (R : Room) : Prop where
  cells : ∃ c, w.heap[b]? = some (.cells c 88) ∧ c.size = 297 ∧ ∀ j, j < 297 → c[j]? = some (roomCell R j)
  rows : ∀ n, n < 9 → Row w 23 (R.src n).sv (R.src n).ss.length (u32s (R.src n).ss)
theorem RoomAt.lt {w : World} {b : Nat} {R : Room} (h : RoomAt w b R) : b < w.heap.size := by
  obtain ⟨c, hc, _⟩ := h.cells
  rcases Nat.lt_or_ge b w.heap.size with h | h
  · exact h
  · rw [Array.getElem?_eq_none h] at hc; cases hc
theorem RoomAt.cell {w : World} {b : Nat} {R : Room} (h : RoomAt w b R) {j : Nat} (hj : j < 297) : w.cell? ⟨b, j, none⟩ = some (roomCell R j) := by
  obtain ⟨c, hc, _, hall⟩ := h.cells
  simp only [World.cell?, hc]
  exact hall j hj
theorem RoomAt.unfrozen {w : World} {b : Nat} {R : Room} (h : RoomAt w b R) (j : Nat) : w.frozen? ⟨b, j, none⟩ = false := by
  obtain ⟨c, hc, _, _⟩ := h.cells
  simp [World.frozen?, hc]
theorem RoomAt.fr {B : Nat} {S : Nat → Prop} {w w' : World} {b : Nat} {R : Room} (h : RoomAt w b R) (hf : Fr B S w w') (hB : w.heap.size ≤ B) (hb : ¬ S b) (hS : ∀ k c fr, S k → w.heap[k]? ≠ some (.cells c 23 fr)) : RoomAt w' b R := by
  have hlt := h.lt
  obtain ⟨c, hc, hs, hall⟩ := h.cells
  exact ⟨⟨c, by rw [hf.block b (by omega) hb]; exact hc, hs, hall⟩, fun n hn => (h.rows n hn).fr hf hB hS⟩
theorem RoomAt.below {w w' : World} {b : Nat} {R : Room} (h : RoomAt w b R) (hb : Below w.heap.size w w') : RoomAt w' b R :=
  h.fr (Fr.of_below NoB hb) (Nat.le_refl _) (fun x => x) (fun _ _ _ h => h.elim)
/-- Block b is no row of SSRCs. -/
theorem RoomAt.other {w : World} {b : Nat} {R : Room} (h : RoomAt w b R) : ∀ k c fr, k = b → w.heap[k]? ≠ some (.cells c 23 fr) := by
  intro k c fr hk e
  subst hk
  obtain ⟨c', hc, _, _⟩ := h.cells
  rw [hc] at e
  injection e with e
  injection e with _ e _
  exact absurd e (by decide)
theorem RoomAt.set {w : World} {b : Nat} {R R' : Room} (h : RoomAt w b R) {i : Nat} {v : Value} (hi : i < 297) (hv : ∀ j, j < 297 → roomCell R' j = if j = i then v else roomCell R j)
    (hr : ∀ n, n < 9 → Row w 23 (R'.src n).sv (R'.src n).ss.length (u32s (R'.src n).ss)) : RoomAt (w.setCell ⟨b, i, none⟩ v) b R' := by
  have ho := h.other
  obtain ⟨c, hc, hs, hall⟩ := h.cells
  refine ⟨⟨c.setIfInBounds i v, ?_, by rw [Array.size_setIfInBounds]; exact hs, fun j hj => ?_⟩, fun n hn => ?_⟩
  · simp [World.setCell, Array.getElem?_modify, hc]
  · rw [hv j hj, Array.getElem?_setIfInBounds]
    by_cases hij : i = j
    · subst hij
      rw [if_pos rfl, if_pos rfl, if_pos (by omega)]
    · rw [if_neg hij, if_neg (fun e => hij e.symm)]
      exact hall j hj
  · exact (hr n hn).fr ((Fr.refl w.heap.size (· = b) w).setCell (Or.inr rfl) v) (Nat.le_refl _) ho
theorem rc_sub (R : Room) {n p i : Nat} (hn : n < 9) (hp : p < 9) (hi : i < 3) : roomCell R (54 + n * 27 + p * 3 + i) = subCell (R.sub n p) i := by
  unfold roomCell
  rw [if_neg (by omega), if_neg (by omega), show (54 + n * 27 + p * 3 + i - 54) / 27 = n by omega, show (54 + n * 27 + p * 3 + i - 54) % 27 / 3 = p by omega, show (54 + n * 27 + p * 3 + i - 54) % 3 = i by omega]
theorem rc_src (R : Room) {n i : Nat} (hn : n < 9) (hi : i < 5) : roomCell R (9 + n * 5 + i) = srcCell (R.src n) i := by
  unfold roomCell
  rw [if_neg (by omega), if_pos (by omega), show (9 + n * 5 + i - 9) / 5 = n by omega, show (9 + n * 5 + i - 9) % 5 = i by omega]
theorem RoomAt.subc {w : World} {b : Nat} {R : Room} (h : RoomAt w b R) {n p : Nat} (hn : n < 9) (hp : p < 9) :
    w.cell? ⟨b, 54 + n * 27 + p * 3, none⟩ = some (.bool (R.sub n p).there) ∧ w.cell? ⟨b, 54 + n * 27 + p * 3 + 1, none⟩ = some (.bool (R.sub n p).paused) ∧ w.cell? ⟨b, 54 + n * 27 + p * 3 + 2, none⟩ = some (.int .i64 (R.sub n p).want) :=
  ⟨by rw [h.cell (by omega)]; exact congrArg some (rc_sub R (i := 0) hn hp (by omega)), by rw [h.cell (by omega), rc_sub R hn hp (by omega)]; rfl, by rw [h.cell (by omega), rc_sub R hn hp (by omega)]; rfl⟩
theorem RoomAt.srcc {w : World} {b : Nat} {R : Room} (h : RoomAt w b R) {n : Nat} (hn : n < 9) :
    w.cell? ⟨b, 9 + n * 5, none⟩ = some (.bool (R.src n).there) ∧ w.cell? ⟨b, 9 + n * 5 + 1, none⟩ = some (.int .i64 (R.src n).num) ∧ w.cell? ⟨b, 9 + n * 5 + 2, none⟩ = some (.int .i64 (R.src n).own) ∧ w.cell? ⟨b, 9 + n * 5 + 3, none⟩ = some (R.src n).sv ∧ w.cell? ⟨b, 9 + n * 5 + 4, none⟩ = some (.bool (R.src n).muted) :=
  ⟨by rw [h.cell (by omega)]; exact congrArg some (rc_src R (i := 0) hn (by omega)), by rw [h.cell (by omega), rc_src R hn (by omega)]; rfl, by rw [h.cell (by omega), rc_src R hn (by omega)]; rfl, by rw [h.cell (by omega), rc_src R hn (by omega)]; rfl, by rw [h.cell (by omega), rc_src R hn (by omega)]; rfl⟩
theorem RoomAt.namec {w : World} {b : Nat} {R : Room} (h : RoomAt w b R) {p : Nat} (hp : p < 9) : w.cell? ⟨b, p, none⟩ = some (.string (str (R.names p))) := by
  rw [h.cell (by omega)]; unfold roomCell; rw [if_pos hp]
theorem sub_setSub (R : Room) (n p : Nat) (x : Sub) : (R.setSub n p x).sub n p = x := by simp [Room.setSub]
theorem setSub_setSub (R : Room) (n p : Nat) (x y : Sub) : (R.setSub n p x).setSub n p y = R.setSub n p y := by
  unfold Room.setSub
  congr 1
  funext m q
  dsimp only
  split <;> rfl
theorem setSub_id (R : Room) (n p : Nat) : R.setSub n p (R.sub n p) = R := by
  unfold Room.setSub
  cases R with
  | mk a s u =>
    congr 1
    funext m q
    dsimp only
    split
    · rename_i h; rw [h.1, h.2]
    · rfl
theorem RoomAt.setSubCell {w : World} {b : Nat} {R : Room} (h : RoomAt w b R) {n p i : Nat} (hn : n < 9) (hp : p < 9) (hi : i < 3) {x : Sub} {v : Value} (hx : ∀ j, j < 3 → subCell x j = if j = i then v else subCell (R.sub n p) j) :
    RoomAt (w.setCell ⟨b, 54 + n * 27 + p * 3 + i, none⟩ v) b (R.setSub n p x) := by
  refine h.set (by omega) (fun j hj => ?_) h.rows
  by_cases h1 : j < 54
  · unfold roomCell
    rw [if_neg (by omega : ¬ j = 54 + n * 27 + p * 3 + i)]
    by_cases h2 : j < 9
    · rw [if_pos h2, if_pos h2]; rfl
    · rw [if_neg h2, if_neg h2, if_pos h1, if_pos h1]; rfl
  · unfold roomCell
    rw [if_neg (by omega : ¬ j < 9), if_neg h1, if_neg (by omega : ¬ j < 9), if_neg h1]
    by_cases h3 : (j - 54) / 27 = n ∧ (j - 54) % 27 / 3 = p
    · have e : (R.setSub n p x).sub ((j - 54) / 27) ((j - 54) % 27 / 3) = x := by simp [Room.setSub, h3]
      rw [e, h3.1, h3.2, hx _ (by omega)]
      have : ((j - 54) % 3 = i) ↔ (j = 54 + n * 27 + p * 3 + i) := by omega
      by_cases h4 : (j - 54) % 3 = i
      · rw [if_pos h4, if_pos (this.1 h4)]
      · rw [if_neg h4, if_neg (fun e => h4 (this.2 e))]
    · have e : (R.setSub n p x).sub ((j - 54) / 27) ((j - 54) % 27 / 3) = R.sub ((j - 54) / 27) ((j - 54) % 27 / 3) := by simp [Room.setSub, h3]
      rw [e, if_neg (by omega)]
theorem RoomAt.setSub {w : World} {b : Nat} {R : Room} (h : RoomAt w b R) {n p : Nat} (hn : n < 9) (hp : p < 9) (x : Sub) :
    RoomAt (((w.setCell ⟨b, 54 + n * 27 + p * 3, none⟩ (.bool x.there)).setCell ⟨b, 54 + n * 27 + p * 3 + 1, none⟩ (.bool x.paused)).setCell ⟨b, 54 + n * 27 + p * 3 + 2, none⟩ (.int .i64 x.want)) b (R.setSub n p x) := by
  have h1 := h.setSubCell hn hp (i := 0) (by omega) (x := { R.sub n p with there := x.there }) (v := .bool x.there) (by intro j hj; unfold subCell; by_cases h0 : j = 0 <;> simp [h0])
  have h2 := h1.setSubCell hn hp (i := 1) (by omega) (x := { R.sub n p with there := x.there, paused := x.paused }) (v := .bool x.paused) (by
    intro j hj; rw [sub_setSub]; unfold subCell; by_cases h0 : j = 0 <;> by_cases h1 : j = 1 <;> simp [h0, h1])
  have h3 := h2.setSubCell hn hp (i := 2) (by omega) (x := x) (v := .int .i64 x.want) (by
    intro j hj; rw [sub_setSub]; unfold subCell; by_cases h0 : j = 0 <;> by_cases h1 : j = 1 <;> simp [h0, h1]; omega)
  rw [setSub_setSub, setSub_setSub] at h3
  exact h3
theorem u32s_length (l : List Int) : (u32s l).length = l.length := List.length_map _
theorem u32s_one (l : List Int) : ∀ u ∈ u32s l, u.oneCell' = true := by
  intro u hu
  obtain ⟨x, _, rfl⟩ := List.mem_map.1 hu
  rfl
theorem u32_open {w : World} {v : Value} {l : List Int} (h : Row w 23 v l.length (u32s l)) (hl : 0 < l.length) : ∃ g off cap, v = .slice (some ⟨g, off, none⟩) l.length cap ∧ l.length ≤ cap ∧ cap ≤ maxLen ∧ g < w.heap.size ∧
    ∀ j, j < l.length → w.cell? ⟨g, off + j, none⟩ = some (.int .u32 (l.getD j 0)) := by
  obtain ⟨g, off, cap, h1, h2, h3, h4, h5⟩ := h.open (by rw [u32s_length]; exact hl)
  refine ⟨g, off, cap, h1, h2, h3, h4, fun j hj => ?_⟩
  rw [h5 j (by rw [u32s_length]; exact hj), List.getD_eq_getElem?_getD, List.getElem?_eq_getElem hj]
  simp [u32s, hj]
theorem u32_openR {w : World} {v : Value} {l : List Int} (h : RRow w v l.length (u32s l)) (hl : 0 < l.length) : ∃ g off cap, v = .slice (some ⟨g, off, none⟩) l.length cap ∧ l.length ≤ cap ∧ cap ≤ maxLen ∧ g < w.heap.size ∧
    ∀ j, j < l.length → w.cell? ⟨g, off + j, none⟩ = some (.int .u32 (l.getD j 0)) := by
  obtain ⟨g, off, cap, h1, h2, h3, h4, h5⟩ := h.open (by rw [u32s_length]; exact hl)
  refine ⟨g, off, cap, h1, h2, h3, h4, fun j hj => ?_⟩
  rw [h5 j (by rw [u32s_length]; exact hj), List.getD_eq_getElem?_getD, List.getElem?_eq_getElem hj]
  simp [u32s, hj]
theorem elemInt : Elem Tryd.prog 55 3 1 8 := ⟨Tryd.underlying55, ⟨.int .i64 0, by kernel_rfl, rfl⟩, by decide⟩
theorem elemU32 : Elem Tryd.prog 37 23 1 4 := ⟨Tryd.underlying37, ⟨.int .u32 0, by kernel_rfl, rfl⟩, by decide⟩
theorem elemTurn : Elem Tryd.prog 33 59 5 40 := ⟨Tryd.underlying33, ⟨.agg #[.int .i64 0, .int .i64 0, .int .i64 0, .int .i64 0, .int .u32 0], by kernel_rfl, rfl⟩, by decide⟩
/-- The cells of a turn. -/
def turnCells (t : Turn) : List Value := [.int .i64 t.kind, .int .i64 t.peer, .int .i64 t.source, .int .i64 t.layer, .int .u32 t.ssrc]
def turnAgg (t : Turn) : Value := .agg #[.int .i64 t.kind, .int .i64 t.peer, .int .i64 t.source, .int .i64 t.layer, .int .u32 t.ssrc]
abbrev TurnRow (w : World) (v : Value) (l : List Turn) : Prop := Row w 59 v l.length (l.flatMap turnCells)
def ints (l : List Nat) : List Value := l.map fun (n : Nat) => Value.int .i64 (n : Int)
/-- A row that was just made. -/
theorem row_new (w : World) (e : TypeId) (n : Nat) (xs : List Value) (hn : n ≤ maxLen) : Row (w.alloc (.cells xs.toArray e)) e (.slice (some ⟨w.heap.size, 0, none⟩) n n) n xs :=
  ⟨_, n, rfl, Nat.le_refl _, hn, (fun h => by cases h), Or.inr ⟨_, 0, xs.toArray, (0, 0), rfl, (by show (w.heap.push _)[w.heap.size]? = _; simp), fun j _ => by simp⟩⟩
theorem row_new' (w : World) (e : TypeId) (n m : Nat) (xs : List Value) (hn : n ≤ maxLen) (hm : m = w.heap.size) : Row (w.alloc (.cells xs.toArray e)) e (.slice (some ⟨m, 0, none⟩) n n) n xs := by
  subst hm; exact row_new w e n xs hn
end Go.Proofs.Rm
