/- Several texts in one: Laws of the walk: an array loaded out of the middle of a block; an element of an array value; a row of cells of the call's own. Over any program. The room in memory: one block of 297 cells. The tables as plain data, and in memory. The walks of package room, each function once: what is only asked. The walks of package room, each function once: Of, Source, Sub, Subs. -/
import Derived.WalkKit
import Derived.Laws.Rows
import Derived.Laws.Cells
import Derived.Test.YthlamfoldfeocaaDoorChecked
import Derived.BigQuiet
import Derived.Deep.QuietTactic
import Derived.Laws.ResultCell
import Derived.WalkSpells
import Derived.Test.YthlamfoldfeocaaDoorP01
namespace Go.Proofs.Load
open Go
section
variable {P : Program}
theorem run_load_part (w : World) (g off : Nat) (ty : TypeId) (cs : Array Value) (d : TypeDesc) (hc : ∀ j, j < cs.size → w.cell? ⟨g, off + j, none⟩ = cs[j]?)
    (hu : P.underlying ty = some d) (hd : (match d with | .struct _ | .array _ _ => true | _ => false) = true) (hi : (P.info? ty).map (·.size) = some cs.size) :
    (loadVar ty ⟨g, off, none⟩).run P w = .ok (.agg cs) w := by
  have hl : (loadCells ⟨g, off, none⟩ cs.toList.length).run P w = .ok cs.toList.toArray w :=
    run_loadCells_list (P := P) w ⟨g, off, none⟩ cs.toList (fun j v hv => by
      have hj : j < cs.size := by
        have := (List.getElem?_eq_some_iff.1 hv).1
        simpa using this
      have hadd : (⟨g, off, none⟩ : Addr).add j = ⟨g, off + j, none⟩ := by unfold Addr.add; split <;> simp_all
      rw [hadd, hc j hj]
      simpa using hv)
  cases hq : P.info? ty with
  | none => simp [hq] at hi
  | some i =>
    have hs : i.size = cs.size := by simpa [hq] using hi
    have hagg : (isAgg ty).run P w = .ok true w := by
      unfold isAgg
      rw [Sem.run_bind, run_underlying hu w]
      cases d <;> simp_all
    simp only [Array.length_toList, Array.toArray_toList] at hl
    simp [loadVar, Sem.run_bind, hagg, sizeOf, typeInfo, hq, hs, hl]
theorem wp_load_part {o : Oper} {a : Act} {w : World} {K : Act → World → Prop} {Q : Exit → Act → World → Prop} (ty : TypeId) (x : Operand) (ho : o.op = .load ty x)
    (g off : Nat) (hx : a.eval x = .pointer (some ⟨g, off, none⟩)) (cs : Array Value) (d : TypeDesc) (hc : ∀ j, j < cs.size → w.cell? ⟨g, off + j, none⟩ = cs[j]?)
    (hu : P.underlying ty = some d) (hd : (match d with | .struct _ | .array _ _ => true | _ => false) = true) (hi : (P.info? ty).map (·.size) = some cs.size)
    (h : K (a.put o.dst (.agg cs)) w) : o.wp P a w K Q := by
  unfold Oper.wp execOp
  simp only [ho, hx, Instr.loadAt, Instr.sureAddr, Sem.run_bind, Sem.run_pure, Result.andThen_ok, run_load_part w g off ty cs d hc hu hd hi]
  exact h
/-- An array out of the middle of a block. -/
theorem wpList_load_part {ops : Array Oper} {rest : List Oper} {o : Oper} {a : Act} {w : World} {Q : Exit → Act → World → Prop} (hgd : o.guard = none) (ty : TypeId) (x : Operand) (ho : o.op = .load ty x)
    (g off : Nat) (hx : a.eval x = .pointer (some ⟨g, off, none⟩)) (cs : Array Value) (d : TypeDesc) (hc : ∀ j, j < cs.size → w.cell? ⟨g, off + j, none⟩ = cs[j]?)
    (hu : P.underlying ty = some d) (hd : (match d with | .struct _ | .array _ _ => true | _ => false) = true) (hi : (P.info? ty).map (·.size) = some cs.size)
    (h : wpList P ops Q rest (a.put o.dst (.agg cs)) w) : wpList P ops Q (o :: rest) a w :=
  wpList_plain hgd fun _ hK => wp_load_part ty x ho g off hx cs d hc hu hd hi (hK _ _ h)
/-- An element that is an aggregate, out of an array value. -/
theorem run_index_agg (w : World) (t e : TypeId) (n : Nat) (cs : Array Value) (i sz : Nat) (d : TypeDesc) (h : P.underlying t = some (.array n e)) (hi : i < n)
    (hu : P.underlying e = some d) (hd : (match d with | .struct _ | .array _ _ => true | _ => false) = true) (hs : (P.info? e).map (·.size) = some sz) (ys : Array Value) (hy : cs.extract (i * sz) (i * sz + sz) = ys) :
    (Instr.index t (.agg cs) (.int .i64 (i : Int))).run P w = .ok (.agg ys) w := by
  cases hq : P.info? e with
  | none => simp [hq] at hs
  | some q =>
    have hs' : q.size = sz := by simpa [hq] using hs
    have hagg : (isAgg e).run P w = .ok true w := by
      unfold isAgg
      rw [Sem.run_bind, run_underlying hu w]
      cases d <;> simp_all
    have hn : (i : Int) < n := by omega
    have h0 : (0 : Int) ≤ i := by omega
    simp [Instr.index, asIntOf, Sem.run_bind, run_underlying h w, h0, hi, part, hagg, sizeOf, typeInfo, hq, hs', hy]
/-- An element of one cell, out of an array value. -/
theorem run_index_cell (w : World) (t e : TypeId) (n : Nat) (cs : Array Value) (i : Nat) (d : TypeDesc) (h : P.underlying t = some (.array n e)) (hi : i < n)
    (hu : P.underlying e = some d) (hd : (match d with | .struct _ | .array _ _ => true | _ => false) = false) (hs : (P.info? e).map (·.size) = some 1) (y : Value) (hy : cs[i]? = some y) :
    (Instr.index t (.agg cs) (.int .i64 (i : Int))).run P w = .ok y w := by
  cases hq : P.info? e with
  | none => simp [hq] at hs
  | some q =>
    have hs' : q.size = 1 := by simpa [hq] using hs
    have hagg : (isAgg e).run P w = .ok false w := by
      unfold isAgg
      rw [Sem.run_bind, run_underlying hu w]
      cases d <;> simp_all
    have hn : (i : Int) < n := by omega
    have h0 : (0 : Int) ≤ i := by omega
    simp [Instr.index, asIntOf, Sem.run_bind, run_underlying h w, h0, hi, part, hagg, sizeOf, typeInfo, hq, hs', hy]
end
end Go.Proofs.Load
namespace Go.Proofs.Rm
open Go.RowKit Go.Proofs.Heap Go.Proofs.Mem
def srcCell (s : Src) (i : Nat) : Value :=
  if i = 0 then .bool s.there else if i = 1 then .int .i64 s.num else if i = 2 then .int .i64 s.own else if i = 3 then s.sv else .bool s.muted
def subCell (x : Sub) (i : Nat) : Value :=
  if i = 0 then .bool x.there else if i = 1 then .bool x.paused else .int .i64 x.want
def roomCell (R : Room) (j : Nat) : Value :=
  if j < 9 then .string (str (R.names j)) else if j < 54 then srcCell (R.src ((j - 9) / 5)) ((j - 9) % 5)
  else subCell (R.sub ((j - 54) / 27) ((j - 54) % 27 / 3)) ((j - 54) % 3)
def u32s (l : List Int) : List Value := l.map (Value.int .u32)
/-- Block b holds the room R. -/
structure RoomAt (w : World) (b : Nat) (R : Room) : Prop where
  cells : ∃ c, w.heap[b]? = some (.cells c 88) ∧ c.size = 297 ∧ ∀ j, j < 297 → c[j]? = some (roomCell R j)
  rows : ∀ n, n < 9 → Row w 23 (R.src n).sv (R.src n).ss.length (u32s (R.src n).ss)
theorem RoomAt.lt {w : World} {b : Nat} {R : Room} (h : RoomAt w b R) : b < w.heap.size := by
  obtain ⟨c, hc, _⟩ := h.cells
  rcases Nat.lt_or_ge b w.heap.size with h | h
  · exact h
  · rw [Array.getElem?_eq_none h] at hc; cases hc
theorem RoomAt.cell {w : World} {b : Nat} {R : Room} (h : RoomAt w b R) {j : Nat} (hj : j < 297) : w.cell? ⟨b, j, none⟩ = some (roomCell R j) := by
  obtain ⟨c, hc, _, hall⟩ := h.cells
  simp only [World.cell?, hc]
  exact hall j hj
theorem RoomAt.unfrozen {w : World} {b : Nat} {R : Room} (h : RoomAt w b R) (j : Nat) : w.frozen? ⟨b, j, none⟩ = false := by
  obtain ⟨c, hc, _, _⟩ := h.cells
  simp [World.frozen?, hc]
theorem RoomAt.fr {B : Nat} {S : Nat → Prop} {w w' : World} {b : Nat} {R : Room} (h : RoomAt w b R) (hf : Fr B S w w') (hB : w.heap.size ≤ B) (hb : ¬ S b) (hS : ∀ k c fr, S k → w.heap[k]? ≠ some (.cells c 23 fr)) : RoomAt w' b R := by
  have hlt := h.lt
  obtain ⟨c, hc, hs, hall⟩ := h.cells
  exact ⟨⟨c, by rw [hf.block b (by omega) hb]; exact hc, hs, hall⟩, fun n hn => (h.rows n hn).fr hf hB hS⟩
theorem RoomAt.below {w w' : World} {b : Nat} {R : Room} (h : RoomAt w b R) (hb : Below w.heap.size w w') : RoomAt w' b R :=
  h.fr (Fr.of_below NoB hb) (Nat.le_refl _) (fun x => x) (fun _ _ _ h => h.elim)
/-- Block b is no row of SSRCs. -/
theorem RoomAt.other {w : World} {b : Nat} {R : Room} (h : RoomAt w b R) : ∀ k c fr, k = b → w.heap[k]? ≠ some (.cells c 23 fr) := by
  intro k c fr hk e
  subst hk
  obtain ⟨c', hc, _, _⟩ := h.cells
  rw [hc] at e
  injection e with e
  injection e with _ e _
  exact absurd e (by decide)
theorem RoomAt.set {w : World} {b : Nat} {R R' : Room} (h : RoomAt w b R) {i : Nat} {v : Value} (hi : i < 297) (hv : ∀ j, j < 297 → roomCell R' j = if j = i then v else roomCell R j)
    (hr : ∀ n, n < 9 → Row w 23 (R'.src n).sv (R'.src n).ss.length (u32s (R'.src n).ss)) : RoomAt (w.setCell ⟨b, i, none⟩ v) b R' := by
  have ho := h.other
  obtain ⟨c, hc, hs, hall⟩ := h.cells
  refine ⟨⟨c.setIfInBounds i v, ?_, by rw [Array.size_setIfInBounds]; exact hs, fun j hj => ?_⟩, fun n hn => ?_⟩
  · simp [World.setCell, Array.getElem?_modify, hc]
  · rw [hv j hj, Array.getElem?_setIfInBounds]
    by_cases hij : i = j
    · subst hij
      rw [if_pos rfl, if_pos rfl, if_pos (by omega)]
    · rw [if_neg hij, if_neg (fun e => hij e.symm)]
      exact hall j hj
  · exact (hr n hn).fr ((Fr.refl w.heap.size (· = b) w).setCell (Or.inr rfl) v) (Nat.le_refl _) ho
theorem rc_sub (R : Room) {n p i : Nat} (hn : n < 9) (hp : p < 9) (hi : i < 3) : roomCell R (54 + n * 27 + p * 3 + i) = subCell (R.sub n p) i := by
  unfold roomCell
  rw [if_neg (by omega), if_neg (by omega), show (54 + n * 27 + p * 3 + i - 54) / 27 = n by omega, show (54 + n * 27 + p * 3 + i - 54) % 27 / 3 = p by omega, show (54 + n * 27 + p * 3 + i - 54) % 3 = i by omega]
theorem rc_src (R : Room) {n i : Nat} (hn : n < 9) (hi : i < 5) : roomCell R (9 + n * 5 + i) = srcCell (R.src n) i := by
  unfold roomCell
  rw [if_neg (by omega), if_pos (by omega), show (9 + n * 5 + i - 9) / 5 = n by omega, show (9 + n * 5 + i - 9) % 5 = i by omega]
theorem RoomAt.subc {w : World} {b : Nat} {R : Room} (h : RoomAt w b R) {n p : Nat} (hn : n < 9) (hp : p < 9) :
    w.cell? ⟨b, 54 + n * 27 + p * 3, none⟩ = some (.bool (R.sub n p).there) ∧ w.cell? ⟨b, 54 + n * 27 + p * 3 + 1, none⟩ = some (.bool (R.sub n p).paused) ∧ w.cell? ⟨b, 54 + n * 27 + p * 3 + 2, none⟩ = some (.int .i64 (R.sub n p).want) :=
  ⟨by rw [h.cell (by omega)]; exact congrArg some (rc_sub R (i := 0) hn hp (by omega)), by rw [h.cell (by omega), rc_sub R hn hp (by omega)]; rfl, by rw [h.cell (by omega), rc_sub R hn hp (by omega)]; rfl⟩
theorem RoomAt.srcc {w : World} {b : Nat} {R : Room} (h : RoomAt w b R) {n : Nat} (hn : n < 9) :
    w.cell? ⟨b, 9 + n * 5, none⟩ = some (.bool (R.src n).there) ∧ w.cell? ⟨b, 9 + n * 5 + 1, none⟩ = some (.int .i64 (R.src n).num) ∧ w.cell? ⟨b, 9 + n * 5 + 2, none⟩ = some (.int .i64 (R.src n).own) ∧ w.cell? ⟨b, 9 + n * 5 + 3, none⟩ = some (R.src n).sv ∧ w.cell? ⟨b, 9 + n * 5 + 4, none⟩ = some (.bool (R.src n).muted) :=
  ⟨by rw [h.cell (by omega)]; exact congrArg some (rc_src R (i := 0) hn (by omega)), by rw [h.cell (by omega), rc_src R hn (by omega)]; rfl, by rw [h.cell (by omega), rc_src R hn (by omega)]; rfl, by rw [h.cell (by omega), rc_src R hn (by omega)]; rfl, by rw [h.cell (by omega), rc_src R hn (by omega)]; rfl⟩
theorem RoomAt.namec {w : World} {b : Nat} {R : Room} (h : RoomAt w b R) {p : Nat} (hp : p < 9) : w.cell? ⟨b, p, none⟩ = some (.string (str (R.names p))) := by
  rw [h.cell (by omega)]; unfold roomCell; rw [if_pos hp]
theorem sub_setSub (R : Room) (n p : Nat) (x : Sub) : (R.setSub n p x).sub n p = x := by simp [Room.setSub]
theorem setSub_setSub (R : Room) (n p : Nat) (x y : Sub) : (R.setSub n p x).setSub n p y = R.setSub n p y := by
  unfold Room.setSub
  congr 1
  funext m q
  dsimp only
  split <;> rfl
theorem setSub_id (R : Room) (n p : Nat) : R.setSub n p (R.sub n p) = R := by
  unfold Room.setSub
  cases R with
  | mk a s u =>
    congr 1
    funext m q
    dsimp only
    split
    · rename_i h; rw [h.1, h.2]
    · rfl
theorem RoomAt.setSubCell {w : World} {b : Nat} {R : Room} (h : RoomAt w b R) {n p i : Nat} (hn : n < 9) (hp : p < 9) (hi : i < 3) {x : Sub} {v : Value} (hx : ∀ j, j < 3 → subCell x j = if j = i then v else subCell (R.sub n p) j) :
    RoomAt (w.setCell ⟨b, 54 + n * 27 + p * 3 + i, none⟩ v) b (R.setSub n p x) := by
  refine h.set (by omega) (fun j hj => ?_) h.rows
  by_cases h1 : j < 54
  · unfold roomCell
    rw [if_neg (by omega : ¬ j = 54 + n * 27 + p * 3 + i)]
    by_cases h2 : j < 9
    · rw [if_pos h2, if_pos h2]; rfl
    · rw [if_neg h2, if_neg h2, if_pos h1, if_pos h1]; rfl
  · unfold roomCell
    rw [if_neg (by omega : ¬ j < 9), if_neg h1, if_neg (by omega : ¬ j < 9), if_neg h1]
    by_cases h3 : (j - 54) / 27 = n ∧ (j - 54) % 27 / 3 = p
    · have e : (R.setSub n p x).sub ((j - 54) / 27) ((j - 54) % 27 / 3) = x := by simp [Room.setSub, h3]
      rw [e, h3.1, h3.2, hx _ (by omega)]
      have : ((j - 54) % 3 = i) ↔ (j = 54 + n * 27 + p * 3 + i) := by omega
      by_cases h4 : (j - 54) % 3 = i
      · rw [if_pos h4, if_pos (this.1 h4)]
      · rw [if_neg h4, if_neg (fun e => h4 (this.2 e))]
    · have e : (R.setSub n p x).sub ((j - 54) / 27) ((j - 54) % 27 / 3) = R.sub ((j - 54) / 27) ((j - 54) % 27 / 3) := by simp [Room.setSub, h3]
      rw [e, if_neg (by omega)]
theorem RoomAt.setSub {w : World} {b : Nat} {R : Room} (h : RoomAt w b R) {n p : Nat} (hn : n < 9) (hp : p < 9) (x : Sub) :
    RoomAt (((w.setCell ⟨b, 54 + n * 27 + p * 3, none⟩ (.bool x.there)).setCell ⟨b, 54 + n * 27 + p * 3 + 1, none⟩ (.bool x.paused)).setCell ⟨b, 54 + n * 27 + p * 3 + 2, none⟩ (.int .i64 x.want)) b (R.setSub n p x) := by
  have h1 := h.setSubCell hn hp (i := 0) (by omega) (x := { R.sub n p with there := x.there }) (v := .bool x.there) (by intro j hj; unfold subCell; by_cases h0 : j = 0 <;> simp [h0])
  have h2 := h1.setSubCell hn hp (i := 1) (by omega) (x := { R.sub n p with there := x.there, paused := x.paused }) (v := .bool x.paused) (by
    intro j hj; rw [sub_setSub]; unfold subCell; by_cases h0 : j = 0 <;> by_cases h1 : j = 1 <;> simp [h0, h1])
  have h3 := h2.setSubCell hn hp (i := 2) (by omega) (x := x) (v := .int .i64 x.want) (by
    intro j hj; rw [sub_setSub]; unfold subCell; by_cases h0 : j = 0 <;> by_cases h1 : j = 1 <;> simp [h0, h1]; omega)
  rw [setSub_setSub, setSub_setSub] at h3
  exact h3
theorem u32s_length (l : List Int) : (u32s l).length = l.length := List.length_map _
theorem u32s_one (l : List Int) : ∀ u ∈ u32s l, u.oneCell' = true := by
  intro u hu
  obtain ⟨x, _, rfl⟩ := List.mem_map.1 hu
  rfl
theorem u32_open {w : World} {v : Value} {l : List Int} (h : Row w 23 v l.length (u32s l)) (hl : 0 < l.length) : ∃ g off cap, v = .slice (some ⟨g, off, none⟩) l.length cap ∧ l.length ≤ cap ∧ cap ≤ maxLen ∧ g < w.heap.size ∧
    ∀ j, j < l.length → w.cell? ⟨g, off + j, none⟩ = some (.int .u32 (l.getD j 0)) := by
  obtain ⟨g, off, cap, h1, h2, h3, h4, h5⟩ := h.open (by rw [u32s_length]; exact hl)
  refine ⟨g, off, cap, h1, h2, h3, h4, fun j hj => ?_⟩
  rw [h5 j (by rw [u32s_length]; exact hj), List.getD_eq_getElem?_getD, List.getElem?_eq_getElem hj]
  simp [u32s, hj]
theorem u32_openR {w : World} {v : Value} {l : List Int} (h : RRow w v l.length (u32s l)) (hl : 0 < l.length) : ∃ g off cap, v = .slice (some ⟨g, off, none⟩) l.length cap ∧ l.length ≤ cap ∧ cap ≤ maxLen ∧ g < w.heap.size ∧
    ∀ j, j < l.length → w.cell? ⟨g, off + j, none⟩ = some (.int .u32 (l.getD j 0)) := by
  obtain ⟨g, off, cap, h1, h2, h3, h4, h5⟩ := h.open (by rw [u32s_length]; exact hl)
  refine ⟨g, off, cap, h1, h2, h3, h4, fun j hj => ?_⟩
  rw [h5 j (by rw [u32s_length]; exact hj), List.getD_eq_getElem?_getD, List.getElem?_eq_getElem hj]
  simp [u32s, hj]
theorem elemInt : Elem Tryd.prog 55 3 1 8 := ⟨Tryd.underlying55, ⟨.int .i64 0, by kernel_rfl, rfl⟩, by decide⟩
theorem elemU32 : Elem Tryd.prog 37 23 1 4 := ⟨Tryd.underlying37, ⟨.int .u32 0, by kernel_rfl, rfl⟩, by decide⟩
theorem elemTurn : Elem Tryd.prog 33 59 5 40 := ⟨Tryd.underlying33, ⟨.agg #[.int .i64 0, .int .i64 0, .int .i64 0, .int .i64 0, .int .u32 0], by kernel_rfl, rfl⟩, by decide⟩
/-- The cells of a turn. -/
def turnCells (t : Turn) : List Value := [.int .i64 t.kind, .int .i64 t.peer, .int .i64 t.source, .int .i64 t.layer, .int .u32 t.ssrc]
def turnAgg (t : Turn) : Value := .agg #[.int .i64 t.kind, .int .i64 t.peer, .int .i64 t.source, .int .i64 t.layer, .int .u32 t.ssrc]
abbrev TurnRow (w : World) (v : Value) (l : List Turn) : Prop := Row w 59 v l.length (l.flatMap turnCells)
def ints (l : List Nat) : List Value := l.map fun (n : Nat) => Value.int .i64 (n : Int)
/-- A row that was just made. -/
theorem row_new (w : World) (e : TypeId) (n : Nat) (xs : List Value) (hn : n ≤ maxLen) : Row (w.alloc (.cells xs.toArray e)) e (.slice (some ⟨w.heap.size, 0, none⟩) n n) n xs :=
  ⟨_, n, rfl, Nat.le_refl _, hn, (fun h => by cases h), Or.inr ⟨_, 0, xs.toArray, (0, 0), rfl, (by show (w.heap.push _)[w.heap.size]? = _; simp), fun j _ => by simp⟩⟩
theorem row_new' (w : World) (e : TypeId) (n m : Nat) (xs : List Value) (hn : n ≤ maxLen) (hm : m = w.heap.size) : Row (w.alloc (.cells xs.toArray e)) e (.slice (some ⟨m, 0, none⟩) n n) n xs := by
  subst hm; exact row_new w e n xs hn
end Go.Proofs.Rm
namespace Go.Proofs.Rm
open Go.RowKit Go.Proofs.Heap Go.Proofs.Mem
structure TPeer where
  num : Int
  name : List UInt8
deriving DecidableEq
structure TSrc where
  num : Int
  own : Int
  ss : List Int
  muted : Bool
deriving DecidableEq
structure TSub where
  peer : Int
  source : Int
  want : Int
  paused : Bool
deriving DecidableEq
structure Tab where
  peers : List TPeer
  srcs : List TSrc
  subs : List TSub
deriving DecidableEq
def peerCells (x : TPeer) : List Value := [.int .i64 x.num, .string (str x.name)]
def tsrcCells (x : TSrc × Value) : List Value := [.int .i64 x.1.num, .int .i64 x.1.own, x.2, .bool x.1.muted]
def tsubCells (x : TSub) : List Value := [.int .i64 x.peer, .int .i64 x.source, .int .i64 x.want, .bool x.paused]
/-- The slice values of three rows hold a table. -/
structure TabAt (w : World) (pv sv uv : Value) (T : Tab) : Prop where
  peers : Row w 66 pv T.peers.length (T.peers.flatMap peerCells)
  srcs : ∃ ms : List (TSrc × Value), ms.map Prod.fst = T.srcs ∧ Row w 44 sv ms.length (ms.flatMap tsrcCells) ∧ ∀ m ∈ ms, Row w 23 m.2 m.1.ss.length (u32s m.1.ss)
  subs : Row w 48 uv T.subs.length (T.subs.flatMap tsubCells)
theorem TabAt.fr {B : Nat} {S : Nat → Prop} {w w' : World} {pv sv uv : Value} {T : Tab} (h : TabAt w pv sv uv T) (hf : Fr B S w w') (hB : w.heap.size ≤ B)
    (h1 : ∀ k c fr, S k → w.heap[k]? ≠ some (.cells c 66 fr)) (h2 : ∀ k c fr, S k → w.heap[k]? ≠ some (.cells c 44 fr)) (h3 : ∀ k c fr, S k → w.heap[k]? ≠ some (.cells c 48 fr)) (h4 : ∀ k c fr, S k → w.heap[k]? ≠ some (.cells c 23 fr)) : TabAt w' pv sv uv T := by
  obtain ⟨a, ⟨ms, b1, b2, b3⟩, c⟩ := h
  exact ⟨a.fr hf hB h1, ⟨ms, b1, b2.fr hf hB h2, fun m hm => (b3 m hm).fr hf hB h4⟩, c.fr hf hB h3⟩
theorem TabAt.below {w w' : World} {pv sv uv : Value} {T : Tab} (h : TabAt w pv sv uv T) (hb : Below w.heap.size w w') : TabAt w' pv sv uv T :=
  h.fr (Fr.of_below NoB hb) (Nat.le_refl _) (fun _ _ _ h => h.elim) (fun _ _ _ h => h.elim) (fun _ _ _ h => h.elim) (fun _ _ _ h => h.elim)
theorem elemPeer : Elem Tryd.prog 28 66 2 24 := ⟨Tryd.underlying28, ⟨.agg #[.int .i64 0, .string ⟨#[]⟩], by kernel_rfl, rfl⟩, by decide⟩
theorem elemSrc : Elem Tryd.prog 29 44 4 48 := ⟨Tryd.underlying29, ⟨.agg #[.int .i64 0, .int .i64 0, .slice none 0 0, .bool false], by kernel_rfl, rfl⟩, by decide⟩
theorem elemSub : Elem Tryd.prog 30 48 4 32 := ⟨Tryd.underlying30, ⟨.agg #[.int .i64 0, .int .i64 0, .int .i64 0, .bool false], by kernel_rfl, rfl⟩, by decide⟩
/-- What the room's tables are, up to so many numbers. -/
def tPeers (R : Room) (k : Nat) : List TPeer := ((List.range k).filter fun p : Nat => joined R p).map fun (p : Nat) => ⟨p, R.names p⟩
def hasSrc (R : Room) (n : Nat) : Bool := inn n 9 && (R.src n).there
def tSrcs (R : Room) (k : Nat) : List TSrc := ((List.range k).filter (hasSrc R)).map fun n => ⟨(R.src n).num, (R.src n).own, (R.src n).ss, (R.src n).muted⟩
def tSubs1 (R : Room) (n : Nat) (l : List Nat) : List TSub := l.map fun (p : Nat) => ⟨p, n, (R.sub n p).want, (R.sub n p).paused⟩
def tSubs (R : Room) (k : Nat) : List TSub := (List.range k).flatMap fun n => tSubs1 R n (subs R n)
def table (R : Room) : Tab := ⟨tPeers R 9, tSrcs R 9, tSubs R 9⟩
theorem tPeers_succ (R : Room) (k : Nat) : tPeers R (k + 1) = tPeers R k ++ if joined R k then [⟨k, R.names k⟩] else [] := by
  unfold tPeers
  rw [List.range_succ, List.filter_append, List.map_append]
  congr 1
  cases h : joined R k <;> simp [h]
theorem tSrcs_succ (R : Room) (k : Nat) : tSrcs R (k + 1) = tSrcs R k ++ if hasSrc R k then [⟨(R.src k).num, (R.src k).own, (R.src k).ss, (R.src k).muted⟩] else [] := by
  unfold tSrcs
  rw [List.range_succ, List.filter_append, List.map_append]
  congr 1
  cases h : hasSrc R k <;> simp [h]
theorem tSubs_succ (R : Room) (k : Nat) : tSubs R (k + 1) = tSubs R k ++ tSubs1 R k (subs R k) := by
  unfold tSubs
  rw [List.range_succ, List.flatMap_append]
  simp
theorem tPeers_len (R : Room) (k : Nat) : (tPeers R k).length ≤ k := by
  unfold tPeers
  rw [List.length_map]
  have := List.length_filter_le (fun p : Nat => joined R p) (List.range k)
  rw [List.length_range] at this
  exact this
theorem tSrcs_len (R : Room) (k : Nat) : (tSrcs R k).length ≤ k := by
  unfold tSrcs
  rw [List.length_map]
  have := List.length_filter_le (hasSrc R) (List.range k)
  rw [List.length_range] at this
  exact this
/-- What a walk that fills a table keeps: the table's own block, and the result's. -/
structure TB (w w' : World) (pv sv uv : Value) : Prop where
  bel : Below w.heap.size w w'
  blk : w'.heap[w.heap.size + 1]? = some (.cells #[pv, sv, uv] 61)
  blk0 : w'.heap[w.heap.size]? = some (.cells #[.slice none 0 0, .slice none 0 0, .slice none 0 0] 61)
theorem TB.size {w w' : World} {pv sv uv : Value} (h : TB w w' pv sv uv) : w.heap.size + 1 < w'.heap.size := by
  rcases Nat.lt_or_ge (w.heap.size + 1) w'.heap.size with h1 | h1
  · exact h1
  · have := h.blk
    rw [Array.getElem?_eq_none h1] at this; cases this
theorem TB.below {w w1 w' : World} {pv sv uv : Value} (h : TB w w1 pv sv uv) (hb : Below w1.heap.size w1 w') : TB w w' pv sv uv := by
  have hs := h.size
  exact ⟨h.bel.trans (hb.mono (by omega)), by rw [hb.block _ hs]; exact h.blk, by rw [hb.block _ (by omega)]; exact h.blk0⟩
theorem TB.grown {w w1 w' : World} {pv sv uv : Value} (h : TB w w1 pv sv uv) {e : TypeId} {size : Nat} {v : Value} {m : Nat} {ys : List Value} (ho : w1.ownsRow (w.heap.size + 2) e size v m ys) (hg : w1.grownBy w' v.ownBlock) : TB w w' pv sv uv := by
  have hs := h.size
  have hle := fun k (hk : v.ownBlock = some k) => (show w.heap.size + 2 ≤ k from by
    obtain ⟨_, ho⟩ := ho
    rcases ho with ⟨rfl, _⟩ | ⟨g, cap, cur, rfl, hg, _⟩
    · cases hk
    · have hk : some g = some k := hk
      cases hk; exact hg)
  refine ⟨h.bel.trans ⟨hg.os, hg.tape, hg.output, hg.size, fun k hk => hg.block k (by omega) (fun e => by have := hle k e.symm; omega)⟩, ?_, ?_⟩
  · rw [hg.block _ hs (fun e => by have := hle _ e.symm; omega)]; exact h.blk
  · rw [hg.block _ (by omega) (fun e => by have := hle _ e.symm; omega)]; exact h.blk0
theorem TB.cells {w w' : World} {pv sv uv : Value} (h : TB w w' pv sv uv) : w'.cell? ⟨w.heap.size + 1, 0, none⟩ = some pv ∧ w'.cell? ⟨w.heap.size + 1, 1, none⟩ = some sv ∧ w'.cell? ⟨w.heap.size + 1, 2, none⟩ = some uv := by
  have := h.blk
  refine ⟨?_, ?_, ?_⟩ <;> (simp only [World.cell?, this]; rfl)
theorem TB.frozen {w w' : World} {pv sv uv : Value} (h : TB w w' pv sv uv) (j : Nat) : w'.frozen? ⟨w.heap.size + 1, j, none⟩ = false := by
  have := h.blk
  simp [World.frozen?, this]
theorem TB.set {w w1 : World} {pv sv uv : Value} (h : TB w w1 pv sv uv) (j : Nat) (v : Value) : TB w (w1.setCell ⟨w.heap.size + 1, j, none⟩ v) (if j = 0 then v else pv) (if j = 1 then v else sv) (if j = 2 then v else uv) := by
  refine ⟨h.bel.setCell (by simp) _, ?_, ?_⟩
  · have := h.blk
    simp only [World.setCell, Array.getElem?_modify, this]
    simp
    by_cases h0 : j = 0
    · subst h0; rfl
    by_cases h1 : j = 1
    · subst h1; rfl
    by_cases h2 : j = 2
    · subst h2; rfl
    rw [if_neg h0, if_neg h1, if_neg h2, List.set_eq_of_length_le (by simp; omega)]
  · have := h.blk0
    simp only [World.setCell, Array.getElem?_modify, this]
    simp
end Go.Proofs.Rm
namespace Go.Proofs.Rm
open Go.RowKit Go.Proofs.Heap Go.Proofs.Mem
theorem ret_str {a b : ByteArray} (h : a = b) : Ending.returned (.string a) = .returned (.string b) := by rw [h]
theorem ret_bool {a b : Bool} (h : a = b) : Ending.returned (.bool a) = .returned (.bool b) := by rw [h]
theorem ret_int {k : IntKind} {a b : Int} (h : a = b) : Ending.returned (.int k a) = .returned (.int k b) := by rw [h]
theorem inn_iff (n k : Int) : inn n k = true ↔ 1 ≤ n ∧ n < k := by unfold inn; simp
theorem in_any (n k : Int) (w : World) : Calls Tryd.prog 44 #[.int .i64 n, .int .i64 k] w fun e w' => e = .returned (.bool (inn n k)) ∧ w = w' := by
  have hi := inn_iff n k
  by_cases h : 1 ≤ n
  · have HF : Hid (inn n k = decide (n < k)) := by show _ = _; unfold inn; simp [h]
    clear hi
    go_enter Tryd.func44, Tryd.ntmps44
    go_wp2
    go_ret
    exact ⟨ret_bool HF.out.symm, rfl⟩
  · have HF : Hid (inn n k = false) := by show _ = _; rw [Bool.eq_false_iff, ne_eq, hi]; omega
    clear hi
    go_enter Tryd.func44, Tryd.ntmps44
    go_wp2
    go_ret
    exact ⟨ret_bool HF.out.symm, rfl⟩
theorem str_ne (l : List UInt8) : (str l).toList = [] ↔ l = [] := by
  rw [toList_nil_iff_emptyBytes]
  constructor
  · intro h
    have := congrArg (fun b : ByteArray => b.data.toList) h
    simpa [str] using this
  · intro h; subst h; rfl
theorem str_emp (l : List UInt8) : (str l).toList.isEmpty = l.isEmpty := by
  rw [Bool.eq_iff_iff, List.isEmpty_iff, List.isEmpty_iff, str_ne]
set_option maxHeartbeats 400000 in
theorem Joined_any (b : Nat) (R : Room) (p : Int) (w : World) (hR : RoomAt w b R) : Calls Tryd.prog 20 #[.pointer (some ⟨b, 0, none⟩), .int .i64 p] w fun e w' => e = .returned (.bool (joined R p)) ∧ w = w' := by
  have C := Lib.hid (fun w => in_any p 9 w)
  by_cases hi : inn p 9 = true
  · rw [hi] at C
    obtain ⟨h1, h2⟩ := (inn_iff p 9).1 hi
    obtain ⟨n, rfl⟩ := Int.eq_ofNat_of_zero_le (show 0 ≤ p by omega)
    have hn : n < 9 := by omega
    have hc := hR.namec hn
    have HF : Hid (joined R n = !(str (R.names n)).toList.isEmpty) := by show _ = _; unfold joined; rw [hi, Int.toNat_natCast, str_emp, Bool.true_and]
    clear hi hR
    go_enter Tryd.func20, Tryd.ntmps20
    go_wp2_with (go_at_call 44; refine (C.out _).mono ?_; rintro e w' ⟨rfl, rfl⟩)
    all_goals go_ret
    all_goals exact ⟨ret_bool (by rw [HF.out]), rfl⟩
  · have hi : inn p 9 = false := by simpa using hi
    have HF : Hid (joined R p = false) := by show _ = _; unfold joined; rw [hi]; rfl
    rw [hi] at C
    clear hi
    go_enter Tryd.func20, Tryd.ntmps20
    go_wp2_with (go_at_call 44; refine (C.out _).mono ?_; rintro e w' ⟨rfl, rfl⟩)
    go_ret
    exact ⟨ret_bool HF.out.symm, rfl⟩
set_option maxHeartbeats 400000 in
theorem end_any (b : Nat) (R : Room) (p n : Nat) (w : World) (hR : RoomAt w b R) (hn : n < 9) (hp : p < 9) :
    Calls Tryd.prog 57 #[.pointer (some ⟨b, 0, none⟩), .int .i64 p, .int .i64 n] w fun e w' => e = .returned (.agg #[.int .i64 2, .int .i64 p, .int .i64 n, .int .i64 0, .int .u32 0]) ∧ RoomAt w' b (R.setSub n p noSub) ∧ Fr w.heap.size (· = b) w w' := by
  obtain ⟨c0, c1, c2⟩ := hR.subc hn hp
  have f0 := hR.unfrozen (54 + n * 27 + p * 3)
  have f1 := hR.unfrozen (54 + n * 27 + p * 3 + 1)
  have f2 := hR.unfrozen (54 + n * 27 + p * 3 + 2)
  have hb := hR.lt
  go_enter Tryd.func57, Tryd.ntmps57
  go_wp2
  refine bodyPost_ret (v := .agg #[.int .i64 2, .int .i64 p, .int .i64 n, .int .i64 0, .int .u32 0]) (by simp [results, Tryd.results57, go_sem]) rfl ⟨rfl, ?_, ?_⟩
  · exact (hR.setSub hn hp noSub).below (below_alloc _ _)
  · exact ((((Fr.refl _ _ _).setAt _ _).setAt _ _).setAt _ _).alloc (by simp only [size_setCell]; exact Nat.le_refl _) _
set_option maxHeartbeats 400000 in
theorem asks_any (b : Nat) (R : Room) (p n : Nat) (w : World) (hR : RoomAt w b R) (hn : n < 9) (hp : p < 9) (hw : 0 ≤ (R.sub n p).want ∧ (R.sub n p).want < (R.src n).ss.length) :
    Calls Tryd.prog 75 #[.pointer (some ⟨b, 0, none⟩), .int .i64 p, .int .i64 n] w fun e w' => e = .returned (turnAgg (asks R p n)) ∧ Below w.heap.size w w' := by
  obtain ⟨c0, c1, c2⟩ := hR.subc hn hp
  obtain ⟨s0, s1, s2, s3, s4⟩ := hR.srcc hn
  obtain ⟨k, hk⟩ := Int.eq_ofNat_of_zero_le hw.1
  rw [hk] at hw c2
  have hkl : k < (R.src n).ss.length := by omega
  obtain ⟨g, off, cap, hsv, hlc, hcm, hg, hcells⟩ := u32_open (hR.rows n hn) (by omega)
  have hx := hcells k hkl
  have HA : Hid (asks R p n = ⟨9, (R.src n).own, n, 0, (R.src n).ss.getD k 0⟩) := by show _ = _; unfold asks; rw [hk]; rfl
  rw [hsv] at s3
  have hb := hR.lt
  have hlen := (hR.rows n hn).len
  clear hk hcells hsv hR
  generalize (R.src n).ss.getD k 0 = X at *
  generalize (R.src n).ss.length = L at *
  generalize (R.src n).own = O at *
  go_enter Tryd.func75, Tryd.ntmps75
  go_wp2
  go_region
  go_wp2
  refine bodyPost_ret (v := turnAgg ⟨9, O, n, 0, X⟩) (by simp [results, Tryd.results75, go_sem, turnAgg]) rfl ⟨by rw [HA.out], ?_⟩
  exact (((Below.refl _ _).alloc (Nat.le_refl _) _).alloc (by simp) _).drew
set_option maxHeartbeats 400000 in
theorem waits_any (b : Nat) (R : Room) (p n : Nat) (w : World) (hR : RoomAt w b R) (hn : n < 9) (hp : p < 9) (hw : 0 ≤ (R.sub n p).want ∧ (R.sub n p).want < (R.src n).ss.length) :
    Calls Tryd.prog 59 #[.pointer (some ⟨b, 0, none⟩), .int .i64 p, .int .i64 n] w fun e w' => (∃ v, e = .returned v ∧ TurnRow w' v (waits R p n)) ∧ Below w.heap.size w w' := by
  obtain ⟨c0, c1, c2⟩ := hR.subc hn hp
  obtain ⟨s0, s1, s2, s3, s4⟩ := hR.srcc hn
  have hb := hR.lt
  have ca := fun w hR => asks_any b R p n w hR hn hp hw
  unfold turnAgg at ca
  have CA := Lib.hid ca
  clear ca
  have HR := Lib.hid hR
  have HW : Hid (waits R p n = if (R.sub n p).paused || (R.src n).muted then [] else [asks R p n]) := rfl
  clear hR hw
  generalize asks R p n = A at *
  obtain ⟨a1, a2, a3, a4, a5⟩ := A
  dsimp only at CA
  cases hpa : (R.sub n p).paused
  · rw [hpa] at c1
    cases hmu : (R.src n).muted
    · rw [hmu] at s4
      have HF : Hid (waits R p n = [⟨a1, a2, a3, a4, a5⟩]) := by show _ = _; rw [HW.out, hpa, hmu]; rfl
      clear hpa hmu HW
      go_enter Tryd.func59, Tryd.ntmps59
      go_wp2_with (go_at_call 75; refine (CA.out _ HR.out).mono ?_; rintro e w1 ⟨rfl, hb1⟩)
      go_ret
      refine ⟨⟨_, rfl, ?_⟩, hb1.alloc (by simp [hb1.size]) _⟩
      rw [HF.out]
      exact row_new w1 _ 1 _ (by decide)
    · rw [hmu] at s4
      have HF : Hid (waits R p n = []) := by show _ = _; rw [HW.out, hpa, hmu]; rfl
      clear hpa hmu HW
      go_enter Tryd.func59, Tryd.ntmps59
      go_wp2
      go_ret
      exact ⟨⟨_, rfl, by rw [HF.out]; exact Row.nil _ _⟩, Below.refl _ _⟩
  · rw [hpa] at c1
    have HF : Hid (waits R p n = []) := by show _ = _; rw [HW.out, hpa]; rfl
    clear hpa HW
    go_enter Tryd.func59, Tryd.ntmps59
    go_wp2
    go_ret
    exact ⟨⟨_, rfl, by rw [HF.out]; exact Row.nil _ _⟩, Below.refl _ _⟩
theorem index_hit {l : List Int} {x : Int} {k : Nat} (hk : k < l.length) (h : l.getD k 0 = x) (hn : ∀ j, j < k → l.getD j 0 ≠ x) : index l x = k := by
  unfold index
  have : l.findIdx? (fun y => y == x) = some k := by
    rw [List.findIdx?_eq_some_iff_getElem]
    refine ⟨hk, ?_, fun j hj => ?_⟩
    · rw [List.getD_eq_getElem?_getD, List.getElem?_eq_getElem hk] at h
      simpa using h
    · have := hn j hj
      rw [List.getD_eq_getElem?_getD, List.getElem?_eq_getElem (by omega)] at this
      simpa using this
  rw [this]
theorem index_miss {l : List Int} {x : Int} (hn : ∀ j, j < l.length → l.getD j 0 ≠ x) : index l x = -1 := by
  unfold index
  have : l.findIdx? (fun y => y == x) = none := by
    rw [List.findIdx?_eq_none_iff]
    intro y hy
    obtain ⟨j, hj, rfl⟩ := List.getElem_of_mem hy
    have := hn j hj
    rw [List.getD_eq_getElem?_getD, List.getElem?_eq_getElem hj] at this
    simpa using this
  rw [this]
set_option maxHeartbeats 400000 in
theorem Index_any (v : Value) (l : List Int) (x : Int) (w : World) (hv : RRow w v l.length (u32s l)) :
    Calls Tryd.prog 43 #[v, .int .u32 x] w fun e w' => e = .returned (.int .i64 (index l x)) ∧ w = w' := by
  have hlen := hv.len
  by_cases h0 : 0 < l.length
  · obtain ⟨g, off, cap, rfl, hlc, hcm, hg, hcells⟩ := u32_openR hv h0
    have HC := Lib.hid hcells
    have HH := Lib.hid (fun k hk h hn => @index_hit l x k hk h hn)
    have HM := Lib.hid (@index_miss l x)
    clear hcells hv
    go_enter Tryd.func43, Tryd.ntmps43
    go_wp2
    go_loop [8] (fun i => ∃ k : Nat, k ≤ l.length ∧ i = .int .i64 k ∧ Hid (∀ j, j < k → l.getD j 0 ≠ x)) (fun i => l.length - (intOf i).toNat)
    case atStart => exact ⟨0, Nat.zero_le _, rfl, fun j hj => by omega⟩
    case round =>
      obtain ⟨k, hk, rfl, hno⟩ := hrel
      by_cases hkl : k < l.length
      · have hc := HC.out k hkl
        by_cases hx : l.getD k 0 = x
        · have HF := Lib.hid (HH.out k hkl hx hno.out)
          rw [hx] at hc
          clear hx
          go_wp2
          go_ret
          exact ⟨ret_int HF.out.symm, rfl⟩
        · have hbeq : (x == l.getD k 0) = false := by rw [beq_eq_false_iff_ne]; exact fun e => hx e.symm
          have HX := Lib.hid hx
          clear hx
          generalize hy : l.getD k 0 = y at *
          have HY := Lib.hid hy
          clear hy
          go_wp2
          go_round
          case rel => exact ⟨k + 1, by omega, by go_num, fun j hj => by by_cases hjk : j < k; exact hno.out j hjk; rw [show j = k by omega, HY.out]; exact HX.out⟩
          case measure => simp [intOf]; omega
      · have HF := Lib.hid (HM.out (fun j hj => hno.out j (by omega)))
        go_wp2
        go_ret
        exact ⟨ret_int HF.out.symm, rfl⟩
  · have : l = [] := List.eq_nil_of_length_eq_zero (by omega)
    subst this
    obtain ⟨a, cap, rfl, _⟩ := hv
    go_enter Tryd.func43, Tryd.ntmps43
    go_wp2
    go_loop [8] (fun i => i = .int .i64 0) (fun _ => 0)
    case atStart => rfl
    case round =>
      subst hrel
      go_wp2
      go_ret
      exact ⟨rfl, rfl⟩
end Go.Proofs.Rm
namespace Go.Proofs.Rm
open Go.RowKit Go.Proofs.Heap Go.Proofs.Mem
/-- The nine sources as one value. -/
def srcsArr (R : Room) : Array Value := ((List.range 45).map fun j => roomCell R (9 + j)).toArray
theorem srcsArr_size (R : Room) : (srcsArr R).size = 45 := by simp [srcsArr]
theorem srcsArr_at (R : Room) (j : Nat) (h : j < 45) : (srcsArr R)[j]? = some (roomCell R (9 + j)) := by simp [srcsArr, h]
theorem srcsArr_part (R : Room) (n : Nat) (h : n < 9) : (srcsArr R).extract (n * 5) (n * 5 + 5) = #[.bool (R.src n).there, .int .i64 (R.src n).num, .int .i64 (R.src n).own, (R.src n).sv, .bool (R.src n).muted] := by
  apply Array.ext'
  rw [Array.toList_extract]
  apply List.ext_getElem?
  intro i
  by_cases hi : i < 5
  · have : ((srcsArr R).toList.extract (n * 5) (n * 5 + 5))[i]? = (srcsArr R)[n * 5 + i]? := by
      rw [List.extract_eq_take_drop, List.getElem?_take_of_lt (by omega), List.getElem?_drop]; simp
    rw [this, srcsArr_at R _ (by omega), show 9 + (n * 5 + i) = 9 + n * 5 + i by omega, rc_src R h hi]
    have : i = 0 ∨ i = 1 ∨ i = 2 ∨ i = 3 ∨ i = 4 := by omega
    rcases this with rfl | rfl | rfl | rfl | rfl <;> rfl
  · rw [List.getElem?_eq_none (by rw [List.extract_eq_take_drop, List.length_take]; omega), List.getElem?_eq_none (by simp; omega)]
set_option maxHeartbeats 1000000 in
theorem Of_any (b : Nat) (R : Room) (x : Int) (w : World) (hR : RoomAt w b R) :
    Calls Tryd.prog 14 #[.pointer (some ⟨b, 0, none⟩), .int .u32 x] w fun e w' => e = .returned (.tuple #[.int .i64 (of R x).1, .int .i64 (of R x).2.1, .bool (of R x).2.2]) ∧ Below w.heap.size w w' := by
  have hcs : ∀ j, j < (srcsArr R).size → w.cell? ⟨b, 9 + j, none⟩ = (srcsArr R)[j]? := by
    intro j hj
    rw [srcsArr_size] at hj
    rw [hR.cell (by omega), srcsArr_at R j hj]
  have hinfo : (Tryd.prog.info? 82).map (·.size) = some (srcsArr R).size := by rw [srcsArr_size]; kernel_rfl
  have HP : Hid (∀ n : Nat, n < 9 → ∀ w, (Instr.index 82 (.agg (srcsArr R)) (.int .i64 (n : Int))).run Tryd.prog w = .ok (.agg #[.bool (R.src n).there, .int .i64 (R.src n).num, .int .i64 (R.src n).own, (R.src n).sv, .bool (R.src n).muted]) w) :=
    fun n hn w => Load.run_index_agg w 82 81 9 (srcsArr R) n 5 _ Tryd.underlying82 hn Tryd.underlying81 rfl (by kernel_rfl) _ (srcsArr_part R n hn)
  have HR := Lib.hid hR
  have hb := hR.lt
  have HO : Hid (of R x = ofGo R x 9 0) := rfl
  have HS : Hid (∀ k n : Nat, ofGo R x (k + 1) n = if (R.src n).there && decide (0 ≤ index (R.src n).ss x) then ((n : Int), index (R.src n).ss x, true) else ofGo R x k (n + 1)) := fun _ _ => rfl
  have HZ : Hid (∀ n : Nat, ofGo R x 0 n = (0, 0, false)) := fun _ => rfl
  clear hR
  generalize srcsArr R = CS at *
  go_enter Tryd.func14, Tryd.ntmps14
  go_wp2_with (refine Load.wpList_load_part rfl 82 (.tmp 14) rfl b 9 rfl CS (.array 9 81) hcs Tryd.underlying82 rfl hinfo ?_)
  clear hcs hinfo
  go_loopw [16] (fun i w' => ∃ k : Nat, k ≤ 9 ∧ i = .int .i64 k ∧ Below w.heap.size w w' ∧ Hid (of R x = ofGo R x (9 - k) k)) (fun i _ => 9 - (intOf i).toNat)
  case atStart => exact ⟨0, by omega, rfl, Below.refl _ _, HO.out⟩
  case round =>
    obtain ⟨k, hk, rfl, hbl, hof⟩ := hrel
    by_cases hk9 : k < 9
    · have hix := HP.out k hk9
      have hRr := HR.out.below hbl
      have CI := Lib.hid (fun (w1 : World) (h : Below wr.heap.size wr w1) => Index_any (R.src k).sv (R.src k).ss x w1 ((hRr.rows k hk9).below h).r)
      have HE := HS.out (8 - k) k
      rw [show 8 - k + 1 = 9 - k by omega] at HE
      have HE2 := Lib.hid HE
      obtain ⟨sa, scap, hsv, hx1⟩ := hRr.rows k hk9
      clear hx1
      rw [hsv] at hix CI
      clear HE hRr hsv
      generalize index (R.src k).ss x = q at *
      generalize (R.src k).ss.length = sl at *
      generalize (R.src k).num = nm at *
      generalize (R.src k).own = ow at *
      generalize (R.src k).muted = mt at *
      by_cases ht : (R.src k).there = true ∧ 0 ≤ q
      · have HF : Hid (of R x = ((k : Int), q, true)) := by
          show _ = _
          rw [hof.out, HE2.out, ht.1]; simp [ht.2]
        obtain ⟨ht1, ht2⟩ := ht
        rw [ht1] at hix
        clear ht1
        go_wp2_with (go_at_call 43; refine (CI.out _ (below_alloc _ _)).mono ?_; rintro e w1 ⟨rfl, rfl⟩)
        go_ret3
        exact ⟨by rw [HF.out]; rfl, hbl.trans ((below_alloc _ _).mono hbl.size)⟩
      · have HF : Hid (of R x = ofGo R x (9 - (k + 1)) (k + 1)) := by
          show _ = _
          rw [hof.out, HE2.out, if_neg (by simpa using ht), show 8 - k = 9 - (k + 1) by omega]
        cases hth : (R.src k).there
        · rw [hth] at hix
          clear ht hth
          go_wp2_with (go_at_call 43; refine (CI.out _ (below_alloc _ _)).mono ?_; rintro e w1 ⟨rfl, rfl⟩)
          go_roundw
          case rel => exact ⟨k + 1, by omega, by go_num, hbl.trans ((below_alloc _ _).mono hbl.size), HF.out⟩
          case measure => simp [intOf]; omega
        · have ht2 : q < 0 := by
            rw [hth] at ht; simp at ht; exact ht
          rw [hth] at hix
          clear ht hth
          go_wp2_with (go_at_call 43; refine (CI.out _ (below_alloc _ _)).mono ?_; rintro e w1 ⟨rfl, rfl⟩)
          go_roundw
          case rel => exact ⟨k + 1, by omega, by go_num, hbl.trans ((below_alloc _ _).mono hbl.size), HF.out⟩
          case measure => simp [intOf]; omega
    · have HF : Hid (of R x = (0, 0, false)) := by
        show _ = _
        rw [hof.out, show 9 - k = 0 by omega, HZ.out]
      go_wp2
      go_ret3
      exact ⟨by rw [HF.out]; rfl, hbl⟩
set_option maxHeartbeats 1000000 in
theorem Clone_any (v : Value) (l : List Int) (w : World) (hv : RRow w v l.length (u32s l)) (hl : l.length ≤ 1000000) :
    Calls Tryd.prog 45 #[v] w fun e w' => (∃ v', e = .returned v' ∧ Row w' 23 v' l.length (u32s l)) ∧ Below w.heap.size w w' := by
  obtain ⟨a, cap, rfl, hx1, hx2, hx3, hx4⟩ := id hv
  have HV := Lib.hid hv
  have HN := Lib.hid hx3
  clear hv hx4 hx1 hx2 hx3
  cases a with
  | none =>
    obtain ⟨h1, h2⟩ := HN.out rfl
    have HL : Hid (l = []) := List.eq_nil_of_length_eq_zero h1
    have he := fun w => Lib.run_eql_slice_nil (P := Tryd.prog) w 37 23 none l.length cap 0 0 Tryd.underlying37
    clear h1 h2
    go_enter Tryd.func45, Tryd.ntmps45
    go_wp2
    go_ret
    exact ⟨⟨_, rfl, by rw [HL.out]; exact Row.nil _ _⟩, Below.refl _ _⟩
  | some a =>
    have he := fun w => Lib.run_eql_slice_nil (P := Tryd.prog) w 37 23 (some a) l.length cap 0 0 Tryd.underlying37
    clear HN
    go_enter Tryd.func45, Tryd.ntmps45
    go_wp2_with (at_builtin; refine wpList_appR rfl (.tmp 5) (.tmp 6) 37 rfl w.heap.size elemU32 _ 0 [] rfl (owns_empty w 23 1) _ l.length (u32s l) rfl (HV.out.below (below_alloc _ _)) (by rw [u32s_length]; omega) (u32s_one l) (by omega) (by omega) (by simp) (fun v' w1 HO HG => ?_))
    go_ret
    have hb := ((Fr.refl w.heap.size NoB w).alloc (Nat.le_refl _) (.cells #[] 23)).grown HG.out (by simp) (by
      intro k hk
      have hk : some w.heap.size = some k := hk
      cases hk
      exact Nat.le_refl _)
    refine ⟨⟨_, rfl, ?_⟩, hb.below⟩
    have := Row.of_owns HO.out
    rwa [Nat.zero_add, List.nil_append] at this
set_option maxHeartbeats 1000000 in
theorem Sub_any (b : Nat) (R : Room) (p n : Int) (w : World) (hR : RoomAt w b R) :
    Calls Tryd.prog 17 #[.pointer (some ⟨b, 0, none⟩), .int .i64 p, .int .i64 n] w fun e w' =>
      e = .returned (.tuple #[.agg (if hears R p n then #[.int .i64 p, .int .i64 n, .int .i64 (R.sub n.toNat p.toNat).want, .bool (R.sub n.toNat p.toNat).paused] else #[.int .i64 0, .int .i64 0, .int .i64 0, .bool false]), .bool (hears R p n)]) ∧ Below w.heap.size w w' := by
  have CP := Lib.hid (fun w => in_any p 9 w)
  have CN := Lib.hid (fun w => in_any n 9 w)
  have hb := hR.lt
  have HH : Hid (hears R p n = (inn p 9 && inn n 9 && (R.sub n.toNat p.toNat).there)) := rfl
  by_cases hp : inn p 9 = true
  · by_cases hn : inn n 9 = true
    · obtain ⟨h1, h2⟩ := (inn_iff p 9).1 hp
      obtain ⟨h3, h4⟩ := (inn_iff n 9).1 hn
      obtain ⟨p, rfl⟩ := Int.eq_ofNat_of_zero_le (show 0 ≤ p by omega)
      obtain ⟨n, rfl⟩ := Int.eq_ofNat_of_zero_le (show 0 ≤ n by omega)
      rw [Int.toNat_natCast, Int.toNat_natCast] at HH ⊢
      rw [hp] at CP HH
      rw [hn] at CN HH
      obtain ⟨c0, c1, c2⟩ := hR.subc (n := n) (p := p) (by omega) (by omega)
      clear hp hn hR
      cases ht : (R.sub n p).there
      · rw [ht] at c0
        have HF : Hid (hears R p n = false) := by show _ = _; rw [HH.out, ht]; rfl
        rw [HF.out]
        clear ht
        go_enter Tryd.func17, Tryd.ntmps17
        go_wp2_with fail
        refine (CP.out _).mono ?_
        rintro e w1 ⟨rfl, rfl⟩
        go_wp2_with fail
        refine (CN.out _).mono ?_
        rintro e w1 ⟨rfl, rfl⟩
        go_wp2_with fail
        refine bodyPost_ret (v := .tuple #[.agg #[.int .i64 0, .int .i64 0, .int .i64 0, .bool false], .bool false]) (by simp [results, Tryd.results17, go_sem]) rfl ⟨rfl, below_alloc _ _⟩
      · rw [ht] at c0
        have HF : Hid (hears R p n = true) := by show _ = _; rw [HH.out, ht]; rfl
        rw [HF.out]
        clear ht
        go_enter Tryd.func17, Tryd.ntmps17
        go_wp2_with fail
        refine (CP.out _).mono ?_
        rintro e w1 ⟨rfl, rfl⟩
        go_wp2_with fail
        refine (CN.out _).mono ?_
        rintro e w1 ⟨rfl, rfl⟩
        go_wp2_with fail
        refine bodyPost_ret (v := .tuple #[.agg #[.int .i64 p, .int .i64 n, .int .i64 (R.sub n p).want, .bool (R.sub n p).paused], .bool true]) (by simp [results, Tryd.results17, go_sem]) rfl ⟨rfl, ?_⟩
        repeat (first | exact Below.refl _ _ | refine Below.drew ?_ | refine Below.alloc ?_ (by simp) _)
    · have hn : inn n 9 = false := by simpa using hn
      have HF : Hid (hears R p n = false) := by show _ = _; rw [HH.out, hp, hn]; rfl
      rw [HF.out]
      rw [hp] at CP
      rw [hn] at CN
      clear hp hn hR
      go_enter Tryd.func17, Tryd.ntmps17
      go_wp2_with fail
      refine (CP.out _).mono ?_
      rintro e w1 ⟨rfl, rfl⟩
      go_wp2_with fail
      refine (CN.out _).mono ?_
      rintro e w1 ⟨rfl, rfl⟩
      go_wp2_with fail
      refine bodyPost_ret (v := .tuple #[.agg #[.int .i64 0, .int .i64 0, .int .i64 0, .bool false], .bool false]) (by simp [results, Tryd.results17, go_sem]) rfl ⟨rfl, below_alloc _ _⟩
  · have hp : inn p 9 = false := by simpa using hp
    have HF : Hid (hears R p n = false) := by show _ = _; rw [HH.out, hp]; rfl
    rw [HF.out]
    rw [hp] at CP
    clear hp hR
    go_enter Tryd.func17, Tryd.ntmps17
    go_wp2_with fail
    refine (CP.out _).mono ?_
    rintro e w1 ⟨rfl, rfl⟩
    go_wp2_with fail
    refine bodyPost_ret (v := .tuple #[.agg #[.int .i64 0, .int .i64 0, .int .i64 0, .bool false], .bool false]) (by simp [results, Tryd.results17, go_sem]) rfl ⟨rfl, below_alloc _ _⟩
set_option maxHeartbeats 1000000 in
theorem Source_no (b : Nat) (R : Room) (n : Int) (w : World) (hR : RoomAt w b R) (h : (inn n 9 && (R.src n.toNat).there) = false) :
    Calls Tryd.prog 16 #[.pointer (some ⟨b, 0, none⟩), .int .i64 n] w fun e w' =>
      e = .returned (.tuple #[.agg #[.int .i64 0, .int .i64 0, .slice none 0 0, .bool false], .bool false]) ∧ Below w.heap.size w w' := by
  have CN := Lib.hid (fun w => in_any n 9 w)
  have hb := hR.lt
  by_cases hn : inn n 9 = true
  · obtain ⟨h3, h4⟩ := (inn_iff n 9).1 hn
    obtain ⟨n, rfl⟩ := Int.eq_ofNat_of_zero_le (show 0 ≤ n by omega)
    rw [hn, Int.toNat_natCast, Bool.true_and] at h
    obtain ⟨s0, s1, s2, s3, s4⟩ := hR.srcc (n := n) (by omega)
    rw [h] at s0
    rw [hn] at CN
    clear hn h hR
    go_enter Tryd.func16, Tryd.ntmps16
    go_wp2_with fail
    refine (CN.out _).mono ?_
    rintro e w1 ⟨rfl, rfl⟩
    go_wp2_with fail
    refine bodyPost_ret (v := .tuple #[.agg #[.int .i64 0, .int .i64 0, .slice none 0 0, .bool false], .bool false]) (by simp [results, Tryd.results16, go_sem]) rfl ⟨rfl, below_alloc _ _⟩
  · have hn : inn n 9 = false := by simpa using hn
    rw [hn] at CN
    clear hn h hR
    go_enter Tryd.func16, Tryd.ntmps16
    go_wp2_with fail
    refine (CN.out _).mono ?_
    rintro e w1 ⟨rfl, rfl⟩
    go_wp2_with fail
    refine bodyPost_ret (v := .tuple #[.agg #[.int .i64 0, .int .i64 0, .slice none 0 0, .bool false], .bool false]) (by simp [results, Tryd.results16, go_sem]) rfl ⟨rfl, below_alloc _ _⟩
set_option maxHeartbeats 1000000 in
theorem Source_yes (b : Nat) (R : Room) (n : Nat) (w : World) (hR : RoomAt w b R) (hn : 1 ≤ n ∧ n < 9) (h : (R.src n).there = true) (hl : (R.src n).ss.length ≤ 1000000) :
    Calls Tryd.prog 16 #[.pointer (some ⟨b, 0, none⟩), .int .i64 n] w fun e w' =>
      (∃ v', e = .returned (.tuple #[.agg #[.int .i64 (R.src n).num, .int .i64 (R.src n).own, v', .bool (R.src n).muted], .bool true]) ∧ Row w' 23 v' (R.src n).ss.length (u32s (R.src n).ss)) ∧ Below w.heap.size w w' := by
  have CN := Lib.hid (fun w => in_any n 9 w)
  have hb := hR.lt
  have hi : inn n 9 = true := (inn_iff _ _).2 (by omega)
  obtain ⟨s0, s1, s2, s3, s4⟩ := hR.srcc hn.2
  rw [h] at s0
  rw [hi] at CN
  have HROW := Lib.hid (hR.rows n hn.2)
  obtain ⟨sa, scap, hsv, hx1⟩ := hR.rows n hn.2
  have CC := Lib.hid (fun w1 (hw : Below w.heap.size w w1) => Clone_any (R.src n).sv (R.src n).ss w1 ((hR.rows n hn.2).below hw).r hl)
  rw [hsv] at s3 CC
  clear hi h hR hx1 hsv
  generalize (R.src n).ss = ss at *
  generalize (R.src n).num = nm at *
  generalize (R.src n).own = ow at *
  generalize (R.src n).muted = mt at *
  go_enter Tryd.func16, Tryd.ntmps16
  go_wp2_with fail
  refine (CN.out _).mono ?_
  rintro e w1 ⟨rfl, rfl⟩
  go_wp2_with fail
  refine (CC.out _ (by repeat (first | exact Below.refl _ _ | refine Below.alloc ?_ (by simp) _))).mono ?_
  rintro e w1 ⟨⟨v', rfl, hrow⟩, hb1⟩
  have HROW2 := Lib.hid hrow
  obtain ⟨a', cap', rfl, hx1⟩ := hrow
  obtain ⟨hcl, hfz⟩ := bcell hb1
  have hz : w.heap.size + 1 < w1.heap.size := by have := hb1.size; simp at this; omega
  have HB := Lib.hid hb1
  have r0 := hcl w.heap.size 0 (by simp; omega)
  have r1 := hcl w.heap.size 1 (by simp; omega)
  have r2 := hcl w.heap.size 2 (by simp; omega)
  have r3 := hcl w.heap.size 3 (by simp; omega)
  simp at r0 r1 r2 r3
  clear hx1 hb1
  go_wp2_with fail
  refine bodyPost_ret (v := .tuple #[.agg #[.int .i64 nm, .int .i64 ow, .slice a' ss.length cap', .bool mt], .bool true]) (by simp [results, Tryd.results16, go_sem, r0, r1, r2, r3]) rfl ⟨⟨_, rfl, ?_⟩, ?_⟩
  · refine HROW2.out.fr (B := w1.heap.size) (S := fun k => w.heap.size ≤ k ∧ k < w.heap.size + 2) ?_ (Nat.le_refl _) ?_
    · repeat (refine Fr.setCell ?_ (Or.inr (by simp)) _)
      exact Fr.refl _ _ _
    · intro k c fr hk
      rw [HB.out.block k (by simp; omega)]
      obtain ⟨n1, n2⟩ := two_new w (.cells #[.int .i64 0, .int .i64 0, .slice none 0 0, .bool false] 44) (.cells #[.int .i64 nm, .int .i64 ow, .slice sa ss.length scap, .bool mt] 44)
      have : k = w.heap.size ∨ k = w.heap.size + 1 := by omega
      rcases this with rfl | rfl
      · rw [n1]; exact cells_ne (by decide)
      · rw [n2]; exact cells_ne (by decide)
  · repeat (refine Below.setCell ?_ (by simp) _)
    exact ((below_alloc _ _).trans ((below_alloc _ _).mono (by simp))).trans (HB.out.mono (by simp; omega))
end Go.Proofs.Rm
