/- The walk of the law RoomEnds, out of the contracts. -/
import Derived.Test.YthlamfoldfeocaaDoorP20
import Derived.Test.YthlamfoldfeocaaDoorP21
import Derived.Test.YthlamfoldfeocaaDoorP05
import Derived.Test.YthlamfoldfeocaaDoorEndsPlain
import Derived.Test.YthlamfoldfeocaaDoorMapSet
import Derived.Test.YthlamfoldfeocaaDoorP06
set_option linter.unusedSimpArgs false
namespace Go.Proofs.Rm
open Go.RowKit Go.Proofs.Heap Go.Proofs.Mem
open Go.Proofs.Lab (may key Tabs)
open Go.Proofs.Mp (BoolSet)
def kP (x : Int × Int) : Value := .agg #[.int .i64 x.1, .int .i64 x.2]
theorem kP_inj (a b : Int × Int) (h : kP a = kP b) : a = b := by
  unfold kP at h
  simp at h
  exact Prod.ext h.1 h.2
theorem arrP : WideMaps.ArrKey Tryd.prog 70 3 2 := ⟨Tryd.underlying70, by kernel_rfl, by kernel_rfl, by kernel_rfl⟩
theorem lawP : Maps.Keyed Tryd.prog 70 := Maps.Keyed.of_law arrP.law
theorem kP_key (x : Int × Int) (h : inn x.1 9 = true ∧ inn x.2 9 = true) : keyOf Tryd.prog 70 (kP x) = some (.string (keyBytes [.int .i64 x.1, .int .i64 x.2])) := by
  have h1 := (inn_iff' _ _).1 h.1
  have h2 := (inn_iff' _ _).1 h.2
  exact WideMaps.keyOf_pair arrP Tryd.underlying3 ⟨Tryd.prog.types.size - 1, by kernel_rfl⟩ (WalkArith.wf_i64 ⟨by omega, by omega⟩) (WalkArith.wf_i64 ⟨by omega, by omega⟩)
theorem zeroB2 (w : World) : (zeroValue 4).run Tryd.prog w = .ok (.bool false) w := by kernel_rfl
theorem elemOp : Elem Tryd.prog 22 40 7 96 := ⟨Tryd.underlying22, ⟨.agg #[.int .i64 0, .int .i64 0, .int .i64 0, .int .i64 0, .string ⟨#[]⟩, .slice none 0 0, .slice none 0 0], by kernel_rfl, rfl⟩, by decide⟩
theorem opv_one (x : OpV) : ∀ u ∈ opvCells x, u.oneCell' = true := by
  intro u hu
  simp only [opvCells, List.mem_cons, List.mem_nil_iff, or_false] at hu
  rcases hu with rfl | rfl | rfl | rfl | rfl | rfl | rfl <;> rfl
theorem opvs_one (l : List OpV) : ∀ u ∈ l.flatMap opvCells, u.oneCell' = true := by
  intro u hu
  obtain ⟨x, hx, hu⟩ := List.mem_flatMap.1 hu
  exact opv_one x u hu
theorem opvs_len (l : List OpV) : (l.flatMap opvCells).length = l.length * 7 := flat_length opvCells 7 (fun _ => rfl) l
theorem opvs_take (l : List OpV) (k : Nat) : (l.flatMap opvCells).take (k * 7) = (l.take k).flatMap opvCells := by
  induction l generalizing k with
  | nil => simp
  | cons x l ih =>
    cases k with
    | zero => simp
    | succ k =>
      rw [List.take_succ_cons, List.flatMap_cons, List.flatMap_cons, ← ih k, show (k + 1) * 7 = (opvCells x).length + k * 7 by show _ = 7 + k * 7; omega, List.take_length_add_append]
def leaveV (p : Int) : OpV := ⟨leaveOp p, none, 0, none, 0, 0⟩
/-- The farewells of the first peers. -/
def leaves (k : Nat) : List OpV := (List.range k).map fun (j : Nat) => leaveV ((j : Int) + 1)
theorem leaves_len (k : Nat) : (leaves k).length = k := by unfold leaves; simp
theorem leaves_succ (k : Nat) : leaves (k + 1) = leaves k ++ [leaveV ((k : Int) + 1)] := by unfold leaves; rw [List.range_succ, List.map_append]; rfl
theorem leaves_at (A : List OpV) (k : Nat) (hk : k < 8) (h : A.length + k < (A ++ leaves 8).length) : (A ++ leaves 8)[A.length + k] = leaveV ((k : Int) + 1) := by
  rw [List.getElem_append_right (by omega)]
  unfold leaves
  simp
/-- All that is kept of the room's world. -/
theorem set_at {w' : World} {m n n' : Nat} {S S' : Open} (h : BoolSet Tryd.prog 70 4 kP w' m n S) (hn : n ≤ n') (hs : S' = S) : BoolSet Tryd.prog 70 4 kP w' m n' S' := hs ▸ h.mono hn
theorem set_fr {w w' : World} {b m n : Nat} {S : Open} (h : BoolSet Tryd.prog 70 4 kP w m n S) (hf : Fr w.heap.size (· = b) w w') (hm : m ≠ b) : BoolSet Tryd.prog 70 4 kP w' m n S := h.block (hf.block m h.lt (fun e => hm e))
theorem set_bel {w w' : World} {m n : Nat} {S : Open} (h : BoolSet Tryd.prog 70 4 kP w m n S) (hb : Below w.heap.size w w') : BoolSet Tryd.prog 70 4 kP w' m n S := h.block (hb.block m h.lt)
theorem set_grown {w w' : World} {m n base : Nat} {S : Open} {v : Value} (h : BoolSet Tryd.prog 70 4 kP w m n S) (hg : w.grownBy w' v.ownBlock) (hv : ∀ k, v.ownBlock = some k → base ≤ k) (hm : m < base) : BoolSet Tryd.prog 70 4 kP w' m n S :=
  h.block (hg.block m h.lt (fun e => by have := hv m e.symm; omega))
theorem room_map {w w' : World} {b m : Nat} {R : Room} (h : RoomAt w b R) (hg : w.grownBy w' (some m)) (hm : ∃ es c, w.heap[m]? = some (.map es c)) : RoomAt w' b R := by
  obtain ⟨es, c, hm⟩ := hm
  refine h.fr (S := fun k => k = m) ⟨hg.os, hg.tape, hg.output, hg.size, fun k hk hs => hg.block k hk (fun e => hs (by cases e; rfl))⟩ (Nat.le_refl _) ?_ ?_
  · intro e
    subst e
    obtain ⟨c', hc, _⟩ := h.cells
    rw [hm] at hc
    cases hc
  · intro k c' fr e hk
    subst e
    rw [hm] at hk
    cases hk
theorem set_map {w : World} {m n : Nat} {S : Open} (h : BoolSet Tryd.prog 70 4 kP w m n S) : ∃ es c, w.heap[m]? = some (.map es c) := by
  obtain ⟨D, ⟨es, clock, h1, _⟩, _⟩ := h
  exact ⟨es, clock, h1⟩
theorem look2 {w : World} {ops : Array Oper} {rest : List Oper} {o : Oper} {a : Act} {Q : Exit → Act → World → Prop} (hg : o.guard = none) (m x : Operand) (hop : o.op = Op.lookup 69 m x false)
    (b n : Nat) (S : Open) (hm : a.eval m = .map (some b)) (hown : BoolSet Tryd.prog 70 4 kP w b n S) (y : Int × Int) (hx : a.eval x = kP y) (hkey : inn y.1 9 = true ∧ inn y.2 9 = true) (bv : Bool) (hb : S y = bv)
    (hK : wpList Tryd.prog ops Q rest (a.put o.dst (.bool bv)) w) : wpList Tryd.prog ops Q (o :: rest) a w := by
  subst hb
  exact Mp.wpList_look_set hg m x 69 hop lawP Tryd.underlying69 Tryd.underlying4 (zeroB2 _) b n S hm hown y _ hx (kP_key y hkey) hK
theorem put2 {w : World} {ops : Array Oper} {rest : List Oper} {o : Oper} {a : Act} {Q : Exit → Act → World → Prop} (hg : o.guard = none) (m x v : Operand) (hop : o.op = Op.mapUpdate 69 m x v)
    (b n : Nat) (S : Open) (hm : a.eval m = .map (some b)) (hown : BoolSet Tryd.prog 70 4 kP w b n S) (hn : n < maxLen) (y : Int × Int) (hx : a.eval x = kP y) (hv : a.eval v = .bool true) (hkey : inn y.1 9 = true ∧ inn y.2 9 = true)
    (hK : ∀ w', BoolSet Tryd.prog 70 4 kP w' b (n + 1) (fun x => decide (x = y) || S x) → w.grownBy w' (some b) → wpList Tryd.prog ops Q rest (a.put o.dst undef) w') : wpList Tryd.prog ops Q (o :: rest) a w :=
  Mp.wpList_put_set hg m x v 69 hop lawP kP_inj Tryd.underlying69 Tryd.underlying4 b n S hm hown hn y _ hx hv (kP_key y hkey) hK
theorem del2 {w : World} {ops : Array Oper} {rest : List Oper} {o : Oper} {a : Act} {Q : Exit → Act → World → Prop} (hg : o.guard = none) (m x : Operand) (hop : o.op = Op.call { callee := Callee.builtin Builtin.delete, args := #[m, x], argTypes := #[69, 70] })
    (b n : Nat) (S : Open) (hm : a.eval m = .map (some b)) (hown : BoolSet Tryd.prog 70 4 kP w b n S) (y : Int × Int) (hx : a.eval x = kP y) (hkey : inn y.1 9 = true ∧ inn y.2 9 = true)
    (hK : ∀ w', BoolSet Tryd.prog 70 4 kP w' b n (fun x => !decide (x = y) && S x) → w.grownBy w' (some b) → wpList Tryd.prog ops Q rest (a.put o.dst (.tuple #[])) w') : wpList Tryd.prog ops Q (o :: rest) a w :=
  Mp.wpList_del_set hg m x 69 hop lawP kP_inj Tryd.underlying69 b n S hm hown y _ hx (kP_key y hkey) hK
theorem len2 {w : World} {ops : Array Oper} {rest : List Oper} {o : Oper} {a : Act} {Q : Exit → Act → World → Prop} (hg : o.guard = none) (m : Operand) (hop : o.op = Op.call { callee := Callee.builtin Builtin.len, args := #[m], argTypes := #[69] })
    (b n : Nat) (hm : a.eval m = .map (some b)) (hown : BoolSet Tryd.prog 70 4 kP w b n fun _ => false)
    (hK : wpList Tryd.prog ops Q rest (a.put o.dst (.int .i64 0)) w) : wpList Tryd.prog ops Q (o :: rest) a w :=
  Mp.wpList_len0_set hg m 69 hop lawP Tryd.underlying69 b n _ hm hown (fun _ => rfl) hK
end Go.Proofs.Rm
