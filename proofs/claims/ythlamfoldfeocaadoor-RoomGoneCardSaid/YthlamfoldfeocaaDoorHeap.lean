/- Frames and rows: which blocks a call may change; what a slice's cells are. Over any program. -/
import Derived.WalkKit
import Derived.Lib.Hide
import Derived.Laws.AppendOwn
import Derived.Laws.OwnMore
namespace Go.Proofs.Heap
open Go.RowKit
/-- Below block number B, but for the blocks of S, the world is as it was. -/
structure Fr (B : Nat) (S : Nat → Prop) (w w' : World) : Prop where
  os : w'.os = w.os
  tape : w'.tape = w.tape
  output : w'.output = w.output
  size : w.heap.size ≤ w'.heap.size
  block : ∀ k, k < B → ¬ S k → w'.heap[k]? = w.heap[k]?
def NoB : Nat → Prop := fun _ => False
theorem Fr.of_below {B : Nat} {w w' : World} (S : Nat → Prop) (h : Below B w w') : Fr B S w w' := ⟨h.os, h.tape, h.output, h.size, fun k hk _ => h.block k hk⟩
theorem Fr.below {B : Nat} {w w' : World} (h : Fr B NoB w w') : Below B w w' := ⟨h.os, h.tape, h.output, h.size, fun k hk => h.block k hk (fun x => x)⟩
theorem Fr.refl (B : Nat) (S : Nat → Prop) (w : World) : Fr B S w w := ⟨rfl, rfl, rfl, Nat.le_refl _, fun _ _ _ => rfl⟩
theorem Fr.trans {B : Nat} {S : Nat → Prop} {a b c : World} (h : Fr B S a b) (k : Fr B S b c) : Fr B S a c :=
  ⟨k.os.trans h.os, k.tape.trans h.tape, k.output.trans h.output, Nat.le_trans h.size k.size, fun i hi hs => (k.block i hi hs).trans (h.block i hi hs)⟩
theorem Fr.mono {B B' : Nat} {S S' : Nat → Prop} {w w' : World} (h : Fr B S w w') (hB : B' ≤ B) (hS : ∀ k, k < B' → S k → S' k) : Fr B' S' w w' :=
  ⟨h.os, h.tape, h.output, h.size, fun k hk hs => h.block k (Nat.lt_of_lt_of_le hk hB) (fun x => hs (hS k hk x))⟩
theorem Fr.drew {B : Nat} {S : Nat → Prop} {a w : World} (h : Fr B S a w) : Fr B S a w.drew := ⟨h.os, h.tape, h.output, h.size, h.block⟩
theorem Fr.alloc {B : Nat} {S : Nat → Prop} {a w : World} (h : Fr B S a w) (hB : B ≤ w.heap.size) (o : Obj) : Fr B S a (w.alloc o) :=
  h.trans ⟨rfl, rfl, rfl, by simp, fun k hk _ => Below.heap_alloc _ _ _ (by omega)⟩
theorem Fr.setCell {B : Nat} {S : Nat → Prop} {a w : World} (h : Fr B S a w) {p : Addr} (hp : B ≤ p.block ∨ S p.block) (u : Value) : Fr B S a (w.setCell p u) :=
  h.trans ⟨rfl, rfl, rfl, by simp [World.setCell], fun k hk hs => Below.heap_setCell _ _ _ _ (fun e => by subst e; rcases hp with h | h; omega; exact hs h)⟩
theorem Fr.grown {B : Nat} {S : Nat → Prop} {a w w' : World} {row : Option Nat} (h : Fr B S a w) (hg : w.grownBy w' row) (hB : B ≤ w.heap.size) (hr : ∀ k, row = some k → B ≤ k) : Fr B S a w' :=
  h.trans ⟨hg.os, hg.tape, hg.output, hg.size, fun k hk _ => hg.block k (by omega) (fun e => by have := hr k e.symm; omega)⟩
theorem Fr.cell {B : Nat} {S : Nat → Prop} {w w' : World} (h : Fr B S w w') {p : Addr} (hp : p.block < B) (hs : ¬ S p.block) : w'.cell? p = w.cell? p := World.cell?_of_block (w := w) (h.block p.block hp hs)
theorem Fr.frozen {B : Nat} {S : Nat → Prop} {w w' : World} (h : Fr B S w w') {p : Addr} (hp : p.block < B) (hs : ¬ S p.block) : w'.frozen? p = w.frozen? p := World.frozen?_of_block (w := w) (h.block p.block hp hs)
/-- The two rules that a walk uses behind a call. -/
theorem Fr.rules {W w1 : World} {S : Nat → Prop} (h : Fr W.heap.size S W w1) : (∀ b o, b < W.heap.size → ¬ S b → w1.cell? ⟨b, o, none⟩ = W.cell? ⟨b, o, none⟩) ∧ (∀ b o, b < W.heap.size → ¬ S b → w1.frozen? ⟨b, o, none⟩ = W.frozen? ⟨b, o, none⟩) :=
  ⟨fun b o h1 h2 => h.cell (p := ⟨b, o, none⟩) h1 h2, fun b o h1 h2 => h.frozen (p := ⟨b, o, none⟩) h1 h2⟩
theorem bcell {W w1 : World} (hb : Below W.heap.size W w1) : (∀ b o, b < W.heap.size → w1.cell? ⟨b, o, none⟩ = W.cell? ⟨b, o, none⟩) ∧ (∀ b o, b < W.heap.size → w1.frozen? ⟨b, o, none⟩ = W.frozen? ⟨b, o, none⟩) :=
  ⟨fun b o h => hb.cell (p := ⟨b, o, none⟩) h, fun b o h => hb.frozen (p := ⟨b, o, none⟩) h⟩
theorem Fr.setAt {B b : Nat} {a w : World} (h : Fr B (· = b) a w) (o : Nat) (u : Value) : Fr B (· = b) a (w.setCell ⟨b, o, none⟩ u) := h.setCell (p := ⟨b, o, none⟩) (Or.inr rfl) u
theorem below_alloc (w : World) (o : Obj) : Below w.heap.size w (w.alloc o) := (Below.refl _ _).alloc (Nat.le_refl _) _
theorem size_setCell (w : World) (a : Addr) (v : Value) : (w.setCell a v).heap.size = w.heap.size := by simp [World.setCell]
theorem size_alloc (w : World) (o : Obj) : (w.alloc o).heap.size = w.heap.size + 1 := by simp
/-- A slice value of n elements of type e, whose cells are xs. -/
def Row (w : World) (e : TypeId) (v : Value) (n : Nat) (xs : List Value) : Prop :=
  ∃ a cap, v = .slice a n cap ∧ n ≤ cap ∧ cap ≤ maxLen ∧ (a = none → n = 0 ∧ cap = 0) ∧ (xs = [] ∨ ∃ b off c fr, a = some ⟨b, off, none⟩ ∧ w.heap[b]? = some (.cells c e fr) ∧ ∀ j, j < xs.length → c[off + j]? = xs[j]?)
theorem Row.fr {B : Nat} {S : Nat → Prop} {w w' : World} {e : TypeId} {v : Value} {n : Nat} {xs : List Value} (h : Row w e v n xs) (hf : Fr B S w w') (hB : w.heap.size ≤ B) (hS : ∀ k c fr, S k → w.heap[k]? ≠ some (.cells c e fr)) : Row w' e v n xs := by
  obtain ⟨a, cap, hv, h1, h2, h0, h3⟩ := h
  refine ⟨a, cap, hv, h1, h2, h0, ?_⟩
  rcases h3 with h3 | ⟨b, off, c, fr, ha, hb, hc⟩
  · exact Or.inl h3
  · have hlt : b < w.heap.size := by
      rcases Nat.lt_or_ge b w.heap.size with h | h
      · exact h
      · rw [Array.getElem?_eq_none h] at hb; cases hb
    exact Or.inr ⟨b, off, c, fr, ha, by rw [hf.block b (by omega) (fun hs => hS b c fr hs hb)]; exact hb, hc⟩
theorem Row.below {w w' : World} {e : TypeId} {v : Value} {n : Nat} {xs : List Value} (h : Row w e v n xs) (hb : Below w.heap.size w w') : Row w' e v n xs :=
  h.fr (Fr.of_below NoB hb) (Nat.le_refl _) (fun _ _ _ h => h.elim)
theorem Row.setCell {w : World} {e : TypeId} {v : Value} {n : Nat} {xs : List Value} (h : Row w e v n xs) {p : Addr} {c : Array Value} {e2 : TypeId} {f : Nat × Nat} (hp : w.heap[p.block]? = some (.cells c e2 f)) (hne : e ≠ e2) (u : Value) : Row (w.setCell p u) e v n xs :=
  h.fr ((Fr.refl w.heap.size (· = p.block) w).setCell (Or.inr rfl) u) (Nat.le_refl _) (fun k c' fr hk he => by subst hk; rw [hp] at he; injection he with he; injection he with _ he _; exact hne he.symm)
theorem heap_new (w : World) (o : Obj) : (w.alloc o).heap[w.heap.size]? = some o := by show (w.heap.push o)[w.heap.size]? = _; simp
theorem two_new (w : World) (A B : Obj) : ((w.alloc A).alloc B).heap[w.heap.size]? = some A ∧ ((w.alloc A).alloc B).heap[w.heap.size + 1]? = some B := by
  constructor
  · rw [Below.heap_alloc _ _ _ (by simp)]; exact heap_new w A
  · have := heap_new (w.alloc A) B
    rwa [World.size_alloc] at this
theorem cells_ne {c c' : Array Value} {e e' : TypeId} {f f' : Nat × Nat} (h : e ≠ e') : some (Obj.cells c e f) ≠ some (Obj.cells c' e' f') := by
  intro he; injection he with he; injection he with _ he _; exact h he
theorem Row.nil (w : World) (e : TypeId) : Row w e (.slice none 0 0) 0 [] := ⟨none, 0, rfl, Nat.le_refl _, Nat.zero_le _, fun _ => ⟨rfl, rfl⟩, Or.inl rfl⟩
theorem Row.of_owns {w : World} {base : Nat} {e : TypeId} {size : Nat} {v : Value} {n : Nat} {xs : List Value} (h : w.ownsRow base e size v n xs) : Row w e v n xs := by
  obtain ⟨hl, h⟩ := h
  rcases h with ⟨hv, hn⟩ | ⟨g, cap, cur, hv, _, hh, h1, h2, h3, h4⟩
  · subst hn
    have : xs = [] := List.eq_nil_of_length_eq_zero (by omega)
    subst this
    exact ⟨none, 0, hv, Nat.le_refl _, Nat.zero_le _, fun _ => ⟨rfl, rfl⟩, Or.inl rfl⟩
  · refine ⟨some ⟨g, 0, none⟩, cap, hv, h1, h2, (fun h => by cases h), Or.inr ⟨g, 0, cur, _, rfl, hh, fun j hj => ?_⟩⟩
    rw [Nat.zero_add, ← h4, List.getElem?_take_of_lt (by omega)]
    simp
theorem owns_empty (w : World) (e : TypeId) (size : Nat) : (w.alloc (.cells #[] e)).ownsRow w.heap.size e size (.slice (some ⟨w.heap.size, 0, none⟩) 0 0) 0 [] :=
  ⟨by simp, .inr ⟨w.heap.size, 0, #[], rfl, Nat.le_refl _, (by show (w.heap.push _)[w.heap.size]? = _; simp), Nat.le_refl _, Nat.zero_le _, by simp, by simp⟩⟩
/-- What a walk reads: the address and the cells, where there is any. -/
theorem Row.open {w : World} {e : TypeId} {v : Value} {n : Nat} {xs : List Value} (h : Row w e v n xs) (hne : 0 < xs.length) : ∃ b off cap, v = .slice (some ⟨b, off, none⟩) n cap ∧ n ≤ cap ∧ cap ≤ maxLen ∧ b < w.heap.size ∧ ∀ j, j < xs.length → w.cell? ⟨b, off + j, none⟩ = xs[j]? := by
  obtain ⟨a, cap, hv, h1, h2, _, h3⟩ := h
  rcases h3 with h3 | ⟨b, off, c, fr, ha, hb, hc⟩
  · subst h3; simp at hne
  · subst ha
    have hlt : b < w.heap.size := by
      rcases Nat.lt_or_ge b w.heap.size with h | h
      · exact h
      · rw [Array.getElem?_eq_none h] at hb; cases hb
    refine ⟨b, off, cap, hv, h1, h2, hlt, fun j hj => ?_⟩
    simp only [World.cell?, hb]
    exact hc j hj
theorem Row.len {w : World} {e : TypeId} {v : Value} {n : Nat} {xs : List Value} (h : Row w e v n xs) : n ≤ 9223372036854775807 := by
  obtain ⟨a, cap, _, h1, h2, _, _⟩ := h
  unfold maxLen at h2; omega
/-- A slice value of n elements that reads as the cells xs, wherever they lie. -/
def RRow (w : World) (v : Value) (n : Nat) (xs : List Value) : Prop :=
  ∃ a cap, v = .slice a n cap ∧ n ≤ cap ∧ cap ≤ maxLen ∧ (a = none → n = 0 ∧ cap = 0) ∧ (xs = [] ∨ ∃ b off, a = some ⟨b, off, none⟩ ∧ b < w.heap.size ∧ ∀ j, j < xs.length → w.cell? ⟨b, off + j, none⟩ = xs[j]?)
theorem RRow.below {w w' : World} {v : Value} {n : Nat} {xs : List Value} (h : RRow w v n xs) (hb : Below w.heap.size w w') : RRow w' v n xs := by
  obtain ⟨a, cap, hv, h1, h2, h0, h3⟩ := h
  refine ⟨a, cap, hv, h1, h2, h0, ?_⟩
  rcases h3 with h3 | ⟨b, off, ha, hlt, hc⟩
  · exact Or.inl h3
  · exact Or.inr ⟨b, off, ha, Nat.lt_of_lt_of_le hlt hb.size, fun j hj => (hb.cell (p := ⟨b, off + j, none⟩) hlt).trans (hc j hj)⟩
theorem RRow.len {w : World} {v : Value} {n : Nat} {xs : List Value} (h : RRow w v n xs) : n ≤ 9223372036854775807 := by
  obtain ⟨a, cap, _, h1, h2, _, _⟩ := h
  unfold maxLen at h2; omega
theorem RRow.open {w : World} {v : Value} {n : Nat} {xs : List Value} (h : RRow w v n xs) (hne : 0 < xs.length) : ∃ b off cap, v = .slice (some ⟨b, off, none⟩) n cap ∧ n ≤ cap ∧ cap ≤ maxLen ∧ b < w.heap.size ∧ ∀ j, j < xs.length → w.cell? ⟨b, off + j, none⟩ = xs[j]? := by
  obtain ⟨a, cap, hv, h1, h2, _, h3⟩ := h
  rcases h3 with h3 | ⟨b, off, ha, hlt, hc⟩
  · subst h3; simp at hne
  · subst ha; exact ⟨b, off, cap, hv, h1, h2, hlt, hc⟩
theorem Row.r {w : World} {e : TypeId} {v : Value} {n : Nat} {xs : List Value} (h : Row w e v n xs) : RRow w v n xs := by
  obtain ⟨a, cap, hv, h1, h2, h0, h3⟩ := h
  refine ⟨a, cap, hv, h1, h2, h0, ?_⟩
  rcases h3 with h3 | ⟨b, off, c, fr, ha, hb, hc⟩
  · exact Or.inl h3
  · refine Or.inr ⟨b, off, ha, ?_, fun j hj => ?_⟩
    · rcases Nat.lt_or_ge b w.heap.size with h | h
      · exact h
      · rw [Array.getElem?_eq_none h] at hb; cases hb
    · simp only [World.cell?, hb]
      exact hc j hj
theorem RRow.nil (w : World) : RRow w (.slice none 0 0) 0 [] := ⟨none, 0, rfl, Nat.le_refl _, Nat.zero_le _, fun _ => ⟨rfl, rfl⟩, Or.inl rfl⟩
/-- Cells of a list of elements, all of one width. -/
theorem flat_at {α : Type} (f : α → List Value) (k : Nat) (hk : ∀ x, (f x).length = k) : ∀ (l : List α) (i j : Nat) (x : α), l[i]? = some x → j < k → (l.flatMap f)[i * k + j]? = (f x)[j]?
  | [], _, _, _, h, _ => by simp at h
  | y :: l, 0, j, x, h, hj => by
    simp only [List.getElem?_cons_zero, Option.some.injEq] at h
    subst h
    rw [List.flatMap_cons, Nat.zero_mul, Nat.zero_add, List.getElem?_append_left (by rw [hk]; exact hj)]
  | y :: l, i + 1, j, x, h, hj => by
    rw [List.getElem?_cons_succ] at h
    rw [List.flatMap_cons, List.getElem?_append_right (by rw [hk, Nat.succ_mul]; omega), hk, show (i + 1) * k + j - k = i * k + j by rw [Nat.succ_mul]; omega]
    exact flat_at f k hk l i j x h hj
theorem flat_length {α : Type} (f : α → List Value) (k : Nat) (hk : ∀ x, (f x).length = k) (l : List α) : (l.flatMap f).length = l.length * k := by
  induction l with
  | nil => simp
  | cons y l ih => rw [List.flatMap_cons, List.length_append, hk, ih, List.length_cons, Nat.succ_mul]; omega
end Go.Proofs.Heap
