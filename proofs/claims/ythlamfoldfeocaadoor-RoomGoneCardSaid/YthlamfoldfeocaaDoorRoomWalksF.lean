/- The walks of package room, each function once: turns (publish, resume, switch). -/
import Derived.Test.YthlamfoldfeocaaDoorRoomWalksE
import Derived.Test.YthlamfoldfeocaaDoorAppStep
import Derived.Deep.RegionHeld3
namespace Go.Proofs.Rm
open Go.RowKit Go.Proofs.Heap Go.Proofs.Mem
theorem cell_below {w w' : World} {a : Addr} {v : Value} (hb : Below w.heap.size w w') (h : w.cell? a = some v) : w'.cell? a = some v := (hb.cell (World.block_lt_of_cell? w _ h)).trans h
theorem cell_alloc {w : World} {a : Addr} {v : Value} (h : w.cell? a = some v) (o : Obj) : (w.alloc o).cell? a = some v := cell_below (below_alloc _ _) h
theorem cell_drew {w : World} {a : Addr} {v : Value} (h : w.cell? a = some v) : w.drew.cell? a = some v := h
theorem cell_alloc2 {w : World} {a : Addr} {v : Value} (h : w.drew.drew.cell? a = some v) (o : Obj) : (w.alloc o).drew.drew.cell? a = some v := cell_alloc (w := w) h o
theorem cell_alloc3 {w : World} {a : Addr} {v : Value} (h : w.drew.drew.drew.cell? a = some v) (o : Obj) : (w.alloc o).drew.drew.drew.cell? a = some v := cell_alloc (w := w) h o
theorem cell_grown {w w' : World} {row : Option Nat} {a : Addr} {v : Value} (hg : w.grownBy w' row) (h : w.cell? a = some v) (hne : ∀ k, row = some k → a.block < k) : w'.cell? a = some v :=
  (World.cell?_of_block (hg.block a.block (World.block_lt_of_cell? w _ h) (fun e => by have := hne _ e.symm; omega))).trans h
theorem cell_new2 {W : World} {m : Nat} (hm : W.heap.size = m) (A : Obj) (cs : Array Value) (e : TypeId) (j : Nat) : ((W.alloc A).alloc (.cells cs e)).cell? ⟨m + 1, j, none⟩ = cs[j]? := by
  subst hm
  have := (two_new W A (.cells cs e)).2
  simp only [World.cell?, this]
  rfl
theorem cell_new1 {W : World} {m : Nat} (hm : W.heap.size = m) (B : Obj) (cs : Array Value) (e : TypeId) (j : Nat) : ((W.alloc (.cells cs e)).alloc B).cell? ⟨m, j, none⟩ = cs[j]? := by
  subst hm
  have := (two_new W (.cells cs e) B).1
  simp only [World.cell?, this]
  rfl
/-- What a drawn region of turns keeps. -/
structure TX (b : Nat) (R1 : Room) (w w' : World) : Prop where
  room : RoomAt w' b R1
  fr : Fr w.heap.size (· = b) w w'
  size : w.heap.size + 1 < w'.heap.size
theorem TX.drew {b : Nat} {R1 : Room} {w w' : World} (h : TX b R1 w w') : TX b R1 w w'.drew := ⟨h.room.drew, h.fr.drew, h.size⟩
theorem TX.alloc {b : Nat} {R1 : Room} {w w' : World} (h : TX b R1 w w') (o : Obj) : TX b R1 w (w'.alloc o) := ⟨h.room.alloc o, h.fr.alloc (by have := h.size; omega) o, by have := h.size; simp; omega⟩
theorem TX.below {b : Nat} {R1 : Room} {w w1 w' : World} (h : TX b R1 w w1) (hb : Below w1.heap.size w1 w') : TX b R1 w w' :=
  ⟨h.room.below hb, h.fr.trans ((Fr.of_below _ hb).mono (by have := h.size; omega) (fun _ _ h => h)), by have := h.size; have := hb.size; omega⟩
theorem TX.alloc2 {b : Nat} {R1 : Room} {w w' : World} (h : TX b R1 w w'.drew.drew) (o : Obj) : TX b R1 w (w'.alloc o).drew.drew :=
  h.below ⟨rfl, rfl, rfl, by show w'.heap.size ≤ (w'.alloc o).heap.size; simp, fun k hk => Below.heap_alloc _ _ _ hk⟩
theorem TX.alloc3 {b : Nat} {R1 : Room} {w w' : World} (h : TX b R1 w w'.drew.drew.drew) (o : Obj) : TX b R1 w (w'.alloc o).drew.drew.drew :=
  h.below ⟨rfl, rfl, rfl, by show w'.heap.size ≤ (w'.alloc o).heap.size; simp, fun k hk => Below.heap_alloc _ _ _ hk⟩
theorem TX.grown {b : Nat} {R1 : Room} {w w1 w' : World} (h : TX b R1 w w1) (hb : b < w.heap.size) {base : Nat} {v : Value} {m : Nat} {ys : List Value} (ho : w1.ownsRow base 59 5 v m ys) (hg : w1.grownBy w' v.ownBlock) (hB : w.heap.size ≤ base) : TX b R1 w w' :=
  ⟨RoomAt.grown h.room ho hg (by omega) (by decide), h.fr.grown hg (by have := h.size; omega) (fun k hk => Nat.le_trans hB (own_le ho k hk)), by have := h.size; have := hg.size; omega⟩
theorem owns_newB (w : World) (e : TypeId) (size n m base : Nat) (xs : List Value) (hl : xs.length = n * size) (hn : n ≤ maxLen) (hm : m = w.heap.size) (hB : base ≤ m) : (w.alloc (.cells xs.toArray e)).ownsRow base e size (.slice (some ⟨m, 0, none⟩) n n) n xs := by
  subst hm
  exact ⟨hl, .inr ⟨w.heap.size, n, xs.toArray, rfl, hB, (by show (w.heap.push _)[w.heap.size]? = _; simp), Nat.le_refl _, hn, by simp [hl], by rw [List.take_of_length_le (by simp [hl])]⟩⟩
theorem TX.grownAll {b : Nat} {R1 : Room} {w w1 w' : World} (h : TX b R1 w w1) (hb : b < w.heap.size) {v : Value} {m : Nat} {ys : List Value} (ho : w1.ownsRow (w.heap.size + 2) 59 5 v m ys) (hg : Hid (w1.grownBy w' v.ownBlock)) :
    TX b R1 w w' ∧ ∀ a u, a.block ≤ w.heap.size + 1 → w1.cell? a = some u → w'.cell? a = some u :=
  ⟨h.grown hb ho hg.out (by omega), fun a u ha hu => cell_grown hg.out hu (fun k hk => by have := own_le ho k hk; omega)⟩
end Go.Proofs.Rm
