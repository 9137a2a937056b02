/- The walk of the law RoomSound, out of the contracts. -/
import Derived.Test.YthlamfoldfeocaaDoorP20
import Derived.Test.YthlamfoldfeocaaDoorP05
import Derived.Test.YthlamfoldfeocaaDoorSoundPlain
import Derived.Test.YthlamfoldfeocaaDoorMapSet
import Derived.Test.YthlamfoldfeocaaDoorP08
namespace Go.Proofs.Rm
open Go.RowKit Go.Proofs.Heap Go.Proofs.Mem
open Go.Proofs.Lab (may key Tabs)
open Go.Proofs.Mp (BoolSet)
/-- How a text, a number is a key. -/
def kS (l : List UInt8) : Value := .string (str l)
def kU (x : Int) : Value := .int .u32 x
theorem kS_inj (a b : List UInt8) (h : kS a = kS b) : a = b := by
  unfold kS at h
  injection h with h
  have := congrArg (fun s : ByteArray => s.data.toList) h
  exact this
theorem kU_inj (a b : Int) (h : kU a = kU b) : a = b := by unfold kU at h; injection h
theorem lawS : Maps.Keyed Tryd.prog 9 := Maps.string_keyed Tryd.underlying9
theorem lawU : Maps.Keyed Tryd.prog 23 := Maps.int_keyed Tryd.underlying23
theorem kS_key (l : List UInt8) (h : l.length ≤ maxLen) : keyOf Tryd.prog 9 (kS l) = some (.string l) := WideMaps.keyOf_string_mk Tryd.underlying9 (by rw [str_size]; exact h)
theorem kU_key (x : Int) (h0 : 0 ≤ x) (h1 : x < 4294967296) : keyOf Tryd.prog 23 (kU x) = some (.int .u32 x) := Maps.keyOf_int_mk Tryd.underlying23 (WalkArith.wf_u32 ⟨h0, by omega⟩)
theorem zeroB (w : World) : (zeroValue 4).run Tryd.prog w = .ok (.bool false) w := by kernel_rfl
/-- What lies below is kept, and the block of the table. -/
structure SK (w3 w' : World) (a b c : Value) : Prop where
  bel : Below w3.heap.size w3 w'
  blk : w'.heap[w3.heap.size]? = some (.cells #[a, b, c] 61)
theorem SK.lt {w3 w' : World} {a b c : Value} (h : SK w3 w' a b c) : w3.heap.size < w'.heap.size := by
  rcases Nat.lt_or_ge w3.heap.size w'.heap.size with h1 | h1
  · exact h1
  · have := h.blk
    rw [Array.getElem?_eq_none h1] at this; cases this
theorem SK.below {w3 w1 w' : World} {a b c : Value} (h : SK w3 w1 a b c) (hb : Below w1.heap.size w1 w') : SK w3 w' a b c :=
  ⟨h.bel.trans (hb.mono h.bel.size), by rw [hb.block _ h.lt]; exact h.blk⟩
theorem SK.grown {w3 w1 w' : World} {a b c : Value} {g : Nat} (h : SK w3 w1 a b c) (hg : w1.grownBy w' (some g)) (hlt : w3.heap.size < g) : SK w3 w' a b c :=
  ⟨h.bel.trans ⟨hg.os, hg.tape, hg.output, hg.size, fun k hk => hg.block k (Nat.lt_of_lt_of_le hk h.bel.size) (fun e => by cases e; omega)⟩, by rw [hg.block _ h.lt (fun e => by cases e; omega)]; exact h.blk⟩
theorem SK.cell {w3 w' : World} {a b c : Value} (h : SK w3 w' a b c) : w'.cell? ⟨w3.heap.size, 0, none⟩ = some a ∧ w'.cell? ⟨w3.heap.size, 1, none⟩ = some b ∧ w'.cell? ⟨w3.heap.size, 2, none⟩ = some c := by
  have := h.blk
  refine ⟨?_, ?_, ?_⟩ <;> (simp only [World.cell?, this]; rfl)
theorem SK.new (w3 : World) (a b c : Value) : SK w3 (w3.alloc (.cells #[a, b, c] 61)) a b c := ⟨below_alloc _ _, heap_new _ _⟩
theorem set_below {α : Type} {k e : TypeId} {κ : α → Value} {w w' : World} {b n : Nat} {S : α → Bool} (h : BoolSet Tryd.prog k e κ w b n S) (hb : Below w.heap.size w w') : BoolSet Tryd.prog k e κ w' b n S := h.block (hb.block _ h.lt)
theorem tpeer_at {w : World} {a : Option Addr} {c : Nat} {l : List TPeer} (h : Row w 66 (.slice a l.length c) l.length (l.flatMap peerCells)) (hl : 0 < l.length) : ∃ g off, a = some ⟨g, off, none⟩ ∧ ∀ (i : Nat) (x : TPeer), l[i]? = some x →
    w.cell? ⟨g, off + i * 2, none⟩ = some (.int .i64 x.num) ∧ w.cell? ⟨g, off + i * 2 + 1, none⟩ = some (.string (str x.name)) := by
  obtain ⟨g, off, cap, h1, _, _, _, h5⟩ := row_at peerCells 2 (fun _ => rfl) (by omega) h hl
  exact ⟨g, off, (slice_inj h1).1, fun i x hx => ⟨h5 i x hx 0 (by omega), h5 i x hx 1 (by omega)⟩⟩
/-- The keys of the first peers of a list. -/
def keysTo (P : List TPeer) (k : Nat) (s : List UInt8) : Bool := (P.take k).any fun p => decide (key p.name = s)
theorem keysTo_no {P : List TPeer} {k : Nat} {s : List UInt8} (h : ∀ y ∈ P.take k, key y.name ≠ s) : keysTo P k s = false := by
  unfold keysTo
  rw [List.any_eq_false]
  intro y hy
  rw [decide_eq_true_eq]
  exact h y hy
theorem keysTo_succ {P : List TPeer} {k : Nat} (hk : k < P.length) (s : List UInt8) : keysTo P (k + 1) s = (decide (s = key P[k].name) || keysTo P k s) := by
  unfold keysTo
  rw [List.take_succ_eq_append_getElem hk, List.any_append, Bool.or_comm]
  congr 1
  simp [eq_comm]
/-- The SSRCs of the first sources of a list, and of the next one's first. -/
def ssTo (L : List TSrc) (k j : Nat) (v : Int) : Bool := decide (v ∈ (L.take k).flatMap (·.ss) ++ (((L[k]?).map (·.ss)).getD []).take j)
theorem ssTo_zero (L : List TSrc) (v : Int) : ssTo L 0 0 v = false := by unfold ssTo; simp
theorem ssTo_at {L : List TSrc} {k : Nat} (hk : k < L.length) (j : Nat) (v : Int) : ssTo L k j v = decide (v ∈ (L.take k).flatMap (·.ss) ++ L[k].ss.take j) := by
  unfold ssTo
  rw [List.getElem?_eq_getElem hk]
  rfl
theorem ssTo_next {L : List TSrc} {k j : Nat} (hk : k < L.length) (hj : L[k].ss.length ≤ j) (v : Int) : ssTo L (k + 1) 0 v = ssTo L k j v := by
  rw [ssTo_at hk]
  unfold ssTo
  rw [List.take_zero, List.append_nil, List.take_succ_eq_append_getElem hk, List.flatMap_append, List.take_of_length_le hj]
  simp
theorem ssTo_succ {L : List TSrc} {k j : Nat} (hk : k < L.length) (hj : j < L[k].ss.length) (v : Int) : ssTo L k (j + 1) v = (decide (v = L[k].ss.getD j 0) || ssTo L k j v) := by
  rw [ssTo_at hk, ssTo_at hk, List.take_succ_eq_append_getElem hj, List.getD_eq_getElem?_getD, List.getElem?_eq_getElem hj]
  rw [Bool.eq_iff_iff]
  simp only [Bool.or_eq_true, decide_eq_true_eq, List.mem_append, List.mem_singleton, Option.getD_some]
  constructor
  · rintro (h | h | h)
    · exact Or.inr (Or.inl h)
    · exact Or.inr (Or.inr h)
    · exact Or.inl h
  · rintro (h | h | h)
    · exact Or.inr (Or.inr h)
    · exact Or.inl h
    · exact Or.inr (Or.inl h)
/-- What the law asks of a table. -/
structure Sound (R : Room) (T : Tab) : Prop where
  peers : ∀ (k : Nat) (hk : k < T.peers.length), key T.peers[k].name ≠ [] ∧ T.peers[k].name.length ≤ 32 ∧ keysTo T.peers k (key T.peers[k].name) = false
  plen : T.peers.length ≤ 9
  srcs : ∀ (k : Nat) (hk : k < T.srcs.length), joined R T.srcs[k].own = true ∧ 1 ≤ T.srcs[k].ss.length ∧ T.srcs[k].ss.length ≤ 3 ∧
    ∀ (j : Nat) (_ : j < T.srcs[k].ss.length), (2 ≤ T.srcs[k].ss.getD j 0 ∧ T.srcs[k].ss.getD j 0 < 3221225472) ∧ ssTo T.srcs k j (T.srcs[k].ss.getD j 0) = false
  slen : T.srcs.length ≤ 9
  subs : ∀ (k : Nat) (hk : k < T.subs.length), ∃ n : Nat, T.subs[k].source = n ∧ 1 ≤ n ∧ n < 9 ∧ (R.src n).there = true ∧ joined R T.subs[k].peer = true ∧ (R.src n).own ≠ T.subs[k].peer ∧ 0 ≤ T.subs[k].want ∧ T.subs[k].want < (R.src n).ss.length
theorem sound_table {R : Room} (hI : Inv R) : Sound R (table R) where
  peers k hk := by
    obtain ⟨h1, h2, h3⟩ := peers_sound hI k hk
    exact ⟨h1, h2, keysTo_no h3⟩
  plen := tPeers_len R 9
  srcs k hk := by
    obtain ⟨h1, h2, h3, h4⟩ := srcs_sound hI k hk
    refine ⟨h1, h2, h3, fun j hj => ?_⟩
    obtain ⟨h5, h6⟩ := h4 j hj
    refine ⟨h5, ?_⟩
    rw [ssTo_at hk]
    exact decide_eq_false h6
  slen := tSrcs_len R 9
  subs k hk := subs_sound hI (List.getElem_mem hk)
end Go.Proofs.Rm
