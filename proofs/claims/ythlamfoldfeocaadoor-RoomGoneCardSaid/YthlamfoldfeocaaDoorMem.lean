/- Small laws on memory: rows of bytes in a block, what a conversion reads of them. Over any program. -/
import Derived.WalkKit
import Derived.Lib.Hide
import Derived.Lib.ConvBytes
import Derived.Laws.BytesString
import Derived.Lib.IndexBytes
namespace Go.Proofs.Mem
open Go.RowKit Go.Lib
/-- A list of bytes as a string. -/
def str (l : List UInt8) : ByteArray := ⟨l.toArray⟩
theorem str_toList (l : List UInt8) : (str l).data.toList = l := rfl
theorem str_size (l : List UInt8) : (str l).size = l.length := by simp [str, ByteArray.size]
theorem str_eq (s : ByteArray) : str s.data.toList = s := by cases s; rfl
theorem ext_str (s : ByteArray) (n : Nat) : s.extract 0 n = str (s.data.toList.take n) := by
  apply ByteArray.ext
  apply Array.toList_inj.1
  rw [Lib.extract_data]
  simp [str]
theorem foldl_push (ns : List UInt8) : ∀ s : ByteArray, (ns.map fun b => ((b.toNat : Nat) : Int)).foldl (fun r n => r.push (UInt8.ofNat n.toNat)) s = ⟨(s.data.toList ++ ns).toArray⟩ := by
  induction ns with
  | nil => intro s; simp
  | cons b t ih =>
    intro s
    rw [List.map_cons, List.foldl_cons, ih]
    congr 1
    simp [ByteArray.push]
/-- The bytes m stand from place 'off' of block b on, and may be written. -/
def ByteRow (w : World) (b off : Nat) (m : List UInt8) : Prop :=
  ∀ j, j < m.length → w.cell? ⟨b, off + j, none⟩ = some (.int .u8 (m.getD j 0).toNat) ∧ w.frozen? ⟨b, off + j, none⟩ = false
theorem run_bytes_str {P : Program} {w : World} {b off c : Nat} {m : List UInt8} (src dst e : TypeId) (h : ByteRow w b off m)
    (hs : P.underlying src = some (.slice e)) (he : P.underlying e = some (.int .u8)) (hd : P.underlying dst = some .string) :
    (convert src dst (.slice (some ⟨b, off, none⟩) m.length c)).run P w = .ok (.string (str m)) w := by
  rw [run_convert_bytes_string w src dst e _ _ _ hs he hd]
  have hl : (loadCells ⟨b, off, none⟩ m.length).run P w = .ok ((m.map fun b => ((b.toNat : Nat) : Int)).map (Value.int .u8)).toArray w := by
    have := run_loadCells_list (P := P) (w := w) ⟨b, off, none⟩ ((m.map fun b => ((b.toNat : Nat) : Int)).map (Value.int .u8)) (by
      intro j v hv
      have hj : j < m.length := by
        have := (List.getElem?_eq_some_iff.1 hv).1
        simpa using this
      have := (h j hj).1
      simp only [List.getElem?_map, List.getElem?_eq_getElem hj, Option.map_some] at hv
      rw [List.getD_eq_getElem?_getD, List.getElem?_eq_getElem hj] at this
      cases hv
      unfold Addr.add
      by_cases h0 : j = 0
      · subst h0; simpa using this
      · rw [if_neg h0]; exact this)
    simpa using this
  rw [run_bytesToString w _ _ _ _ hl, foldl_push]
  rfl
theorem row_set {w : World} {b off : Nat} {m : List UInt8} (h : ByteRow w b off m) {i : Nat} (x : UInt8) :
    ByteRow (w.setCell ⟨b, off + i, none⟩ (.int .u8 x.toNat)) b off (m.set i x) := by
  intro j hj
  rw [List.length_set] at hj
  obtain ⟨h1, h2⟩ := h j hj
  by_cases hij : i = j
  · subst hij
    refine ⟨?_, by rw [World.frozen?_setCell]; exact h2⟩
    rw [List.getD_eq_getElem?_getD, List.getElem?_set_self hj, World.cell?_setCell_same _ _ _ h1]
    rfl
  · refine ⟨?_, by rw [World.frozen?_setCell]; exact h2⟩
    rw [List.getD_eq_getElem?_getD, List.getElem?_set_ne hij, World.cell?_setCell_other _ _ _ _ (by intro e; injection e; omega), h1, List.getD_eq_getElem?_getD]
theorem row_below {B : Nat} {w w' : World} {b off : Nat} {m : List UInt8} (h : ByteRow w b off m) (hb : Below B w w') (hB : b < B) : ByteRow w' b off m := by
  intro j hj
  obtain ⟨h1, h2⟩ := h j hj
  exact ⟨by rw [hb.cell (p := ⟨b, off + j, none⟩) hB]; exact h1, by rw [hb.frozen (p := ⟨b, off + j, none⟩) hB]; exact h2⟩
theorem row_later {w w' : World} {b off : Nat} {m : List UInt8} (h : ByteRow w b off m) (hb : Below w.heap.size w w') : ByteRow w' b off m := by
  intro j hj
  have hlt : b < w.heap.size := by
    obtain ⟨h1, _⟩ := h j hj
    rcases Nat.lt_or_ge b w.heap.size with h2 | h2
    · exact h2
    · simp [World.cell?, Array.getElem?_eq_none h2] at h1
  exact row_below h hb hlt j hj
theorem row_new (w : World) (e : TypeId) (s : ByteArray) : ByteRow (bytesWorld w e s) w.heap.size 0 s.data.toList := by
  intro j hj
  rw [Nat.zero_add]
  rw [← Lib.size_eq] at hj
  refine ⟨bytesWorld_cell w e s j hj, ?_⟩
  simp only [World.frozen?, bytesWorld_at_new, bytesCells]
  simp
  intro h
  have : s.data.size = s.size := rfl
  omega
theorem below_bytes (w : World) (e : TypeId) (s : ByteArray) : Below w.heap.size w (bytesWorld w e s) :=
  ⟨rfl, rfl, rfl, by rw [bytesWorld_size]; omega, fun k hk => bytesWorld_at_old w e s k hk⟩
end Go.Proofs.Mem
