/- Several texts in one: The argument of a law that is a slice of operations, opened: it reads as a list of operations. The walks of the reference's comparisons: SameTurns, SameSource, SameTable. The walks of the reference's comparisons: SameSource. -/
import Derived.Deep.Slices
import Derived.SizedLaws
import Derived.Laws.StructEq
import Derived.Test.YtpdjhlcbcomdkaaGreatDoorF05
import Derived.Test.YtpdjhlcbcomdkaaGreatDoorF09
import Derived.Test.YtpdjhlcbcomdkaaGreatDoorF13
import Derived.Test.YtpdjhlcbcomdkaaGreatDoorF15
import Derived.Test.YtpdjhlcbcomdkaaGreatDoorF16
namespace Go.Proofs.Rm
open Go.RowKit Go.WideShapes Go.ChangeShapes Go.Proofs.Heap Go.Proofs.Mem Go.Deep
/-- An operation, its two slices' values beside it. -/
structure OpV where
  o : Op
  sa : Option Addr
  sc : Nat
  ba : Option Addr
  bl : Nat
  bc : Nat
def opvCells (x : OpV) : List Value := [.int .i64 x.o.kind, .int .i64 x.o.peer, .int .i64 x.o.source, .int .i64 x.o.layer, .string (str x.o.name), .slice x.sa x.o.ssrcs.length x.sc, .slice x.ba x.bl x.bc]
/-- A slice value reads as operations. -/
structure OpsR (w : World) (v : Value) (l : List OpV) : Prop where
  row : RRow w v l.length (l.flatMap opvCells)
  each : ∀ x ∈ l, RRow w (.slice x.sa x.o.ssrcs.length x.sc) x.o.ssrcs.length (u32s x.o.ssrcs) ∧ x.o.name.length < 9223372036854775807
theorem OpsR.below {w w' : World} {v : Value} {l : List OpV} (h : OpsR w v l) (hb : Below w.heap.size w w') : OpsR w' v l := ⟨h.row.below hb, fun x hx => ⟨(h.each x hx).1.below hb, (h.each x hx).2⟩⟩
section
variable {H : Type} {enc : TypeId × Value → H} {W : World} {base : Nat} {sp : Nat → Bool} {held : Bool}
theorem spot_none {w : World} {a : Addr} {v : Value} (h : w.cell? a = some v) : a = ⟨a.block, a.off, none⟩ := by
  obtain ⟨b, o, s⟩ := a
  cases s with
  | none => rfl
  | some x => simp [World.cell?] at h; split at h <;> simp_all
theorem add_none {a : Addr} (h : a = ⟨a.block, a.off, none⟩) (j : Nat) : a.add j = ⟨a.block, a.off + j, none⟩ := by
  unfold Addr.add
  split
  · rename_i h0; subst h0; exact h
  · rw [h]
theorem trod_u32s {fuel : Nat} {v : Value} {x : DataW H × List MemPlace} (h : DataW.trod enc Tryz.prog W base sp held fuel 29 [v] = some x) : ∃ (l : List Int) (a : Option Addr) (c : Nat), v = .slice a l.length c ∧ RRow W (.slice a l.length c) l.length (u32s l) := by
  rcases open_slice1 Tryz.underlying29 (by kernel_rfl) h with ⟨hc, _⟩ | ⟨a, len, cap, m, n, V, D, Pl, hcs, hb, hl, hm, hmm, _, hx⟩
  · exact ⟨[], none, 0, by simpa using hc, RRow.nil _⟩
  · have hlm : len ≤ m := by rw [hmm]; split <;> omega
    have hv : v = .slice (some a) len cap := by simpa using hcs
    have key : ∀ i, i < len → ∃ z, W.cell? (a.add i) = some (.int .u32 z) ∧ V i = .int .u32 z := by
      intro i hi
      obtain ⟨h1, h2⟩ := hx i (by omega)
      obtain ⟨z, hz, _⟩ := DataW.trod_int Tryz.underlying66 h2
      have hz : V i = .int .u32 z := by simpa using hz
      exact ⟨z, by rw [h1, hz], hz⟩
    let l : List Int := (List.range len).map fun i => match V i with | .int _ z => z | _ => 0
    have hll : l.length = len := by simp [l]
    refine ⟨l, some a, cap, by rw [hll]; exact hv, some a, cap, rfl, by rw [hll]; exact hl, hm, (fun h => by cases h), ?_⟩
    by_cases h0 : len = 0
    · exact Or.inl (List.eq_nil_of_length_eq_zero (by rw [u32s_length, hll]; exact h0))
    · obtain ⟨z0, hz0, _⟩ := key 0 (by omega)
      have hz0' : W.cell? a = some (.int .u32 z0) := by unfold Addr.add at hz0; simpa using hz0
      have ha := spot_none hz0'
      refine Or.inr ⟨a.block, a.off, by rw [← ha], World.block_lt_of_cell? W a hz0', fun j hj => ?_⟩
      rw [u32s_length, hll] at hj
      obtain ⟨z, hz, hV⟩ := key j hj
      rw [← add_none ha, hz]
      simp [u32s, l, hj, hV]
theorem trod_slice_any {t e : TypeId} (ht : Tryz.prog.underlying t = some (.slice e)) {fuel : Nat} {v : Value} {x : DataW H × List MemPlace} (h : DataW.trod enc Tryz.prog W base sp held fuel t [v] = some x) : ∃ (a : Option Addr) (n c : Nat), v = .slice a n c := by
  rcases open_slice ht h with ⟨hc, _⟩ | ⟨a, len, cap, m, n, D, Pl, hcs, _⟩
  · exact ⟨none, 0, 0, by simpa using hc⟩
  · exact ⟨some a, len, cap, by simpa using hcs⟩
theorem seven {α : Type} {l : List α} (h : l.length = 7) : ∃ c0 c1 c2 c3 c4 c5 c6, l = [c0, c1, c2, c3, c4, c5, c6] := by
  obtain _ | ⟨c0, l⟩ := l
  · simp at h
  obtain _ | ⟨c1, l⟩ := l
  · simp at h
  obtain _ | ⟨c2, l⟩ := l
  · simp at h
  obtain _ | ⟨c3, l⟩ := l
  · simp at h
  obtain _ | ⟨c4, l⟩ := l
  · simp at h
  obtain _ | ⟨c5, l⟩ := l
  · simp at h
  obtain _ | ⟨c6, l⟩ := l
  · simp at h
  obtain _ | ⟨c7, l⟩ := l
  · exact ⟨_, _, _, _, _, _, _, rfl⟩
  · simp at h
set_option maxRecDepth 100000 in
/-- An operation as seven cells. -/
theorem trod_op {fuel : Nat} {cs : List Value} {x : DataW H × List MemPlace} (h : DataW.trod enc Tryz.prog W base sp held fuel 32 cs = some x) :
    ∃ y : OpV, cs = opvCells y ∧ RRow W (.slice y.sa y.o.ssrcs.length y.sc) y.o.ssrcs.length (u32s y.o.ssrcs) ∧ y.o.name.length ∈ x.1.weights Tryz.prog 32 := by
  obtain ⟨xs, n, _, hxx, hlen, hxl, hf⟩ := DataW.trod_struct Tryz.underlying32 h
  have hC : Tryz.prog.cellsOf 32 = 7 := by kernel_rfl
  have k1 : Tryz.prog.cellsOf 3 = 1 := by kernel_rfl
  have k2 : Tryz.prog.cellsOf 9 = 1 := by kernel_rfl
  have k3 : Tryz.prog.cellsOf 29 = 1 := by kernel_rfl
  have k4 : Tryz.prog.cellsOf 30 = 1 := by kernel_rfl
  rw [hC] at hlen
  obtain ⟨c0, c1, c2, c3, c4, c5, c6, rfl⟩ : ∃ c0 c1 c2 c3 c4 c5 c6, cs = [c0, c1, c2, c3, c4, c5, c6] := seven hlen
  clear h hC
  have hx : ∀ j, j < 7 → ∃ y, xs[j]? = some y := fun j hj => ⟨xs[j]'(by rw [hxl]; exact hj), List.getElem?_eq_getElem _⟩
  obtain ⟨y0, e0⟩ := hx 0 (by omega)
  obtain ⟨y1, e1⟩ := hx 1 (by omega)
  obtain ⟨y2, e2⟩ := hx 2 (by omega)
  obtain ⟨y3, e3⟩ := hx 3 (by omega)
  obtain ⟨y4, e4⟩ := hx 4 (by omega)
  obtain ⟨y5, e5⟩ := hx 5 (by omega)
  obtain ⟨y6, e6⟩ := hx 6 (by omega)
  have h0 : DataW.trod enc Tryz.prog W base sp held n 3 (([c0, c1, c2, c3, c4, c5, c6].drop 0).take (Tryz.prog.cellsOf 3)) = some y0 := (hf 0 _ rfl).trans e0
  have h1 : DataW.trod enc Tryz.prog W base sp held n 3 (([c0, c1, c2, c3, c4, c5, c6].drop 1).take (Tryz.prog.cellsOf 3)) = some y1 := (hf 1 _ rfl).trans e1
  have h2 : DataW.trod enc Tryz.prog W base sp held n 3 (([c0, c1, c2, c3, c4, c5, c6].drop 2).take (Tryz.prog.cellsOf 3)) = some y2 := (hf 2 _ rfl).trans e2
  have h3 : DataW.trod enc Tryz.prog W base sp held n 3 (([c0, c1, c2, c3, c4, c5, c6].drop 3).take (Tryz.prog.cellsOf 3)) = some y3 := (hf 3 _ rfl).trans e3
  have h4 : DataW.trod enc Tryz.prog W base sp held n 9 (([c0, c1, c2, c3, c4, c5, c6].drop 4).take (Tryz.prog.cellsOf 9)) = some y4 := (hf 4 _ rfl).trans e4
  have h5 : DataW.trod enc Tryz.prog W base sp held n 29 (([c0, c1, c2, c3, c4, c5, c6].drop 5).take (Tryz.prog.cellsOf 29)) = some y5 := (hf 5 _ rfl).trans e5
  have h6 : DataW.trod enc Tryz.prog W base sp held n 30 (([c0, c1, c2, c3, c4, c5, c6].drop 6).take (Tryz.prog.cellsOf 30)) = some y6 := (hf 6 _ rfl).trans e6
  rw [k1] at h0 h1 h2 h3
  rw [k2] at h4
  rw [k3] at h5
  rw [k4] at h6
  obtain ⟨z0, g0, _⟩ := DataW.trod_int Tryz.underlying3 h0
  obtain ⟨z1, g1, _⟩ := DataW.trod_int Tryz.underlying3 h1
  obtain ⟨z2, g2, _⟩ := DataW.trod_int Tryz.underlying3 h2
  obtain ⟨z3, g3, _⟩ := DataW.trod_int Tryz.underlying3 h3
  obtain ⟨s4, g4, gy4, hs4⟩ := DataW.trod_string Tryz.underlying9 h4
  obtain ⟨l5, a5, n5, g5, hr5⟩ := trod_u32s (v := c5) h5
  obtain ⟨a6, l6, n6, g6⟩ := trod_slice_any Tryz.underlying30 (v := c6) h6
  have g0 : c0 = .int .i64 z0 := by simpa using g0
  have g1 : c1 = .int .i64 z1 := by simpa using g1
  have g2 : c2 = .int .i64 z2 := by simpa using g2
  have g3 : c3 = .int .i64 z3 := by simpa using g3
  have g4 : c4 = .string s4 := by simpa using g4
  refine ⟨⟨⟨z0, z1, z2, z3, s4.data.toList, l5⟩, a5, n5, a6, l6, n6⟩, ?_, hr5, ?_⟩
  · rw [g0, g1, g2, g3, g4, g5, g6]; simp only [opvCells, str_eq]
  · rw [hxx]
    show _ ∈ DataW.weights Tryz.prog 32 (.agg (xs.map (·.1)))
    unfold DataW.weights
    rw [Tryz.underlying32]
    dsimp only
    refine DataW.weights_mem_each (j := 4) (t := 9) (d := .lit (.string s4.data.toList)) rfl ?_ _ (by simp [DataW.weights])
    rw [List.getElem?_map, e4, gy4]
    rfl
theorem weights_all {P : Program} {e : TypeId} : ∀ {l : List (DataW H)} {d : DataW H}, d ∈ l → ∀ n ∈ d.weights P e, n ∈ DataW.weightsAll P e l
  | d0 :: l, d, hd, n, hn => by
    simp only [DataW.weightsAll, List.mem_append]
    rcases List.mem_cons.1 hd with rfl | hd
    · exact Or.inl hn
    · exact Or.inr (weights_all hd n hn)
  | [], _, hd, _, _ => by simp at hd
theorem open_ops {t : TypeId} {v : Value} {d : DataW H} {ps : List MemPlace} (ht : Tryz.prog.underlying t = some (.slice 32)) (hcl : v.cells = #[v]) (h : DataW.Trod enc Tryz.prog W base sp held t v d ps) (hz : ∀ n ∈ d.weights Tryz.prog t, n ≤ reachBytes) : ∃ l, OpsR W v l := by
  obtain ⟨fuel, h⟩ := h
  rw [hcl] at h
  have hC : Tryz.prog.cellsOf 32 = 7 := by kernel_rfl
  rcases open_slice ht h with ⟨hc, _⟩ | ⟨a, len, cap, m, n, D, Pl, hcs, hb, hl, hm, hmm, hdx, hx⟩
  · have : v = .slice none 0 0 := by simpa using hc
    subst this
    exact ⟨[], RRow.nil _, fun x hx => by simp at hx⟩
  · have hlm : len ≤ m := by rw [hmm]; split <;> omega
    have hv : v = .slice (some a) len cap := by simpa using hcs
    subst hv
    have key : ∀ i, ∃ y : OpV, i < len → (∀ j, j < 7 → W.cell? ((a.add (i * 7)).add j) = (opvCells y)[j]?) ∧ RRow W (.slice y.sa y.o.ssrcs.length y.sc) y.o.ssrcs.length (u32s y.o.ssrcs) ∧ y.o.name.length < 9223372036854775807 := by
      intro i
      by_cases hi : i < len
      · obtain ⟨cs', h1, h2⟩ := hx i (by omega)
        rw [hC] at h1
        obtain ⟨_, hcl', hat⟩ := World.cells?_some h1
        obtain ⟨y, hy, hr, hn⟩ := trod_op h2
        have hn2 : y.o.name.length < 9223372036854775807 := by
          have hd : d = .slice ((List.range len).map D) ((List.range (m - len)).map fun j => D (len + j)) := by injection hdx
          have := hz y.o.name.length (by
            rw [hd]
            unfold DataW.weights
            rw [ht]
            refine List.mem_cons_of_mem _ (List.mem_append.2 (Or.inl (weights_all (List.mem_map.2 ⟨i, by simpa using hi, rfl⟩) _ hn)))) 
          have := Nat.lt_of_le_of_lt this reachBytes_lt
          omega
        refine ⟨y, fun _ => ⟨fun j hj => ?_, hr, hn2⟩⟩
        have := hat j hj
        rw [← hy, this]
      · exact ⟨⟨⟨0, 0, 0, 0, [], []⟩, none, 0, none, 0, 0⟩, fun h => absurd h hi⟩
    obtain ⟨Y, hY⟩ := Classical.axiomOfChoice key
    let l : List OpV := (List.range len).map Y
    have hll : l.length = len := by simp [l]
    refine ⟨l, ⟨some a, cap, by rw [hll], by rw [hll]; exact hl, hm, (fun h => by cases h), ?_⟩, ?_⟩
    · by_cases h0 : len = 0
      · exact Or.inl (by rw [List.eq_nil_of_length_eq_zero (hll.trans h0)]; rfl)
      · have hz := (hY 0 (by omega)).1 0 (by omega)
        have hz0 : W.cell? a = some (.int .i64 (Y 0).o.kind) := by simpa [Addr.add, opvCells] using hz
        have ha := spot_none hz0
        refine Or.inr ⟨a.block, a.off, by rw [← ha], World.block_lt_of_cell? W a hz0, fun j hj => ?_⟩
        have hfl : (l.flatMap opvCells).length = len * 7 := by rw [flat_length opvCells 7 (fun _ => rfl), hll]
        rw [hfl] at hj
        have hi : j / 7 < len := by omega
        have hli : l[j / 7]? = some (Y (j / 7)) := by simp [l, hi]
        have := flat_at opvCells 7 (fun _ => rfl) l (j / 7) (j % 7) _ hli (by omega)
        rw [show j / 7 * 7 + j % 7 = j by omega] at this
        rw [this, ← (hY (j / 7) hi).1 (j % 7) (by omega)]
        rw [add_none ha]
        unfold Addr.add
        split
        · rename_i e; rw [show a.off + j = a.off + j / 7 * 7 by omega]
        · rw [show a.off + j = a.off + j / 7 * 7 + j % 7 by omega]
    · intro x hx
      obtain ⟨i, hi, rfl⟩ := List.mem_map.1 hx
      exact (hY i (by simpa using hi)).2
end
end Go.Proofs.Rm
namespace Go.Proofs.Rm
open Go.RowKit Go.Proofs.Heap Go.Proofs.Mem
theorem row_at {α : Type} (f : α → List Value) (k : Nat) (hk : ∀ x, (f x).length = k) (hk0 : 0 < k) {w : World} {e : TypeId} {v : Value} {n : Nat} {l : List α} (h : Row w e v n (l.flatMap f)) (hl : 0 < l.length) :
    ∃ g off cap, v = .slice (some ⟨g, off, none⟩) n cap ∧ n ≤ cap ∧ cap ≤ maxLen ∧ g < w.heap.size ∧ ∀ (i : Nat) (x : α), l[i]? = some x → ∀ j, j < k → w.cell? ⟨g, off + i * k + j, none⟩ = (f x)[j]? := by
  have hfl := flat_length f k hk l
  obtain ⟨g, off, cap, h1, h2, h3, h4, h5⟩ := h.open (by rw [hfl]; exact Nat.mul_pos hl hk0)
  refine ⟨g, off, cap, h1, h2, h3, h4, fun i x hx j hj => ?_⟩
  have hi : i < l.length := (List.getElem?_eq_some_iff.1 hx).1
  have hlt : i * k + j < l.length * k := by
    have h6 : (i + 1) * k ≤ l.length * k := Nat.mul_le_mul_right _ hi
    rw [Nat.succ_mul] at h6
    omega
  rw [Nat.add_assoc, h5 _ (by rw [hfl]; exact hlt)]
  exact flat_at f k hk l i j x hx hj
theorem turn_at {w : World} {v : Value} {l : List Turn} (h : TurnRow w v l) (hl : 0 < l.length) : ∃ g off cap, v = .slice (some ⟨g, off, none⟩) l.length cap ∧ g < w.heap.size ∧
    ∀ (i : Nat) (x : Turn), l[i]? = some x → w.cell? ⟨g, off + i * 5, none⟩ = some (.int .i64 x.kind) ∧ w.cell? ⟨g, off + i * 5 + 1, none⟩ = some (.int .i64 x.peer) ∧ w.cell? ⟨g, off + i * 5 + 2, none⟩ = some (.int .i64 x.source) ∧ w.cell? ⟨g, off + i * 5 + 3, none⟩ = some (.int .i64 x.layer) ∧ w.cell? ⟨g, off + i * 5 + 4, none⟩ = some (.int .u32 x.ssrc) := by
  obtain ⟨g, off, cap, h1, _, _, h4, h5⟩ := row_at turnCells 5 (fun _ => rfl) (by omega) h hl
  exact ⟨g, off, cap, h1, h4, fun i x hx => ⟨h5 i x hx 0 (by omega), h5 i x hx 1 (by omega), h5 i x hx 2 (by omega), h5 i x hx 3 (by omega), h5 i x hx 4 (by omega)⟩⟩
theorem take_eq_succ {α : Type} {a b : List α} {k : Nat} (ha : k < a.length) (hb : k < b.length) (h : a.take k = b.take k) (e : a[k] = b[k]) : a.take (k + 1) = b.take (k + 1) := by
  rw [List.take_succ_eq_append_getElem ha, List.take_succ_eq_append_getElem hb, h, e]
theorem drewN_cell (w : World) (q : Nat) (a : Addr) : (w.drewN q).cell? a = w.cell? a := by
  induction q with
  | zero => rfl
  | succ q ih => exact ih
end Go.Proofs.Rm
namespace Go.Proofs.Rm
open Go.RowKit Go.Proofs.Heap Go.Proofs.Mem
theorem takeD_succ {a b : List Int} {k : Nat} (ha : k < a.length) (hb : k < b.length) (h : a.take k = b.take k) (e : a.getD k 0 = b.getD k 0) : a.take (k + 1) = b.take (k + 1) := by
  rw [List.getD_eq_getElem?_getD, List.getD_eq_getElem?_getD, List.getElem?_eq_getElem ha, List.getElem?_eq_getElem hb] at e
  exact take_eq_succ ha hb h e
set_option maxHeartbeats 4000000 in
theorem SameSource_any (x y : TSrc) (sa sb : Option Addr) (ca cb : Nat) (w : World) (h1 : Row w 66 (.slice sa x.ss.length ca) x.ss.length (u32s x.ss)) (h2 : Row w 66 (.slice sb y.ss.length cb) y.ss.length (u32s y.ss)) :
    Calls Tryz.prog 45 #[.agg #[.int .i64 x.num, .int .i64 x.own, .slice sa x.ss.length ca, .bool x.muted], .agg #[.int .i64 y.num, .int .i64 y.own, .slice sb y.ss.length cb, .bool y.muted]] w fun e w' => e = .returned (.bool (decide (x = y))) ∧ Below w.heap.size w w' := by
  obtain ⟨xn, xo, xs, xm⟩ := x
  obtain ⟨yn, yo, ys, ym⟩ := y
  dsimp only at *
  have n1 := h1.len
  have n2 := h2.len
  have HR1 : Hid (∀ w', Below w.heap.size w w' → Row w' 66 (.slice sa xs.length ca) xs.length (u32s xs)) := fun w' hb => h1.below hb
  have HR2 : Hid (∀ w', Below w.heap.size w w' → Row w' 66 (.slice sb ys.length cb) ys.length (u32s ys)) := fun w' hb => h2.below hb
  clear h1 h2
  by_cases hl : xs.length = ys.length
  · have HB : Hid (∀ w', Below ((w.alloc (.cells #[.int .i64 xn, .int .i64 xo, .slice sa xs.length ca, .bool xm] 108)).alloc (.cells #[.int .i64 yn, .int .i64 yo, .slice sb ys.length cb, .bool ym] 108)).heap.size ((w.alloc (.cells #[.int .i64 xn, .int .i64 xo, .slice sa xs.length ca, .bool xm] 108)).alloc (.cells #[.int .i64 yn, .int .i64 yo, .slice sb ys.length cb, .bool ym] 108)) w' →
        (w'.cell? ⟨w.heap.size, 0, none⟩ = some (.int .i64 xn) ∧ w'.cell? ⟨w.heap.size, 1, none⟩ = some (.int .i64 xo) ∧ w'.cell? ⟨w.heap.size, 2, none⟩ = some (.slice sa xs.length ca) ∧ w'.cell? ⟨w.heap.size, 3, none⟩ = some (.bool xm)) ∧
        (w'.cell? ⟨w.heap.size + 1, 0, none⟩ = some (.int .i64 yn) ∧ w'.cell? ⟨w.heap.size + 1, 1, none⟩ = some (.int .i64 yo) ∧ w'.cell? ⟨w.heap.size + 1, 2, none⟩ = some (.slice sb ys.length cb) ∧ w'.cell? ⟨w.heap.size + 1, 3, none⟩ = some (.bool ym)) ∧ Below w.heap.size w w') := fun w' hb =>
      ⟨⟨cell_below hb ((cell_new1 rfl _ _ _ _).trans rfl), cell_below hb ((cell_new1 rfl _ _ _ _).trans rfl), cell_below hb ((cell_new1 rfl _ _ _ _).trans rfl), cell_below hb ((cell_new1 rfl _ _ _ _).trans rfl)⟩,
       ⟨cell_below hb ((cell_new2 rfl _ _ _ _).trans rfl), cell_below hb ((cell_new2 rfl _ _ _ _).trans rfl), cell_below hb ((cell_new2 rfl _ _ _ _).trans rfl), cell_below hb ((cell_new2 rfl _ _ _ _).trans rfl)⟩,
       ((((Below.refl _ _).alloc (Nat.le_refl _) _).alloc (by simp) _).trans (hb.mono (by simp; omega)))⟩
    have HL := Lib.hid hl
    rw [← hl] at HB n2
    rw [← hl]
    clear hl
    go_enter Tryz.func45, Tryz.ntmps45
    go_wp2
    go_loopw [16] (fun i w' => ∃ k : Nat, k ≤ xs.length ∧ i = .int .i64 k ∧ Below ((w.alloc (.cells #[.int .i64 xn, .int .i64 xo, .slice sa xs.length ca, .bool xm] 108)).alloc (.cells #[.int .i64 yn, .int .i64 yo, .slice sb xs.length cb, .bool ym] 108)).heap.size ((w.alloc (.cells #[.int .i64 xn, .int .i64 xo, .slice sa xs.length ca, .bool xm] 108)).alloc (.cells #[.int .i64 yn, .int .i64 yo, .slice sb xs.length cb, .bool ym] 108)) w' ∧ Hid (xs.take k = ys.take k)) (fun i _ => xs.length - (intOf i).toNat)
    case atStart => exact ⟨0, by omega, rfl, Below.refl _ _, rfl⟩
    case round =>
      obtain ⟨k, hk, rfl, hbl, HT⟩ := hrel
      have HBL := Lib.hid hbl
      obtain ⟨⟨a0, a1, a2, a3⟩, ⟨b0, b1, b2, b3⟩, hbw⟩ := HB.out wr hbl
      clear hbl
      by_cases hkl : k < xs.length
      · have hkl2 : k < ys.length := by have := HL.out; omega
        obtain ⟨g1, o1, c1, e1, _, _, _, hc1⟩ := u32_open (HR1.out wr hbw) (by omega)
        obtain ⟨g2, o2, c2, e2, _, _, _, hc2⟩ := u32_open (HR2.out wr hbw) (by omega)
        cases e1
        injection e2 with e2 e3 e4
        subst e2 e4
        have d1 := hc1 k hkl
        have d2 := hc2 k hkl2
        clear hc1 hc2 e3
        have HEQ : Hid (xs.getD k 0 = ys.getD k 0 → xs.take (k + 1) = ys.take (k + 1)) := takeD_succ hkl hkl2 HT.out
        have HNE : Hid (¬ xs.getD k 0 = ys.getD k 0 → ¬ (⟨xn, xo, xs, xm⟩ : TSrc) = ⟨yn, yo, ys, ym⟩) := fun h e => h (by injection e with _ _ e _; rw [e])
        by_cases he : xs.getD k 0 = ys.getD k 0
        · have HF := Lib.hid (HEQ.out he)
          rw [← he] at d2
          clear he HEQ HNE
          generalize xs.getD k 0 = u at *
          go_wp2
          go_quiet (fail)
          go_wp2
          go_roundw
          case rel => exact ⟨k + 1, by omega, by go_num, below_drewN HBL.out _, HF.out⟩
          case measure => simp [intOf]; omega
        · have HF := Lib.hid (HNE.out he)
          generalize xs.getD k 0 = u at *
          generalize ys.getD k 0 = v at *
          have hbq : (u != v) = true := by rw [bne_iff_ne]; exact he
          clear he HEQ HNE
          go_wp2
          go_quiet (fail)
          go_wp2
          go_ret
          exact ⟨ret_bool (by rw [decide_eq_false HF.out]), below_drewN hbw _⟩
      · have HE : Hid (xs = ys) := by
          have := HT.out
          rw [List.take_of_length_le (by omega), List.take_of_length_le (by have := HL.out; omega)] at this
          exact this
        by_cases e0 : xn = yn
        · by_cases e1 : xo = yo
          · by_cases e2 : xm = ym
            · have HF : Hid ((⟨xn, xo, xs, xm⟩ : TSrc) = ⟨yn, yo, ys, ym⟩) := by show _ = _; rw [e0, e1, e2, HE.out]
              subst e0 e1 e2
              go_wp2
              go_ret
              exact ⟨ret_bool (by rw [decide_eq_true HF.out]), hbw⟩
            · have HF : Hid (¬ (⟨xn, xo, xs, xm⟩ : TSrc) = ⟨yn, yo, ys, ym⟩) := fun e => e2 (by injection e)
              have hbq : (xm == ym) = false := by rw [beq_eq_false_iff_ne]; exact e2
              subst e0 e1
              go_wp2
              go_ret
              exact ⟨ret_bool (by rw [decide_eq_false HF.out]), hbw⟩
          · have HF : Hid (¬ (⟨xn, xo, xs, xm⟩ : TSrc) = ⟨yn, yo, ys, ym⟩) := fun e => e1 (by injection e)
            have hbq : (xo == yo) = false := by rw [beq_eq_false_iff_ne]; exact e1
            subst e0
            go_wp2
            go_ret
            exact ⟨ret_bool (by rw [decide_eq_false HF.out]), hbw⟩
        · have HF : Hid (¬ (⟨xn, xo, xs, xm⟩ : TSrc) = ⟨yn, yo, ys, ym⟩) := fun e => e0 (by injection e)
          have hbq : (xn == yn) = false := by rw [beq_eq_false_iff_ne]; exact e0
          go_wp2
          go_ret
          exact ⟨ret_bool (by rw [decide_eq_false HF.out]), hbw⟩
  · have HF : Hid (¬ (⟨xn, xo, xs, xm⟩ : TSrc) = ⟨yn, yo, ys, ym⟩) := fun e => hl (by injection e with _ _ e _; rw [e])
    have hb : ((xs.length : Int) != (ys.length : Int)) = true := by rw [bne_iff_ne]; omega
    have hb2 : (xs.length != ys.length) = true := by rw [bne_iff_ne]; omega
    go_enter Tryz.func45, Tryz.ntmps45
    go_wp2
    go_ret
    exact ⟨ret_bool (by rw [decide_eq_false HF.out]), ((Below.refl _ _).alloc (Nat.le_refl _) _).alloc (by simp) _⟩
end Go.Proofs.Rm
