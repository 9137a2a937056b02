/- Several texts in one: The argument of a law that is a slice of operations, opened with its bytes. -/
import Derived.Test.YtpdjhlcbcomdkaaGreatDoorW13
set_option linter.unusedVariables false
set_option linter.unusedSimpArgs false
set_option linter.unusedSimpArgs false
namespace Go.Proofs.By
open Go.RowKit Go.WideShapes Go.ChangeShapes Go.Proofs.Heap Go.Proofs.Mem Go.Deep
open Go.Proofs.Rm (OpV opvCells u32s u32s_length trod_u32s spot_none add_none seven weights_all Op)
/-- A slice value reads as operations. -/
structure OpBsR (w : World) (v : Value) (L : List OpB) : Prop where
  row : RRow w v L.length (L.flatMap fun y => opvCells y.x)
  each : ∀ y ∈ L, RRow w (.slice y.x.sa y.x.o.ssrcs.length y.x.sc) y.x.o.ssrcs.length (u32s y.x.o.ssrcs) ∧ BRow w (.slice y.x.ba y.x.bl y.x.bc) y.b ∧ y.x.o.name.length < 9223372036854775807
theorem OpBsR.below {w w' : World} {v : Value} {L : List OpB} (h : OpBsR w v L) (hb : Below w.heap.size w w') : OpBsR w' v L := ⟨h.row.below hb, fun y hy => ⟨(h.each y hy).1.below hb, (h.each y hy).2.1.below hb, (h.each y hy).2.2⟩⟩
section
variable {H : Type} {enc : TypeId × Value → H} {W : World} {base : Nat} {sp : Nat → Bool} {held : Bool}
theorem u8_range {z : Int} (h : (Lit.int .u8 z).wf = true) : 0 ≤ z ∧ z < 256 := by
  have h := (Bool.and_eq_true _ _).mp h
  have h1 := of_decide_eq_true h.1
  have h2 := of_decide_eq_true h.2
  have e1 : IntKind.min .u8 = 0 := by decide
  have e2 : IntKind.max .u8 = 255 := by decide
  omega
theorem trod_u8s {fuel : Nat} {v : Value} {x : DataW H × List MemPlace} (h : DataW.trod enc Tryz.prog W base sp held fuel 30 [v] = some x) : ∃ (l : List UInt8) (a : Option Addr) (n c : Nat), v = .slice a n c ∧ BRow W (.slice a n c) l := by
  rcases open_slice1 Tryz.underlying30 (by kernel_rfl) h with ⟨hc, _⟩ | ⟨a, len, cap, m, n, V, D, Pl, hcs, hb, hl, hm, hmm, _, hx⟩
  · exact ⟨[], none, 0, 0, by simpa using hc, RRow.nil _⟩
  · have hlm : len ≤ m := by rw [hmm]; split <;> omega
    have hv : v = .slice (some a) len cap := by simpa using hcs
    have key : ∀ i, i < len → ∃ z : UInt8, W.cell? (a.add i) = some (.int .u8 (z.toNat : Int)) ∧ V i = .int .u8 (z.toNat : Int) := by
      intro i hi
      obtain ⟨h1, h2⟩ := hx i (by omega)
      obtain ⟨z, hz, _, hwf⟩ := DataW.trod_int Tryz.underlying5 h2
      obtain ⟨r0, r1⟩ := u8_range hwf
      have hz : V i = .int .u8 z := by simpa using hz
      have e : ((UInt8.ofNat z.toNat).toNat : Int) = z := by
        rw [UInt8.toNat_ofNat']
        omega
      exact ⟨UInt8.ofNat z.toNat, by rw [h1, hz, e], by rw [hz, e]⟩
    let l : List UInt8 := (List.range len).map fun i => match V i with | .int _ z => UInt8.ofNat z.toNat | _ => 0
    have hll : l.length = len := by simp [l]
    refine ⟨l, some a, len, cap, hv, some a, cap, by rw [hll], by rw [hll]; exact hl, hm, (fun h => by cases h), ?_⟩
    by_cases h0 : len = 0
    · exact Or.inl (List.eq_nil_of_length_eq_zero (by rw [bys_length, hll]; exact h0))
    · obtain ⟨z0, hz0, _⟩ := key 0 (by omega)
      have hz0' : W.cell? a = some (.int .u8 (z0.toNat : Int)) := by unfold Addr.add at hz0; simpa using hz0
      have ha := spot_none hz0'
      refine Or.inr ⟨a.block, a.off, by rw [← ha], World.block_lt_of_cell? W a hz0', fun j hj => ?_⟩
      rw [bys_length, hll] at hj
      obtain ⟨z, hz, hV⟩ := key j hj
      rw [← add_none ha, hz]
      have hlj : l[j]? = some z := by
        have e : UInt8.ofNat z.toNat = z := by simp
        simp [l, hj, hV]
      simp only [bys, List.getElem?_map, hlj, Option.map_some]
set_option maxRecDepth 100000 in
/-- An operation as seven cells. -/
theorem trod_opB {fuel : Nat} {cs : List Value} {x : DataW H × List MemPlace} (h : DataW.trod enc Tryz.prog W base sp held fuel 32 cs = some x) :
    ∃ y : OpB, cs = opvCells y.x ∧ (RRow W (.slice y.x.sa y.x.o.ssrcs.length y.x.sc) y.x.o.ssrcs.length (u32s y.x.o.ssrcs) ∧ BRow W (.slice y.x.ba y.x.bl y.x.bc) y.b) ∧ y.x.o.name.length ∈ x.1.weights Tryz.prog 32 := by
  obtain ⟨xs, n, _, hxx, hlen, hxl, hf⟩ := DataW.trod_struct Tryz.underlying32 h
  have hC : Tryz.prog.cellsOf 32 = 7 := by kernel_rfl
  have k1 : Tryz.prog.cellsOf 3 = 1 := by kernel_rfl
  have k2 : Tryz.prog.cellsOf 9 = 1 := by kernel_rfl
  have k3 : Tryz.prog.cellsOf 29 = 1 := by kernel_rfl
  have k4 : Tryz.prog.cellsOf 30 = 1 := by kernel_rfl
  rw [hC] at hlen
  obtain ⟨c0, c1, c2, c3, c4, c5, c6, rfl⟩ : ∃ c0 c1 c2 c3 c4 c5 c6, cs = [c0, c1, c2, c3, c4, c5, c6] := seven hlen
  clear h hC
  have hx : ∀ j, j < 7 → ∃ y, xs[j]? = some y := fun j hj => ⟨xs[j]'(by rw [hxl]; exact hj), List.getElem?_eq_getElem _⟩
  obtain ⟨y0, e0⟩ := hx 0 (by omega)
  obtain ⟨y1, e1⟩ := hx 1 (by omega)
  obtain ⟨y2, e2⟩ := hx 2 (by omega)
  obtain ⟨y3, e3⟩ := hx 3 (by omega)
  obtain ⟨y4, e4⟩ := hx 4 (by omega)
  obtain ⟨y5, e5⟩ := hx 5 (by omega)
  obtain ⟨y6, e6⟩ := hx 6 (by omega)
  have h0 : DataW.trod enc Tryz.prog W base sp held n 3 (([c0, c1, c2, c3, c4, c5, c6].drop 0).take (Tryz.prog.cellsOf 3)) = some y0 := (hf 0 _ rfl).trans e0
  have h1 : DataW.trod enc Tryz.prog W base sp held n 3 (([c0, c1, c2, c3, c4, c5, c6].drop 1).take (Tryz.prog.cellsOf 3)) = some y1 := (hf 1 _ rfl).trans e1
  have h2 : DataW.trod enc Tryz.prog W base sp held n 3 (([c0, c1, c2, c3, c4, c5, c6].drop 2).take (Tryz.prog.cellsOf 3)) = some y2 := (hf 2 _ rfl).trans e2
  have h3 : DataW.trod enc Tryz.prog W base sp held n 3 (([c0, c1, c2, c3, c4, c5, c6].drop 3).take (Tryz.prog.cellsOf 3)) = some y3 := (hf 3 _ rfl).trans e3
  have h4 : DataW.trod enc Tryz.prog W base sp held n 9 (([c0, c1, c2, c3, c4, c5, c6].drop 4).take (Tryz.prog.cellsOf 9)) = some y4 := (hf 4 _ rfl).trans e4
  have h5 : DataW.trod enc Tryz.prog W base sp held n 29 (([c0, c1, c2, c3, c4, c5, c6].drop 5).take (Tryz.prog.cellsOf 29)) = some y5 := (hf 5 _ rfl).trans e5
  have h6 : DataW.trod enc Tryz.prog W base sp held n 30 (([c0, c1, c2, c3, c4, c5, c6].drop 6).take (Tryz.prog.cellsOf 30)) = some y6 := (hf 6 _ rfl).trans e6
  rw [k1] at h0 h1 h2 h3
  rw [k2] at h4
  rw [k3] at h5
  rw [k4] at h6
  obtain ⟨z0, g0, _⟩ := DataW.trod_int Tryz.underlying3 h0
  obtain ⟨z1, g1, _⟩ := DataW.trod_int Tryz.underlying3 h1
  obtain ⟨z2, g2, _⟩ := DataW.trod_int Tryz.underlying3 h2
  obtain ⟨z3, g3, _⟩ := DataW.trod_int Tryz.underlying3 h3
  obtain ⟨s4, g4, gy4, hs4⟩ := DataW.trod_string Tryz.underlying9 h4
  obtain ⟨l5, a5, n5, g5, hr5⟩ := trod_u32s (v := c5) h5
  obtain ⟨b6, a6, l6, n6, g6, hr6⟩ := trod_u8s (v := c6) h6
  have g0 : c0 = .int .i64 z0 := by simpa using g0
  have g1 : c1 = .int .i64 z1 := by simpa using g1
  have g2 : c2 = .int .i64 z2 := by simpa using g2
  have g3 : c3 = .int .i64 z3 := by simpa using g3
  have g4 : c4 = .string s4 := by simpa using g4
  refine ⟨⟨⟨⟨z0, z1, z2, z3, s4.data.toList, l5⟩, a5, n5, a6, l6, n6⟩, b6⟩, ?_, ⟨hr5, hr6⟩, ?_⟩
  · rw [g0, g1, g2, g3, g4, g5, g6]; simp only [opvCells, str_eq]
  · rw [hxx]
    show _ ∈ DataW.weights Tryz.prog 32 (.agg (xs.map (·.1)))
    unfold DataW.weights
    rw [Tryz.underlying32]
    dsimp only
    refine DataW.weights_mem_each (j := 4) (t := 9) (d := .lit (.string s4.data.toList)) rfl ?_ _ (by simp [DataW.weights])
    rw [List.getElem?_map, e4, gy4]
    rfl
theorem open_opBs {t : TypeId} {v : Value} {d : DataW H} {ps : List MemPlace} (ht : Tryz.prog.underlying t = some (.slice 32)) (hcl : v.cells = #[v]) (h : DataW.Trod enc Tryz.prog W base sp held t v d ps) (hz : ∀ n ∈ d.weights Tryz.prog t, n ≤ reachBytes) : ∃ l, OpBsR W v l := by
  obtain ⟨fuel, h⟩ := h
  rw [hcl] at h
  have hC : Tryz.prog.cellsOf 32 = 7 := by kernel_rfl
  rcases open_slice ht h with ⟨hc, _⟩ | ⟨a, len, cap, m, n, D, Pl, hcs, hb, hl, hm, hmm, hdx, hx⟩
  · have : v = .slice none 0 0 := by simpa using hc
    subst this
    exact ⟨[], RRow.nil _, fun x hx => by simp at hx⟩
  · have hlm : len ≤ m := by rw [hmm]; split <;> omega
    have hv : v = .slice (some a) len cap := by simpa using hcs
    subst hv
    have key : ∀ i, ∃ y : OpB, i < len → (∀ j, j < 7 → W.cell? ((a.add (i * 7)).add j) = (opvCells y.x)[j]?) ∧ (RRow W (.slice y.x.sa y.x.o.ssrcs.length y.x.sc) y.x.o.ssrcs.length (u32s y.x.o.ssrcs) ∧ BRow W (.slice y.x.ba y.x.bl y.x.bc) y.b ∧ y.x.o.name.length < 9223372036854775807) := by
      intro i
      by_cases hi : i < len
      · obtain ⟨cs', h1, h2⟩ := hx i (by omega)
        rw [hC] at h1
        obtain ⟨_, hcl', hat⟩ := World.cells?_some h1
        obtain ⟨y, hy, ⟨hr, hr2⟩, hn⟩ := trod_opB h2
        have hn2 : y.x.o.name.length < 9223372036854775807 := by
          have hd : d = .slice ((List.range len).map D) ((List.range (m - len)).map fun j => D (len + j)) := by injection hdx
          have := hz y.x.o.name.length (by
            rw [hd]
            unfold DataW.weights
            rw [ht]
            refine List.mem_cons_of_mem _ (List.mem_append.2 (Or.inl (weights_all (List.mem_map.2 ⟨i, by simpa using hi, rfl⟩) _ hn)))) 
          have := Nat.lt_of_le_of_lt this reachBytes_lt
          omega
        refine ⟨y, fun _ => ⟨fun j hj => ?_, hr, hr2, hn2⟩⟩
        have := hat j hj
        rw [← hy, this]
      · exact ⟨⟨⟨⟨0, 0, 0, 0, [], []⟩, none, 0, none, 0, 0⟩, []⟩, fun h => absurd h hi⟩
    obtain ⟨Y, hY⟩ := Classical.axiomOfChoice key
    let l : List OpB := (List.range len).map Y
    have hll : l.length = len := by simp [l]
    refine ⟨l, ⟨some a, cap, by rw [hll], by rw [hll]; exact hl, hm, (fun h => by cases h), ?_⟩, ?_⟩
    · by_cases h0 : len = 0
      · exact Or.inl (by rw [List.eq_nil_of_length_eq_zero (hll.trans h0)]; rfl)
      · have hz := (hY 0 (by omega)).1 0 (by omega)
        have hz0 : W.cell? a = some (.int .i64 (Y 0).x.o.kind) := by simpa [Addr.add, opvCells] using hz
        have ha := spot_none hz0
        refine Or.inr ⟨a.block, a.off, by rw [← ha], World.block_lt_of_cell? W a hz0, fun j hj => ?_⟩
        have hfl : (l.flatMap fun y => opvCells y.x).length = len * 7 := by rw [flat_length (fun y : OpB => opvCells y.x) 7 (fun _ => rfl), hll]
        rw [hfl] at hj
        have hi : j / 7 < len := by omega
        have hli : l[j / 7]? = some (Y (j / 7)) := by simp [l, hi]
        have := flat_at (fun y : OpB => opvCells y.x) 7 (fun _ => rfl) l (j / 7) (j % 7) _ hli (by omega)
        rw [show j / 7 * 7 + j % 7 = j by omega] at this
        rw [this, ← (hY (j / 7) hi).1 (j % 7) (by omega)]
        rw [add_none ha]
        unfold Addr.add
        split
        · rename_i e; rw [show a.off + j = a.off + j / 7 * 7 by omega]
        · rw [show a.off + j = a.off + j / 7 * 7 + j % 7 by omega]
    · intro x hx
      obtain ⟨i, hi, rfl⟩ := List.mem_map.1 hx
      exact (hY i (by simpa using hi)).2
end
end Go.Proofs.By
