/- Several texts in one: The frame of every law: from 'the call returns true and what was there stays' to the row's own post; what a slice of bools reads as. Over any program. The argument of a law that is a slice of operations, opened: it reads as a list of operations. The walks of the reference's comparisons: SameTurns, SameSource, SameTable. The walks of the reference's comparisons: SameSource. The walks of the reference's comparisons: SameTable. -/
import Derived.Below
import Derived.ChangeSame
import Derived.WideKeyArgs
import Derived.ChangeArms
import Derived.ChangeSlices
import Derived.WalkKit
import Derived.ProofKit
import Derived.OpenShut
import Derived.Carry
import Derived.Deep.Slices
import Derived.SizedLaws
import Derived.Laws.StructEq
import Derived.StillTailTactics
import Derived.Test.YtpdjhlcbcomdkaaGreatDoorK05
import Derived.Test.YtpdjhlcbcomdkaaGreatDoorK08
import Derived.Test.YtpdjhlcbcomdkaaGreatDoorK10
import Derived.Test.YtpdjhlcbcomdkaaGreatDoorK11
namespace Go.Proofs.Frame
open Go.RowKit Go.WideShapes Go.ChangeShapes
section
variable {H : Type} {enc : TypeId × Value → H} {P : Program}
/-- Arguments that were read read as they did, whatever happened above them. -/
theorem trodAll_stays (hl : laidOutB P = true) {W W' : World} {sp' : Nat → Bool} (hb : Below W.heap.size W W') : ∀ {ts : List TypeId} {vs : List Value} {ds : List (DataW H)} {ps : List MemPlace},
    (∀ t ∈ ts, P.readableRec t = true ∧ t < P.types.size) → DataW.TrodAll enc P W 0 (fun _ => true) true ts vs ds ps → (∀ p ∈ ps, p.block < W.heap.size) → (∀ p ∈ ps, sp' p.block = true) →
    DataW.TrodAll enc P W' 0 sp' true ts vs ds ps
  | [], [], [], _, _, h, _, _ => h
  | t :: ts, v :: vs, d :: ds, ps, ht, h, hlt, hsp => by
    obtain ⟨p, q, h1, h2, rfl⟩ := h
    refine ⟨p, q, ?_, ?_, rfl⟩
    · exact WideElems.Trod_stays hl (ht t (List.mem_cons_self ..)).1 (ht t (List.mem_cons_self ..)).2 h1 (fun x hx => hb.same (hlt x (List.mem_append.2 (Or.inl hx)))) (fun x hx => hsp x (List.mem_append.2 (Or.inl hx)))
    · exact trodAll_stays hl hb (fun t' h' => ht t' (List.mem_cons_of_mem _ h')) h2 (fun x hx => hlt x (List.mem_append.2 (Or.inr hx))) (fun x hx => hsp x (List.mem_append.2 (Or.inr hx)))
  | [], [], _ :: _, _, _, h, _, _ => h.elim
  | [], _ :: _, _, _, _, h, _, _ => h.elim
  | _ :: _, [], _, _, _, h, _, _ => h.elim
  | _ :: _, _ :: _, [], _, _, h, _, _ => h.elim
/-- A law's row: it returned true, and what was there stays. -/
theorem law_post {f : Func} {s : ChangeSpec} {apart fresh handsOn again : Bool} {W W' : World} {args : Array Value} {ds gs : List (DataW H)} {before : List MemPlace} {tb : TypeId}
    (hW : DataW.Whole enc P f.params.toList s.vars apart W args.toList ds gs before) (hl : laidOutB P = true) (ht : ∀ t ∈ f.params.toList, P.readableRec t = true ∧ t < P.types.size)
    (hv : s.vars = []) (hs : s.fn H (ds ++ gs) = { results := [.lit (.bool true)], args := ds }) (hres : f.resultTypes = #[tb]) (hbool : P.underlying tb = some .bool)
    (hb : Below W.heap.size W W') :
    s.post enc P f apart fresh handsOn again W args (.bool true) W' := by
  have hlt : ∀ p ∈ before, p.block < W.heap.size := fun p hp => hW.lt p hp
  have hold : ∀ p ∈ before, (fun b => decide (b < W.heap.size)) p.block = true := fun p hp => by simpa using hlt p hp
  have hW0 := hW
  obtain ⟨p, q, hA, hV, hpq, hz, hn⟩ := hW
  rw [hv] at hV
  obtain ⟨rfl, rfl⟩ := trodVars_none hV
  rw [List.append_nil] at hpq
  subst hpq
  have hargs : ∀ sp : Nat → Bool, (∀ p ∈ before, sp p.block = true) → DataW.TrodAll enc P W' 0 sp true f.params.toList args.toList (s.fn H (ds ++ [])).args before := by
    intro sp hsp
    rw [hs]
    exact trodAll_stays hl hb ht hA hlt hsp
  have hr : ∀ (b : Nat) (sp : Nat → Bool) (hd : Bool), DataW.TrodAll enc P W' b sp hd f.resultTypes.toList ((Value.bool true).resultList f.resultTypes.size) (s.fn H (ds ++ [])).results [] := by
    intro b sp hd
    rw [hs, hres]
    exact trodAll_cons_mk (shut_bool hbool _) trodAll_mk0
  have hvars : ∀ sp : Nat → Bool, (∀ p ∈ before, sp p.block = true) → DataW.TrodVars enc P W' sp s.vars (s.fn H (ds ++ [])).vars [] := by
    intro sp _
    rw [hs, hv]
    rfl
  have hok : ∀ (j : Nat) (t : TypeId) (r : Value), f.resultTypes[j]? = some t → ((Value.bool true).resultList f.resultTypes.size)[j]? = some r → Value.okWide P W' .any 0 t r := by
    exact ok_one hres rfl (okWide_bool_mk hbool _)
  refine ⟨ds, [], before, [], before, [], hW0, hr _ _ _, hargs _ hold, hvars _ hold, World.keptBut_mono (fun p hp => ⟨hp, ?_⟩) (hb.frame (· ∈ before)), fun _ => ?_⟩
  · simpa using hp
  · refine ⟨hok, _, _, ([] ++ before) ++ [], ⟨[] ++ before, [], trodAll_append (hargs _ (fun _ _ => rfl)) (hr _ _ _), hvars _ (fun _ _ => rfl), rfl, ?_, ?_⟩, ?_⟩
    · intro b off hp
      have hin : MemPlace.cell b off ∈ before := by simpa using hp
      rw [hb.frozen (hlt _ hin)]
      exact hz b off hin
    · intro ha
      simpa using hn ha
    · intro p hp _
      simpa using hp
/-- What a slice of bools reads as. -/
def BoolRow (w : World) (v : Value) (l : List Bool) : Prop :=
  ∃ a cap, v = .slice a l.length cap ∧ (∀ j, j < l.length → ∃ b off, a = some ⟨b, off, none⟩ ∧ b < w.heap.size ∧ w.cell? ⟨b, off + j, none⟩ = some (.bool (l.getD j false)))
theorem cells_slice {r : Reach} {b0 : Nat} {t e : TypeId} {W : World} {v : Value} (ht : P.underlying t = some (.slice e)) (h : Value.okWide P W r b0 t v) : v.cells = #[v] := by
  obtain ⟨a, l, c, rfl⟩ := okWide_slice ht h
  rfl
theorem open_bools {base : Nat} {sp : Nat → Bool} {held : Bool} {t e : TypeId} {W : World} {v : Value} {d : DataW H} {ps : List MemPlace} (ht : P.underlying t = some (.slice e)) (he : P.underlying e = some .bool) (hc : P.cellsOf e = 1)
    (hcl : v.cells = #[v]) (h : DataW.Trod enc P W base sp held t v d ps) : ∃ l, BoolRow W v l ∧ l.length < 9223372036854775808 := by
  obtain ⟨n, h⟩ := h
  rw [hcl] at h
  rcases DataW.trod_slice ht h with ⟨h1, _⟩ | ⟨a, len, cap, elems, rest, n', _, h1, _, _, hlc, hcm, hel, hall, _⟩
  · have : v = .slice none 0 0 := by simpa using h1
    exact ⟨[], ⟨none, 0, this, fun j hj => by simp at hj⟩, by simp⟩
  · have hv : v = .slice (some a) len cap := by simpa using h1
    have key : ∀ j, j < len → ∃ b, W.cell? (a.add j) = some (.bool b) := by
      intro j hj
      have := hall j hj
      rw [hc, Nat.mul_one, List.getElem?_eq_getElem (by omega)] at this
      cases hcs : W.cells? base (a.add j) 1 with
      | none => rw [hcs] at this; simp at this
      | some cs =>
        rw [hcs, Option.bind_some] at this
        obtain ⟨b, rfl, _⟩ := DataW.trod_bool he this
        exact ⟨b, cell_of_cells?_one hcs⟩
    refine ⟨(List.range len).map fun j => match W.cell? (a.add j) with | some (.bool b) => b | _ => false, ⟨some a, cap, by simpa using hv, ?_⟩, by rw [List.length_map, List.length_range]; unfold maxLen at hcm; omega⟩
    intro j hj
    simp only [List.length_map, List.length_range] at hj
    obtain ⟨b, hb⟩ := key j hj
    have h0 : a.spot = none := by
      obtain ⟨b0, hb0⟩ := key 0 (by omega)
      cases hs : a.spot with
      | none => rfl
      | some x => simp [World.cell?, Addr.add, hs] at hb0; split at hb0 <;> simp_all
    have ha : a = ⟨a.block, a.off, none⟩ := by cases a; simp_all
    have hadd : a.add j = ⟨a.block, a.off + j, none⟩ := by
      unfold Addr.add
      split
      · subst_vars; exact ha
      · rfl
    refine ⟨a.block, a.off, by rw [← ha], ?_, ?_⟩
    · rcases Nat.lt_or_ge a.block W.heap.size with h | h
      · exact h
      · rw [hadd] at hb; simp [World.cell?, Array.getElem?_eq_none h] at hb
    · rw [← hadd, hb]
      simp [hj, hb]
theorem bools_below {W W' : World} {v : Value} {l : List Bool} (h : BoolRow W v l) (hb : Below W.heap.size W W') : BoolRow W' v l := by
  obtain ⟨a, cap, hv, hall⟩ := h
  refine ⟨a, cap, hv, fun j hj => ?_⟩
  obtain ⟨b, off, h1, h2, h3⟩ := hall j hj
  exact ⟨b, off, h1, Nat.lt_of_lt_of_le h2 hb.size, by rw [hb.cell (p := ⟨b, off + j, none⟩) h2]; exact h3⟩
theorem reach_next {t : TypeId} {ts : List TypeId} {d : DataW H} {ds : List (DataW H)} (h : (DataW.weightsEach P (t :: ts) (d :: ds)).all (· ≤ reachBytes) = true) : (DataW.weightsEach P ts ds).all (· ≤ reachBytes) = true := by
  rw [DataW.weightsEach, List.all_append, Bool.and_eq_true] at h
  exact h.2
theorem reach_str {t : TypeId} {ts : List TypeId} {s : ByteArray} {ds : List (DataW H)} (h : (DataW.weightsEach P (t :: ts) (DataW.lit (.string s.data.toList) :: ds)).all (· ≤ reachBytes) = true) : s.size ≤ 140737488351232 := by
  rw [DataW.weightsEach, List.all_append, Bool.and_eq_true] at h
  have h1 := h.1
  rw [DataW.weights] at h1
  simp [reachBytes] at h1
  exact of_decide_eq_true h1
end
end Go.Proofs.Frame
namespace Go.Proofs.Rm
open Go.RowKit Go.WideShapes Go.ChangeShapes Go.Proofs.Heap Go.Proofs.Mem Go.Deep
/-- An operation, its two slices' values beside it. -/
structure OpV where
  o : Op
  sa : Option Addr
  sc : Nat
  ba : Option Addr
  bl : Nat
  bc : Nat
def opvCells (x : OpV) : List Value := [.int .i64 x.o.kind, .int .i64 x.o.peer, .int .i64 x.o.source, .int .i64 x.o.layer, .string (str x.o.name), .slice x.sa x.o.ssrcs.length x.sc, .slice x.ba x.bl x.bc]
/-- A slice value reads as operations. -/
structure OpsR (w : World) (v : Value) (l : List OpV) : Prop where
  row : RRow w v l.length (l.flatMap opvCells)
  each : ∀ x ∈ l, RRow w (.slice x.sa x.o.ssrcs.length x.sc) x.o.ssrcs.length (u32s x.o.ssrcs) ∧ x.o.name.length < 9223372036854775807
theorem OpsR.below {w w' : World} {v : Value} {l : List OpV} (h : OpsR w v l) (hb : Below w.heap.size w w') : OpsR w' v l := ⟨h.row.below hb, fun x hx => ⟨(h.each x hx).1.below hb, (h.each x hx).2⟩⟩
section
variable {H : Type} {enc : TypeId × Value → H} {W : World} {base : Nat} {sp : Nat → Bool} {held : Bool}
theorem spot_none {w : World} {a : Addr} {v : Value} (h : w.cell? a = some v) : a = ⟨a.block, a.off, none⟩ := by
  obtain ⟨b, o, s⟩ := a
  cases s with
  | none => rfl
  | some x => simp [World.cell?] at h; split at h <;> simp_all
theorem add_none {a : Addr} (h : a = ⟨a.block, a.off, none⟩) (j : Nat) : a.add j = ⟨a.block, a.off + j, none⟩ := by
  unfold Addr.add
  split
  · rename_i h0; subst h0; exact h
  · rw [h]
theorem trod_u32s {fuel : Nat} {v : Value} {x : DataW H × List MemPlace} (h : DataW.trod enc Tryz.prog W base sp held fuel 29 [v] = some x) : ∃ (l : List Int) (a : Option Addr) (c : Nat), v = .slice a l.length c ∧ RRow W (.slice a l.length c) l.length (u32s l) := by
  rcases open_slice1 Tryz.underlying29 (by kernel_rfl) h with ⟨hc, _⟩ | ⟨a, len, cap, m, n, V, D, Pl, hcs, hb, hl, hm, hmm, _, hx⟩
  · exact ⟨[], none, 0, by simpa using hc, RRow.nil _⟩
  · have hlm : len ≤ m := by rw [hmm]; split <;> omega
    have hv : v = .slice (some a) len cap := by simpa using hcs
    have key : ∀ i, i < len → ∃ z, W.cell? (a.add i) = some (.int .u32 z) ∧ V i = .int .u32 z := by
      intro i hi
      obtain ⟨h1, h2⟩ := hx i (by omega)
      obtain ⟨z, hz, _⟩ := DataW.trod_int Tryz.underlying66 h2
      have hz : V i = .int .u32 z := by simpa using hz
      exact ⟨z, by rw [h1, hz], hz⟩
    let l : List Int := (List.range len).map fun i => match V i with | .int _ z => z | _ => 0
    have hll : l.length = len := by simp [l]
    refine ⟨l, some a, cap, by rw [hll]; exact hv, some a, cap, rfl, by rw [hll]; exact hl, hm, (fun h => by cases h), ?_⟩
    by_cases h0 : len = 0
    · exact Or.inl (List.eq_nil_of_length_eq_zero (by rw [u32s_length, hll]; exact h0))
    · obtain ⟨z0, hz0, _⟩ := key 0 (by omega)
      have hz0' : W.cell? a = some (.int .u32 z0) := by unfold Addr.add at hz0; simpa using hz0
      have ha := spot_none hz0'
      refine Or.inr ⟨a.block, a.off, by rw [← ha], World.block_lt_of_cell? W a hz0', fun j hj => ?_⟩
      rw [u32s_length, hll] at hj
      obtain ⟨z, hz, hV⟩ := key j hj
      rw [← add_none ha, hz]
      simp [u32s, l, hj, hV]
theorem trod_slice_any {t e : TypeId} (ht : Tryz.prog.underlying t = some (.slice e)) {fuel : Nat} {v : Value} {x : DataW H × List MemPlace} (h : DataW.trod enc Tryz.prog W base sp held fuel t [v] = some x) : ∃ (a : Option Addr) (n c : Nat), v = .slice a n c := by
  rcases open_slice ht h with ⟨hc, _⟩ | ⟨a, len, cap, m, n, D, Pl, hcs, _⟩
  · exact ⟨none, 0, 0, by simpa using hc⟩
  · exact ⟨some a, len, cap, by simpa using hcs⟩
theorem seven {α : Type} {l : List α} (h : l.length = 7) : ∃ c0 c1 c2 c3 c4 c5 c6, l = [c0, c1, c2, c3, c4, c5, c6] := by
  obtain _ | ⟨c0, l⟩ := l
  · simp at h
  obtain _ | ⟨c1, l⟩ := l
  · simp at h
  obtain _ | ⟨c2, l⟩ := l
  · simp at h
  obtain _ | ⟨c3, l⟩ := l
  · simp at h
  obtain _ | ⟨c4, l⟩ := l
  · simp at h
  obtain _ | ⟨c5, l⟩ := l
  · simp at h
  obtain _ | ⟨c6, l⟩ := l
  · simp at h
  obtain _ | ⟨c7, l⟩ := l
  · exact ⟨_, _, _, _, _, _, _, rfl⟩
  · simp at h
set_option maxRecDepth 100000 in
/-- An operation as seven cells. -/
theorem trod_op {fuel : Nat} {cs : List Value} {x : DataW H × List MemPlace} (h : DataW.trod enc Tryz.prog W base sp held fuel 32 cs = some x) :
    ∃ y : OpV, cs = opvCells y ∧ RRow W (.slice y.sa y.o.ssrcs.length y.sc) y.o.ssrcs.length (u32s y.o.ssrcs) ∧ y.o.name.length ∈ x.1.weights Tryz.prog 32 := by
  obtain ⟨xs, n, _, hxx, hlen, hxl, hf⟩ := DataW.trod_struct Tryz.underlying32 h
  have hC : Tryz.prog.cellsOf 32 = 7 := by kernel_rfl
  have k1 : Tryz.prog.cellsOf 3 = 1 := by kernel_rfl
  have k2 : Tryz.prog.cellsOf 9 = 1 := by kernel_rfl
  have k3 : Tryz.prog.cellsOf 29 = 1 := by kernel_rfl
  have k4 : Tryz.prog.cellsOf 30 = 1 := by kernel_rfl
  rw [hC] at hlen
  obtain ⟨c0, c1, c2, c3, c4, c5, c6, rfl⟩ : ∃ c0 c1 c2 c3 c4 c5 c6, cs = [c0, c1, c2, c3, c4, c5, c6] := seven hlen
  clear h hC
  have hx : ∀ j, j < 7 → ∃ y, xs[j]? = some y := fun j hj => ⟨xs[j]'(by rw [hxl]; exact hj), List.getElem?_eq_getElem _⟩
  obtain ⟨y0, e0⟩ := hx 0 (by omega)
  obtain ⟨y1, e1⟩ := hx 1 (by omega)
  obtain ⟨y2, e2⟩ := hx 2 (by omega)
  obtain ⟨y3, e3⟩ := hx 3 (by omega)
  obtain ⟨y4, e4⟩ := hx 4 (by omega)
  obtain ⟨y5, e5⟩ := hx 5 (by omega)
  obtain ⟨y6, e6⟩ := hx 6 (by omega)
  have h0 : DataW.trod enc Tryz.prog W base sp held n 3 (([c0, c1, c2, c3, c4, c5, c6].drop 0).take (Tryz.prog.cellsOf 3)) = some y0 := (hf 0 _ rfl).trans e0
  have h1 : DataW.trod enc Tryz.prog W base sp held n 3 (([c0, c1, c2, c3, c4, c5, c6].drop 1).take (Tryz.prog.cellsOf 3)) = some y1 := (hf 1 _ rfl).trans e1
  have h2 : DataW.trod enc Tryz.prog W base sp held n 3 (([c0, c1, c2, c3, c4, c5, c6].drop 2).take (Tryz.prog.cellsOf 3)) = some y2 := (hf 2 _ rfl).trans e2
  have h3 : DataW.trod enc Tryz.prog W base sp held n 3 (([c0, c1, c2, c3, c4, c5, c6].drop 3).take (Tryz.prog.cellsOf 3)) = some y3 := (hf 3 _ rfl).trans e3
  have h4 : DataW.trod enc Tryz.prog W base sp held n 9 (([c0, c1, c2, c3, c4, c5, c6].drop 4).take (Tryz.prog.cellsOf 9)) = some y4 := (hf 4 _ rfl).trans e4
  have h5 : DataW.trod enc Tryz.prog W base sp held n 29 (([c0, c1, c2, c3, c4, c5, c6].drop 5).take (Tryz.prog.cellsOf 29)) = some y5 := (hf 5 _ rfl).trans e5
  have h6 : DataW.trod enc Tryz.prog W base sp held n 30 (([c0, c1, c2, c3, c4, c5, c6].drop 6).take (Tryz.prog.cellsOf 30)) = some y6 := (hf 6 _ rfl).trans e6
  rw [k1] at h0 h1 h2 h3
  rw [k2] at h4
  rw [k3] at h5
  rw [k4] at h6
  obtain ⟨z0, g0, _⟩ := DataW.trod_int Tryz.underlying3 h0
  obtain ⟨z1, g1, _⟩ := DataW.trod_int Tryz.underlying3 h1
  obtain ⟨z2, g2, _⟩ := DataW.trod_int Tryz.underlying3 h2
  obtain ⟨z3, g3, _⟩ := DataW.trod_int Tryz.underlying3 h3
  obtain ⟨s4, g4, gy4, hs4⟩ := DataW.trod_string Tryz.underlying9 h4
  obtain ⟨l5, a5, n5, g5, hr5⟩ := trod_u32s (v := c5) h5
  obtain ⟨a6, l6, n6, g6⟩ := trod_slice_any Tryz.underlying30 (v := c6) h6
  have g0 : c0 = .int .i64 z0 := by simpa using g0
  have g1 : c1 = .int .i64 z1 := by simpa using g1
  have g2 : c2 = .int .i64 z2 := by simpa using g2
  have g3 : c3 = .int .i64 z3 := by simpa using g3
  have g4 : c4 = .string s4 := by simpa using g4
  refine ⟨⟨⟨z0, z1, z2, z3, s4.data.toList, l5⟩, a5, n5, a6, l6, n6⟩, ?_, hr5, ?_⟩
  · rw [g0, g1, g2, g3, g4, g5, g6]; simp only [opvCells, str_eq]
  · rw [hxx]
    show _ ∈ DataW.weights Tryz.prog 32 (.agg (xs.map (·.1)))
    unfold DataW.weights
    rw [Tryz.underlying32]
    dsimp only
    refine DataW.weights_mem_each (j := 4) (t := 9) (d := .lit (.string s4.data.toList)) rfl ?_ _ (by simp [DataW.weights])
    rw [List.getElem?_map, e4, gy4]
    rfl
theorem weights_all {P : Program} {e : TypeId} : ∀ {l : List (DataW H)} {d : DataW H}, d ∈ l → ∀ n ∈ d.weights P e, n ∈ DataW.weightsAll P e l
  | d0 :: l, d, hd, n, hn => by
    simp only [DataW.weightsAll, List.mem_append]
    rcases List.mem_cons.1 hd with rfl | hd
    · exact Or.inl hn
    · exact Or.inr (weights_all hd n hn)
  | [], _, hd, _, _ => by simp at hd
theorem open_ops {t : TypeId} {v : Value} {d : DataW H} {ps : List MemPlace} (ht : Tryz.prog.underlying t = some (.slice 32)) (hcl : v.cells = #[v]) (h : DataW.Trod enc Tryz.prog W base sp held t v d ps) (hz : ∀ n ∈ d.weights Tryz.prog t, n ≤ reachBytes) : ∃ l, OpsR W v l := by
  obtain ⟨fuel, h⟩ := h
  rw [hcl] at h
  have hC : Tryz.prog.cellsOf 32 = 7 := by kernel_rfl
  rcases open_slice ht h with ⟨hc, _⟩ | ⟨a, len, cap, m, n, D, Pl, hcs, hb, hl, hm, hmm, hdx, hx⟩
  · have : v = .slice none 0 0 := by simpa using hc
    subst this
    exact ⟨[], RRow.nil _, fun x hx => by simp at hx⟩
  · have hlm : len ≤ m := by rw [hmm]; split <;> omega
    have hv : v = .slice (some a) len cap := by simpa using hcs
    subst hv
    have key : ∀ i, ∃ y : OpV, i < len → (∀ j, j < 7 → W.cell? ((a.add (i * 7)).add j) = (opvCells y)[j]?) ∧ RRow W (.slice y.sa y.o.ssrcs.length y.sc) y.o.ssrcs.length (u32s y.o.ssrcs) ∧ y.o.name.length < 9223372036854775807 := by
      intro i
      by_cases hi : i < len
      · obtain ⟨cs', h1, h2⟩ := hx i (by omega)
        rw [hC] at h1
        obtain ⟨_, hcl', hat⟩ := World.cells?_some h1
        obtain ⟨y, hy, hr, hn⟩ := trod_op h2
        have hn2 : y.o.name.length < 9223372036854775807 := by
          have hd : d = .slice ((List.range len).map D) ((List.range (m - len)).map fun j => D (len + j)) := by injection hdx
          have := hz y.o.name.length (by
            rw [hd]
            unfold DataW.weights
            rw [ht]
            refine List.mem_cons_of_mem _ (List.mem_append.2 (Or.inl (weights_all (List.mem_map.2 ⟨i, by simpa using hi, rfl⟩) _ hn)))) 
          have := Nat.lt_of_le_of_lt this reachBytes_lt
          omega
        refine ⟨y, fun _ => ⟨fun j hj => ?_, hr, hn2⟩⟩
        have := hat j hj
        rw [← hy, this]
      · exact ⟨⟨⟨0, 0, 0, 0, [], []⟩, none, 0, none, 0, 0⟩, fun h => absurd h hi⟩
    obtain ⟨Y, hY⟩ := Classical.axiomOfChoice key
    let l : List OpV := (List.range len).map Y
    have hll : l.length = len := by simp [l]
    refine ⟨l, ⟨some a, cap, by rw [hll], by rw [hll]; exact hl, hm, (fun h => by cases h), ?_⟩, ?_⟩
    · by_cases h0 : len = 0
      · exact Or.inl (by rw [List.eq_nil_of_length_eq_zero (hll.trans h0)]; rfl)
      · have hz := (hY 0 (by omega)).1 0 (by omega)
        have hz0 : W.cell? a = some (.int .i64 (Y 0).o.kind) := by simpa [Addr.add, opvCells] using hz
        have ha := spot_none hz0
        refine Or.inr ⟨a.block, a.off, by rw [← ha], World.block_lt_of_cell? W a hz0, fun j hj => ?_⟩
        have hfl : (l.flatMap opvCells).length = len * 7 := by rw [flat_length opvCells 7 (fun _ => rfl), hll]
        rw [hfl] at hj
        have hi : j / 7 < len := by omega
        have hli : l[j / 7]? = some (Y (j / 7)) := by simp [l, hi]
        have := flat_at opvCells 7 (fun _ => rfl) l (j / 7) (j % 7) _ hli (by omega)
        rw [show j / 7 * 7 + j % 7 = j by omega] at this
        rw [this, ← (hY (j / 7) hi).1 (j % 7) (by omega)]
        rw [add_none ha]
        unfold Addr.add
        split
        · rename_i e; rw [show a.off + j = a.off + j / 7 * 7 by omega]
        · rw [show a.off + j = a.off + j / 7 * 7 + j % 7 by omega]
    · intro x hx
      obtain ⟨i, hi, rfl⟩ := List.mem_map.1 hx
      exact (hY i (by simpa using hi)).2
end
end Go.Proofs.Rm
namespace Go.Proofs.Rm
open Go.RowKit Go.Proofs.Heap Go.Proofs.Mem
theorem row_at {α : Type} (f : α → List Value) (k : Nat) (hk : ∀ x, (f x).length = k) (hk0 : 0 < k) {w : World} {e : TypeId} {v : Value} {n : Nat} {l : List α} (h : Row w e v n (l.flatMap f)) (hl : 0 < l.length) :
    ∃ g off cap, v = .slice (some ⟨g, off, none⟩) n cap ∧ n ≤ cap ∧ cap ≤ maxLen ∧ g < w.heap.size ∧ ∀ (i : Nat) (x : α), l[i]? = some x → ∀ j, j < k → w.cell? ⟨g, off + i * k + j, none⟩ = (f x)[j]? := by
  have hfl := flat_length f k hk l
  obtain ⟨g, off, cap, h1, h2, h3, h4, h5⟩ := h.open (by rw [hfl]; exact Nat.mul_pos hl hk0)
  refine ⟨g, off, cap, h1, h2, h3, h4, fun i x hx j hj => ?_⟩
  have hi : i < l.length := (List.getElem?_eq_some_iff.1 hx).1
  have hlt : i * k + j < l.length * k := by
    have h6 : (i + 1) * k ≤ l.length * k := Nat.mul_le_mul_right _ hi
    rw [Nat.succ_mul] at h6
    omega
  rw [Nat.add_assoc, h5 _ (by rw [hfl]; exact hlt)]
  exact flat_at f k hk l i j x hx hj
theorem turn_at {w : World} {v : Value} {l : List Turn} (h : TurnRow w v l) (hl : 0 < l.length) : ∃ g off cap, v = .slice (some ⟨g, off, none⟩) l.length cap ∧ g < w.heap.size ∧
    ∀ (i : Nat) (x : Turn), l[i]? = some x → w.cell? ⟨g, off + i * 5, none⟩ = some (.int .i64 x.kind) ∧ w.cell? ⟨g, off + i * 5 + 1, none⟩ = some (.int .i64 x.peer) ∧ w.cell? ⟨g, off + i * 5 + 2, none⟩ = some (.int .i64 x.source) ∧ w.cell? ⟨g, off + i * 5 + 3, none⟩ = some (.int .i64 x.layer) ∧ w.cell? ⟨g, off + i * 5 + 4, none⟩ = some (.int .u32 x.ssrc) := by
  obtain ⟨g, off, cap, h1, _, _, h4, h5⟩ := row_at turnCells 5 (fun _ => rfl) (by omega) h hl
  exact ⟨g, off, cap, h1, h4, fun i x hx => ⟨h5 i x hx 0 (by omega), h5 i x hx 1 (by omega), h5 i x hx 2 (by omega), h5 i x hx 3 (by omega), h5 i x hx 4 (by omega)⟩⟩
theorem take_eq_succ {α : Type} {a b : List α} {k : Nat} (ha : k < a.length) (hb : k < b.length) (h : a.take k = b.take k) (e : a[k] = b[k]) : a.take (k + 1) = b.take (k + 1) := by
  rw [List.take_succ_eq_append_getElem ha, List.take_succ_eq_append_getElem hb, h, e]
theorem drewN_cell (w : World) (q : Nat) (a : Addr) : (w.drewN q).cell? a = w.cell? a := by
  induction q with
  | zero => rfl
  | succ q ih => exact ih
end Go.Proofs.Rm
namespace Go.Proofs.Rm
open Go.RowKit Go.Proofs.Heap Go.Proofs.Mem
theorem takeD_succ {a b : List Int} {k : Nat} (ha : k < a.length) (hb : k < b.length) (h : a.take k = b.take k) (e : a.getD k 0 = b.getD k 0) : a.take (k + 1) = b.take (k + 1) := by
  rw [List.getD_eq_getElem?_getD, List.getD_eq_getElem?_getD, List.getElem?_eq_getElem ha, List.getElem?_eq_getElem hb] at e
  exact take_eq_succ ha hb h e
set_option maxHeartbeats 4000000 in
theorem SameSource_any (x y : TSrc) (sa sb : Option Addr) (ca cb : Nat) (w : World) (h1 : Row w 66 (.slice sa x.ss.length ca) x.ss.length (u32s x.ss)) (h2 : Row w 66 (.slice sb y.ss.length cb) y.ss.length (u32s y.ss)) :
    Calls Tryz.prog 45 #[.agg #[.int .i64 x.num, .int .i64 x.own, .slice sa x.ss.length ca, .bool x.muted], .agg #[.int .i64 y.num, .int .i64 y.own, .slice sb y.ss.length cb, .bool y.muted]] w fun e w' => e = .returned (.bool (decide (x = y))) ∧ Below w.heap.size w w' := by
  obtain ⟨xn, xo, xs, xm⟩ := x
  obtain ⟨yn, yo, ys, ym⟩ := y
  dsimp only at *
  have n1 := h1.len
  have n2 := h2.len
  have HR1 : Hid (∀ w', Below w.heap.size w w' → Row w' 66 (.slice sa xs.length ca) xs.length (u32s xs)) := fun w' hb => h1.below hb
  have HR2 : Hid (∀ w', Below w.heap.size w w' → Row w' 66 (.slice sb ys.length cb) ys.length (u32s ys)) := fun w' hb => h2.below hb
  clear h1 h2
  by_cases hl : xs.length = ys.length
  · have HB : Hid (∀ w', Below ((w.alloc (.cells #[.int .i64 xn, .int .i64 xo, .slice sa xs.length ca, .bool xm] 108)).alloc (.cells #[.int .i64 yn, .int .i64 yo, .slice sb ys.length cb, .bool ym] 108)).heap.size ((w.alloc (.cells #[.int .i64 xn, .int .i64 xo, .slice sa xs.length ca, .bool xm] 108)).alloc (.cells #[.int .i64 yn, .int .i64 yo, .slice sb ys.length cb, .bool ym] 108)) w' →
        (w'.cell? ⟨w.heap.size, 0, none⟩ = some (.int .i64 xn) ∧ w'.cell? ⟨w.heap.size, 1, none⟩ = some (.int .i64 xo) ∧ w'.cell? ⟨w.heap.size, 2, none⟩ = some (.slice sa xs.length ca) ∧ w'.cell? ⟨w.heap.size, 3, none⟩ = some (.bool xm)) ∧
        (w'.cell? ⟨w.heap.size + 1, 0, none⟩ = some (.int .i64 yn) ∧ w'.cell? ⟨w.heap.size + 1, 1, none⟩ = some (.int .i64 yo) ∧ w'.cell? ⟨w.heap.size + 1, 2, none⟩ = some (.slice sb ys.length cb) ∧ w'.cell? ⟨w.heap.size + 1, 3, none⟩ = some (.bool ym)) ∧ Below w.heap.size w w') := fun w' hb =>
      ⟨⟨cell_below hb ((cell_new1 rfl _ _ _ _).trans rfl), cell_below hb ((cell_new1 rfl _ _ _ _).trans rfl), cell_below hb ((cell_new1 rfl _ _ _ _).trans rfl), cell_below hb ((cell_new1 rfl _ _ _ _).trans rfl)⟩,
       ⟨cell_below hb ((cell_new2 rfl _ _ _ _).trans rfl), cell_below hb ((cell_new2 rfl _ _ _ _).trans rfl), cell_below hb ((cell_new2 rfl _ _ _ _).trans rfl), cell_below hb ((cell_new2 rfl _ _ _ _).trans rfl)⟩,
       ((((Below.refl _ _).alloc (Nat.le_refl _) _).alloc (by simp) _).trans (hb.mono (by simp; omega)))⟩
    have HL := Lib.hid hl
    rw [← hl] at HB n2
    rw [← hl]
    clear hl
    go_enter Tryz.func45, Tryz.ntmps45
    go_wp2
    go_loopw [16] (fun i w' => ∃ k : Nat, k ≤ xs.length ∧ i = .int .i64 k ∧ Below ((w.alloc (.cells #[.int .i64 xn, .int .i64 xo, .slice sa xs.length ca, .bool xm] 108)).alloc (.cells #[.int .i64 yn, .int .i64 yo, .slice sb xs.length cb, .bool ym] 108)).heap.size ((w.alloc (.cells #[.int .i64 xn, .int .i64 xo, .slice sa xs.length ca, .bool xm] 108)).alloc (.cells #[.int .i64 yn, .int .i64 yo, .slice sb xs.length cb, .bool ym] 108)) w' ∧ Hid (xs.take k = ys.take k)) (fun i _ => xs.length - (intOf i).toNat)
    case atStart => exact ⟨0, by omega, rfl, Below.refl _ _, rfl⟩
    case round =>
      obtain ⟨k, hk, rfl, hbl, HT⟩ := hrel
      have HBL := Lib.hid hbl
      obtain ⟨⟨a0, a1, a2, a3⟩, ⟨b0, b1, b2, b3⟩, hbw⟩ := HB.out wr hbl
      clear hbl
      by_cases hkl : k < xs.length
      · have hkl2 : k < ys.length := by have := HL.out; omega
        obtain ⟨g1, o1, c1, e1, _, _, _, hc1⟩ := u32_open (HR1.out wr hbw) (by omega)
        obtain ⟨g2, o2, c2, e2, _, _, _, hc2⟩ := u32_open (HR2.out wr hbw) (by omega)
        cases e1
        injection e2 with e2 e3 e4
        subst e2 e4
        have d1 := hc1 k hkl
        have d2 := hc2 k hkl2
        clear hc1 hc2 e3
        have HEQ : Hid (xs.getD k 0 = ys.getD k 0 → xs.take (k + 1) = ys.take (k + 1)) := takeD_succ hkl hkl2 HT.out
        have HNE : Hid (¬ xs.getD k 0 = ys.getD k 0 → ¬ (⟨xn, xo, xs, xm⟩ : TSrc) = ⟨yn, yo, ys, ym⟩) := fun h e => h (by injection e with _ _ e _; rw [e])
        by_cases he : xs.getD k 0 = ys.getD k 0
        · have HF := Lib.hid (HEQ.out he)
          rw [← he] at d2
          clear he HEQ HNE
          generalize xs.getD k 0 = u at *
          go_wp2
          go_quiet (fail)
          go_wp2
          go_roundw
          case rel => exact ⟨k + 1, by omega, by go_num, below_drewN HBL.out _, HF.out⟩
          case measure => simp [intOf]; omega
        · have HF := Lib.hid (HNE.out he)
          generalize xs.getD k 0 = u at *
          generalize ys.getD k 0 = v at *
          have hbq : (u != v) = true := by rw [bne_iff_ne]; exact he
          clear he HEQ HNE
          go_wp2
          go_quiet (fail)
          go_wp2
          go_ret
          exact ⟨ret_bool (by rw [decide_eq_false HF.out]), below_drewN hbw _⟩
      · have HE : Hid (xs = ys) := by
          have := HT.out
          rw [List.take_of_length_le (by omega), List.take_of_length_le (by have := HL.out; omega)] at this
          exact this
        by_cases e0 : xn = yn
        · by_cases e1 : xo = yo
          · by_cases e2 : xm = ym
            · have HF : Hid ((⟨xn, xo, xs, xm⟩ : TSrc) = ⟨yn, yo, ys, ym⟩) := by show _ = _; rw [e0, e1, e2, HE.out]
              subst e0 e1 e2
              go_wp2
              go_ret
              exact ⟨ret_bool (by rw [decide_eq_true HF.out]), hbw⟩
            · have HF : Hid (¬ (⟨xn, xo, xs, xm⟩ : TSrc) = ⟨yn, yo, ys, ym⟩) := fun e => e2 (by injection e)
              have hbq : (xm == ym) = false := by rw [beq_eq_false_iff_ne]; exact e2
              subst e0 e1
              go_wp2
              go_ret
              exact ⟨ret_bool (by rw [decide_eq_false HF.out]), hbw⟩
          · have HF : Hid (¬ (⟨xn, xo, xs, xm⟩ : TSrc) = ⟨yn, yo, ys, ym⟩) := fun e => e1 (by injection e)
            have hbq : (xo == yo) = false := by rw [beq_eq_false_iff_ne]; exact e1
            subst e0
            go_wp2
            go_ret
            exact ⟨ret_bool (by rw [decide_eq_false HF.out]), hbw⟩
        · have HF : Hid (¬ (⟨xn, xo, xs, xm⟩ : TSrc) = ⟨yn, yo, ys, ym⟩) := fun e => e0 (by injection e)
          have hbq : (xn == yn) = false := by rw [beq_eq_false_iff_ne]; exact e0
          go_wp2
          go_ret
          exact ⟨ret_bool (by rw [decide_eq_false HF.out]), hbw⟩
  · have HF : Hid (¬ (⟨xn, xo, xs, xm⟩ : TSrc) = ⟨yn, yo, ys, ym⟩) := fun e => hl (by injection e with _ _ e _; rw [e])
    have hb : ((xs.length : Int) != (ys.length : Int)) = true := by rw [bne_iff_ne]; omega
    have hb2 : (xs.length != ys.length) = true := by rw [bne_iff_ne]; omega
    go_enter Tryz.func45, Tryz.ntmps45
    go_wp2
    go_ret
    exact ⟨ret_bool (by rw [decide_eq_false HF.out]), ((Below.refl _ _).alloc (Nat.le_refl _) _).alloc (by simp) _⟩
end Go.Proofs.Rm
namespace Go.Proofs.Rm
open Go.RowKit Go.Proofs.Heap Go.Proofs.Mem
theorem slice_inj {a b : Option Addr} {n m c d : Nat} (h : Value.slice a n c = .slice b m d) : a = b ∧ c = d := by
  injection h with h1 h2 h3
  exact ⟨h1, h3⟩
theorem peer_at {w : World} {a : Option Addr} {c : Nat} {l : List TPeer} (h : Row w 103 (.slice a l.length c) l.length (l.flatMap peerCells)) (hl : 0 < l.length) : ∃ g off, a = some ⟨g, off, none⟩ ∧ ∀ (i : Nat) (x : TPeer), l[i]? = some x →
    w.cell? ⟨g, off + i * 2, none⟩ = some (.int .i64 x.num) ∧ w.cell? ⟨g, off + i * 2 + 1, none⟩ = some (.string (str x.name)) := by
  obtain ⟨g, off, cap, h1, _, _, _, h5⟩ := row_at peerCells 2 (fun _ => rfl) (by omega) h hl
  exact ⟨g, off, (slice_inj h1).1, fun i x hx => ⟨h5 i x hx 0 (by omega), h5 i x hx 1 (by omega)⟩⟩
theorem tsub_at {w : World} {a : Option Addr} {c : Nat} {l : List TSub} (h : Row w 105 (.slice a l.length c) l.length (l.flatMap tsubCells)) (hl : 0 < l.length) : ∃ g off, a = some ⟨g, off, none⟩ ∧ ∀ (i : Nat) (x : TSub), l[i]? = some x →
    w.cell? ⟨g, off + i * 4, none⟩ = some (.int .i64 x.peer) ∧ w.cell? ⟨g, off + i * 4 + 1, none⟩ = some (.int .i64 x.source) ∧ w.cell? ⟨g, off + i * 4 + 2, none⟩ = some (.int .i64 x.want) ∧ w.cell? ⟨g, off + i * 4 + 3, none⟩ = some (.bool x.paused) := by
  obtain ⟨g, off, cap, h1, _, _, _, h5⟩ := row_at tsubCells 4 (fun _ => rfl) (by omega) h hl
  exact ⟨g, off, (slice_inj h1).1, fun i x hx => ⟨h5 i x hx 0 (by omega), h5 i x hx 1 (by omega), h5 i x hx 2 (by omega), h5 i x hx 3 (by omega)⟩⟩
theorem tsrc_at {w : World} {a : Option Addr} {c : Nat} {l : List (TSrc × Value)} (h : Row w 108 (.slice a l.length c) l.length (l.flatMap tsrcCells)) (hl : 0 < l.length) : ∃ g off, a = some ⟨g, off, none⟩ ∧ ∀ (i : Nat) (x : TSrc × Value), l[i]? = some x →
    w.cell? ⟨g, off + i * 4, none⟩ = some (.int .i64 x.1.num) ∧ w.cell? ⟨g, off + i * 4 + 1, none⟩ = some (.int .i64 x.1.own) ∧ w.cell? ⟨g, off + i * 4 + 2, none⟩ = some x.2 ∧ w.cell? ⟨g, off + i * 4 + 3, none⟩ = some (.bool x.1.muted) := by
  obtain ⟨g, off, cap, h1, _, _, _, h5⟩ := row_at tsrcCells 4 (fun _ => rfl) (by omega) h hl
  exact ⟨g, off, (slice_inj h1).1, fun i x hx => ⟨h5 i x hx 0 (by omega), h5 i x hx 1 (by omega), h5 i x hx 2 (by omega), h5 i x hx 3 (by omega)⟩⟩
theorem take_all {α : Type} {a b : List α} {k : Nat} (h : a.take k = b.take k) (ha : a.length ≤ k) (hb : b.length ≤ k) : a = b := by
  rw [List.take_of_length_le ha, List.take_of_length_le hb] at h
  exact h
set_option maxRecDepth 100000 in
set_option maxHeartbeats 8000000 in
theorem SameTable_any (pv sv uv pv' sv' uv' : Value) (A B : Tab) (w : World) (h1 : TabAt w pv sv uv A) (h2 : TabAt w pv' sv' uv' B) :
    Calls Tryz.prog 20 #[.agg #[pv, sv, uv], .agg #[pv', sv', uv']] w fun e w' => e = .returned (.bool (decide (A = B))) ∧ Below w.heap.size w w' := by
  obtain ⟨P, S, U⟩ := A
  obtain ⟨P', S', U'⟩ := B
  obtain ⟨hp, ⟨ms, hms, hs, hr⟩, hu⟩ := h1
  obtain ⟨hp', ⟨ms', hms', hs', hr'⟩, hu'⟩ := h2
  dsimp only at *
  have m1 := hp.len
  have m2 := hs.len
  have m3 := hu.len
  obtain ⟨pa, pc, rfl, _⟩ := id hp
  obtain ⟨sa, sc, rfl, _⟩ := id hs
  obtain ⟨ua, uc, rfl, _⟩ := id hu
  obtain ⟨pa', pc', rfl, _⟩ := id hp'
  obtain ⟨sa', sc', rfl, _⟩ := id hs'
  obtain ⟨ua', uc', rfl, _⟩ := id hu'
  have HP : Hid (∀ w', Below w.heap.size w w' → Row w' 103 (.slice pa P.length pc) P.length (P.flatMap peerCells) ∧ Row w' 103 (.slice pa' P'.length pc') P'.length (P'.flatMap peerCells)) := fun w' hb => ⟨hp.below hb, hp'.below hb⟩
  have HU : Hid (∀ w', Below w.heap.size w w' → Row w' 105 (.slice ua U.length uc) U.length (U.flatMap tsubCells) ∧ Row w' 105 (.slice ua' U'.length uc') U'.length (U'.flatMap tsubCells)) := fun w' hb => ⟨hu.below hb, hu'.below hb⟩
  have HS : Hid (∀ w', Below w.heap.size w w' → Row w' 108 (.slice sa ms.length sc) ms.length (ms.flatMap tsrcCells) ∧ Row w' 108 (.slice sa' ms'.length sc') ms'.length (ms'.flatMap tsrcCells) ∧ (∀ m ∈ ms, Row w' 66 m.2 m.1.ss.length (u32s m.1.ss)) ∧ (∀ m ∈ ms', Row w' 66 m.2 m.1.ss.length (u32s m.1.ss))) := fun w' hb => ⟨hs.below hb, hs'.below hb, fun m hm => (hr m hm).below hb, fun m hm => (hr' m hm).below hb⟩
  have HMS := Lib.hid hms
  have HMS' := Lib.hid hms'
  have HT : Hid ((⟨P, S, U⟩ : Tab) = ⟨P', S', U'⟩ ↔ P = P' ∧ S = S' ∧ U = U') := by show _ ↔ _; rw [Tab.mk.injEq]
  have HSL : Hid (S.length = ms.length ∧ S'.length = ms'.length) := ⟨by rw [← hms, List.length_map], by rw [← hms', List.length_map]⟩
  clear hp hp' hs hs' hr hr' hu hu' hms hms'
  by_cases l1 : P.length = P'.length
  rotate_left
  · have HF : Hid (¬ (⟨P, S, U⟩ : Tab) = ⟨P', S', U'⟩) := fun e => l1 (by rw [(HT.out.1 e).1])
    have hb : ((P.length : Int) != (P'.length : Int)) = true := by rw [bne_iff_ne]; omega
    have hb2 : (P.length != P'.length) = true := by rw [bne_iff_ne]; omega
    go_enter Tryz.func20, Tryz.ntmps20
    go_wp2
    go_ret
    exact ⟨ret_bool (by rw [decide_eq_false HF.out]), ((Below.refl _ _).alloc (Nat.le_refl _) _).alloc (by simp) _⟩
  by_cases l2 : ms.length = ms'.length
  rotate_left
  · have HF : Hid (¬ (⟨P, S, U⟩ : Tab) = ⟨P', S', U'⟩) := fun e => l2 (by rw [← HSL.out.1, ← HSL.out.2, (HT.out.1 e).2.1])
    have hb : ((ms.length : Int) != (ms'.length : Int)) = true := by rw [bne_iff_ne]; omega
    have hb2 : (ms.length != ms'.length) = true := by rw [bne_iff_ne]; omega
    rw [← l1]
    clear l1
    go_enter Tryz.func20, Tryz.ntmps20
    go_wp2
    go_ret
    exact ⟨ret_bool (by rw [decide_eq_false HF.out]), ((Below.refl _ _).alloc (Nat.le_refl _) _).alloc (by simp) _⟩
  by_cases l3 : U.length = U'.length
  rotate_left
  · have HF : Hid (¬ (⟨P, S, U⟩ : Tab) = ⟨P', S', U'⟩) := fun e => l3 (by rw [(HT.out.1 e).2.2])
    have hb : ((U.length : Int) != (U'.length : Int)) = true := by rw [bne_iff_ne]; omega
    have hb2 : (U.length != U'.length) = true := by rw [bne_iff_ne]; omega
    rw [← l1, ← l2]
    clear l1 l2
    go_enter Tryz.func20, Tryz.ntmps20
    go_wp2
    go_ret
    exact ⟨ret_bool (by rw [decide_eq_false HF.out]), ((Below.refl _ _).alloc (Nat.le_refl _) _).alloc (by simp) _⟩
  have HL1 := Lib.hid l1
  have HL2 := Lib.hid l2
  have HL3 := Lib.hid l3
  rw [← l1, ← l2, ← l3]
  clear l1 l2 l3
  obtain ⟨box1, hbox1⟩ : ∃ o : Obj, o = .cells #[.slice pa P.length pc, .slice sa ms.length sc, .slice ua U.length uc] 51 := ⟨_, rfl⟩
  obtain ⟨box2, hbox2⟩ : ∃ o : Obj, o = .cells #[.slice pa' P.length pc', .slice sa' ms.length sc', .slice ua' U.length uc'] 51 := ⟨_, rfl⟩
  have HB : Hid (∀ w', Below ((w.alloc box1).alloc box2).heap.size ((w.alloc box1).alloc box2) w' →
        (w'.cell? ⟨w.heap.size, 0, none⟩ = some (.slice pa P.length pc) ∧ w'.cell? ⟨w.heap.size, 1, none⟩ = some (.slice sa ms.length sc) ∧ w'.cell? ⟨w.heap.size, 2, none⟩ = some (.slice ua U.length uc)) ∧
        (w'.cell? ⟨w.heap.size + 1, 0, none⟩ = some (.slice pa' P.length pc') ∧ w'.cell? ⟨w.heap.size + 1, 1, none⟩ = some (.slice sa' ms.length sc') ∧ w'.cell? ⟨w.heap.size + 1, 2, none⟩ = some (.slice ua' U.length uc')) ∧ Below w.heap.size w w') := fun w' hb => by
    subst hbox1 hbox2
    exact ⟨⟨cell_below hb ((cell_new1 rfl _ _ _ _).trans rfl), cell_below hb ((cell_new1 rfl _ _ _ _).trans rfl), cell_below hb ((cell_new1 rfl _ _ _ _).trans rfl)⟩,
       ⟨cell_below hb ((cell_new2 rfl _ _ _ _).trans rfl), cell_below hb ((cell_new2 rfl _ _ _ _).trans rfl), cell_below hb ((cell_new2 rfl _ _ _ _).trans rfl)⟩,
       ((((Below.refl _ _).alloc (Nat.le_refl _) _).alloc (by simp) _).trans (hb.mono (by simp; omega)))⟩
  have HB1 := Lib.hid hbox1
  have HB2 := Lib.hid hbox2
  obtain ⟨WW, hWW⟩ : ∃ W : World, W = ((w.alloc box1).alloc box2) := ⟨_, rfl⟩
  rw [← hWW] at HB
  have HW : Hid (WW = ((w.alloc (.cells #[.slice pa P.length pc, .slice sa ms.length sc, .slice ua U.length uc] 51)).alloc (.cells #[.slice pa' P.length pc', .slice sa' ms.length sc', .slice ua' U.length uc'] 51))) := by show _ = _; rw [hWW, hbox1, hbox2]
  clear hbox1 hbox2 hWW HB1 HB2
  go_enter Tryz.func20, Tryz.ntmps20
  go_wp2
  go_loopw [36] (fun i w' => ∃ k : Nat, k ≤ P.length ∧ i = .int .i64 k ∧ Below WW.heap.size WW w' ∧ Hid (P.take k = P'.take k)) (fun i _ => P.length - (intOf i).toNat)
  case atStart => exact ⟨0, by omega, rfl, by rw [HW.out]; exact Below.refl _ _, rfl⟩
  case round =>
    obtain ⟨k, hk, rfl, hbl, HTK⟩ := hrel
    have HBL := Lib.hid hbl
    obtain ⟨⟨a0, a1, a2⟩, ⟨b0, b1, b2⟩, hbw⟩ := HB.out wr hbl
    clear hbl
    by_cases hkl : k < P.length
    · have hkl2 : k < P'.length := by have := HL1.out; omega
      obtain ⟨g1, o1, e1, hc1⟩ := peer_at (HP.out wr hbw).1 (by omega)
      obtain ⟨g2, o2, e2, hc2⟩ := peer_at (HP.out wr hbw).2 (by omega)
      subst e1 e2
      obtain ⟨c0, c1⟩ := hc1 k P[k] (List.getElem?_eq_getElem hkl)
      obtain ⟨d0, d1⟩ := hc2 k P'[k] (List.getElem?_eq_getElem hkl2)
      clear hc1 hc2
      have HEQ : Hid (P[k] = P'[k] → P.take (k + 1) = P'.take (k + 1)) := take_eq_succ hkl hkl2 HTK.out
      have HNE : Hid (¬ P[k] = P'[k] → ¬ (⟨P, S, U⟩ : Tab) = ⟨P', S', U'⟩) := fun h e => h (by have := (HT.out.1 e).1; subst this; rfl)
      generalize P[k] = x at *
      generalize P'[k] = y at *
      obtain ⟨x0, x1⟩ := x
      obtain ⟨y0, y1⟩ := y
      dsimp only at c0 c1 d0 d1
      by_cases f0 : x0 = y0
      · by_cases f1 : x1 = y1
        · have HF := Lib.hid (HEQ.out (by rw [f0, f1]))
          subst f0 f1
          clear HEQ HNE
          go_wp2
          go_quiet (fail)
          go_wp2
          go_roundw
          case rel => exact ⟨k + 1, by omega, by go_num, below_drewN HBL.out _, HF.out⟩
          case measure => simp [intOf]; omega
        · have HF := Lib.hid (HNE.out (fun e => f1 (by injection e)))
          have hq : ((str x1).toList == (str y1).toList) = false := by rw [beq_eq_false_iff_ne, ByteArray.toList_eq, ByteArray.toList_eq]; exact f1
          subst f0
          clear HEQ HNE f1
          go_wp2
          go_quiet (fail)
          go_wp2
          go_ret
          exact ⟨ret_bool (by rw [decide_eq_false HF.out]), below_drewN hbw _⟩
      · have HF := Lib.hid (HNE.out (fun e => f0 (by injection e)))
        clear HEQ HNE
        go_wp2
        go_quiet (fail)
        go_wp2
        go_ret
        exact ⟨ret_bool (by rw [decide_eq_false HF.out]), below_drewN hbw _⟩
    · have HPP : Hid (P = P') := take_all HTK.out (by omega) (by have := HL1.out; omega)
      clear HTK
      obtain ⟨wo, rfl⟩ : ∃ wo : World, wo = wr := ⟨_, rfl⟩
      go_wp2
      go_loopw [54] (fun i w' => ∃ k : Nat, k ≤ U.length ∧ i = .int .i64 k ∧ Below WW.heap.size WW w' ∧ Hid (U.take k = U'.take k)) (fun i _ => U.length - (intOf i).toNat)
      case atStart => exact ⟨0, by omega, rfl, HBL.out, rfl⟩
      case round =>
        clear HBL a0 a1 a2 b0 b1 b2 hbw
        obtain ⟨k, hk, rfl, hbl, HTK⟩ := hrel
        have HBL := Lib.hid hbl
        obtain ⟨⟨a0, a1, a2⟩, ⟨b0, b1, b2⟩, hbw⟩ := HB.out wr hbl
        clear hbl
        by_cases hkl : k < U.length
        · have hkl2 : k < U'.length := by have := HL3.out; omega
          obtain ⟨g1, o1, e1, hc1⟩ := tsub_at (HU.out wr hbw).1 (by omega)
          obtain ⟨g2, o2, e2, hc2⟩ := tsub_at (HU.out wr hbw).2 (by omega)
          subst e1 e2
          obtain ⟨c0, c1, c2, c3⟩ := hc1 k U[k] (List.getElem?_eq_getElem hkl)
          obtain ⟨d0, d1, d2, d3⟩ := hc2 k U'[k] (List.getElem?_eq_getElem hkl2)
          clear hc1 hc2
          have HEQ : Hid (U[k] = U'[k] → U.take (k + 1) = U'.take (k + 1)) := take_eq_succ hkl hkl2 HTK.out
          have HNE : Hid (¬ U[k] = U'[k] → ¬ (⟨P, S, U⟩ : Tab) = ⟨P', S', U'⟩) := fun h e => h (by have := (HT.out.1 e).2.2; subst this; rfl)
          generalize U[k] = x at *
          generalize U'[k] = y at *
          obtain ⟨x0, x1, x2, x3⟩ := x
          obtain ⟨y0, y1, y2, y3⟩ := y
          dsimp only at c0 c1 c2 c3 d0 d1 d2 d3
          by_cases f0 : x0 = y0
          rotate_left
          · have HF := Lib.hid (HNE.out (fun e => f0 (by injection e)))
            clear HEQ HNE
            go_wp2
            go_quiet (fail)
            go_wp2
            go_ret
            exact ⟨ret_bool (by rw [decide_eq_false HF.out]), below_drewN hbw _⟩
          subst f0
          by_cases f1 : x1 = y1
          rotate_left
          · have HF := Lib.hid (HNE.out (fun e => f1 (by injection e)))
            clear HEQ HNE
            go_wp2
            go_quiet (fail)
            go_wp2
            go_ret
            exact ⟨ret_bool (by rw [decide_eq_false HF.out]), below_drewN hbw _⟩
          subst f1
          by_cases f2 : x2 = y2
          rotate_left
          · have HF := Lib.hid (HNE.out (fun e => f2 (by injection e)))
            clear HEQ HNE
            go_wp2
            go_quiet (fail)
            go_wp2
            go_ret
            exact ⟨ret_bool (by rw [decide_eq_false HF.out]), below_drewN hbw _⟩
          subst f2
          by_cases f3 : x3 = y3
          rotate_left
          · have HF := Lib.hid (HNE.out (fun e => f3 (by injection e)))
            have hq : (x3 == y3) = false := by rw [beq_eq_false_iff_ne]; exact f3
            clear HEQ HNE
            go_wp2
            go_quiet (fail)
            go_wp2
            go_ret
            exact ⟨ret_bool (by rw [decide_eq_false HF.out]), below_drewN hbw _⟩
          subst f3
          have HF := Lib.hid (HEQ.out rfl)
          clear HEQ HNE
          go_wp2
          go_quiet (fail)
          go_wp2
          go_roundw
          case rel => exact ⟨k + 1, by omega, by go_num, below_drewN HBL.out _, HF.out⟩
          case measure => simp [intOf]; omega
        · have HUU : Hid (U = U') := take_all HTK.out (by omega) (by have := HL3.out; omega)
          clear HTK
          obtain ⟨wo2, rfl⟩ : ∃ wo : World, wo = wr := ⟨_, rfl⟩
          go_wp2
          go_loopw [72] (fun i w' => ∃ k : Nat, k ≤ ms.length ∧ i = .int .i64 k ∧ Below WW.heap.size WW w' ∧ Hid ((ms.map Prod.fst).take k = (ms'.map Prod.fst).take k)) (fun i _ => ms.length - (intOf i).toNat)
          case atStart => exact ⟨0, by omega, rfl, HBL.out, rfl⟩
          case round =>
            clear HBL a0 a1 a2 b0 b1 b2 hbw
            obtain ⟨k, hk, rfl, hbl, HTK⟩ := hrel
            have HBL := Lib.hid hbl
            obtain ⟨⟨a0, a1, a2⟩, ⟨b0, b1, b2⟩, hbw⟩ := HB.out wr hbl
            clear hbl
            by_cases hkl : k < ms.length
            · have hkl2 : k < ms'.length := by have := HL2.out; omega
              obtain ⟨q1, q2, q3, q4⟩ := HS.out wr hbw
              obtain ⟨g1, o1, e1, hc1⟩ := tsrc_at q1 (by omega)
              obtain ⟨g2, o2, e2, hc2⟩ := tsrc_at q2 (by omega)
              subst e1 e2
              obtain ⟨c0, c1, c2, c3⟩ := hc1 k ms[k] (List.getElem?_eq_getElem hkl)
              obtain ⟨d0, d1, d2, d3⟩ := hc2 k ms'[k] (List.getElem?_eq_getElem hkl2)
              have r1 := q3 ms[k] (List.getElem_mem hkl)
              have r2 := q4 ms'[k] (List.getElem_mem hkl2)
              clear hc1 hc2 q1 q2 q3 q4
              have HEQ : Hid (ms[k].1 = ms'[k].1 → (ms.map Prod.fst).take (k + 1) = (ms'.map Prod.fst).take (k + 1)) := fun e => take_eq_succ (by rw [List.length_map]; exact hkl) (by rw [List.length_map]; exact hkl2) HTK.out (by rw [List.getElem_map, List.getElem_map]; exact e)
              have HNE : Hid (¬ ms[k].1 = ms'[k].1 → ¬ (⟨P, S, U⟩ : Tab) = ⟨P', S', U'⟩) := fun h e => h (by
                have h1 := (HT.out.1 e).2.1
                rw [← HMS.out, ← HMS'.out] at h1
                have h2 : (ms.map Prod.fst)[k]? = (ms'.map Prod.fst)[k]? := by rw [h1]
                rw [List.getElem?_map, List.getElem?_map, List.getElem?_eq_getElem hkl, List.getElem?_eq_getElem hkl2] at h2
                simpa using h2)
              generalize ms[k] = x at *
              generalize ms'[k] = y at *
              obtain ⟨x, xv⟩ := x
              obtain ⟨y, yv⟩ := y
              dsimp only at *
              obtain ⟨xa, xc, rfl, _⟩ := id r1
              obtain ⟨ya, yc, rfl, _⟩ := id r2
              have CS : Hid (∀ w1, Below wr.heap.size wr w1 → _) := fun w1 h => SameSource_any x y xa ya xc yc w1 (r1.below h) (r2.below h)
              clear r1 r2
              by_cases he : x = y
              · have HF := Lib.hid (HEQ.out he)
                rw [decide_eq_true he] at CS
                clear HEQ HNE he
                go_wp2
                go_still_tail 10, (by kernel_rfl)
                go_wp2_with (go_at_call 45; refine (CS.out _ (by repeat (first | exact Below.refl _ _ | refine Below.drew ?_))).mono ?_; rintro e w2 ⟨rfl, hb2⟩)
                go_roundw
                case rel => exact ⟨k + 1, by omega, by go_num, HBL.out.drew.trans (hb2.mono HBL.out.size), HF.out⟩
                case measure => simp [intOf]; omega
              · have HF := Lib.hid (HNE.out he)
                rw [decide_eq_false he] at CS
                clear HEQ HNE he
                go_wp2
                go_still_tail 10, (by kernel_rfl)
                go_wp2_with (go_at_call 45; refine (CS.out _ (by repeat (first | exact Below.refl _ _ | refine Below.drew ?_))).mono ?_; rintro e w2 ⟨rfl, hb2⟩)
                go_ret
                exact ⟨ret_bool (by rw [decide_eq_false HF.out]), hbw.drew.trans (hb2.mono hbw.size)⟩
            · have HF : Hid ((⟨P, S, U⟩ : Tab) = ⟨P', S', U'⟩) := HT.out.2 ⟨HPP.out, by rw [← HMS.out, ← HMS'.out]; exact take_all HTK.out (by rw [List.length_map]; omega) (by rw [List.length_map]; have := HL2.out; omega), HUU.out⟩
              go_wp2
              go_ret
              exact ⟨ret_bool (by rw [decide_eq_true HF.out]), hbw⟩
end Go.Proofs.Rm
