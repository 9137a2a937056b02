/- Several texts in one: The walks of package room, each function once: New, Gone. The frame of every law: from 'the call returns true and what was there stays' to the row's own post; what a slice of bools reads as. Over any program. The argument of a law that is a slice of operations, opened: it reads as a list of operations. The laws' first part: the operations of 'start', and what 'shown' asks. The walk of the law RoomKeeps, out of the contracts. Both rooms in memory, saying the same; an operation done to both. -/
import Derived.Below
import Derived.ChangeSame
import Derived.WideKeyArgs
import Derived.ChangeArms
import Derived.ChangeSlices
import Derived.WalkKit
import Derived.ProofKit
import Derived.OpenShut
import Derived.Carry
import Derived.Deep.Slices
import Derived.SizedLaws
import Derived.StillTailTactics
import Derived.Deep.RegionHeld3
import Derived.Test.YthlamfoldfeocaaDoorP02
import Derived.Test.YthlamfoldfeocaaDoorP03
import Derived.Test.YthlamfoldfeocaaDoorP04
import Derived.Test.YthlamfoldfeocaaDoorP05
import Derived.Test.YthlamfoldfeocaaDoorP07
import Derived.Test.YthlamfoldfeocaaDoorP17
import Derived.Test.YthlamfoldfeocaaDoorP19
namespace Go.Proofs.Rm
open Go.RowKit Go.Proofs.Heap Go.Proofs.Mem
theorem zeros_at : ∀ j, j < 297 → (((List.range 297).map (roomCell empty)).toArray)[j]? = some (roomCell empty j) := by
  intro j hj
  simp [hj]
set_option maxRecDepth 100000 in
set_option maxHeartbeats 2000000 in
theorem New_any (w : World) : Calls Tryd.prog 11 #[] w fun e w' => e = .returned (.pointer (some ⟨w.heap.size, 0, none⟩)) ∧ RoomAt w' w.heap.size empty ∧ Below w.heap.size w w' := by
  go_enter Tryd.func11, Tryd.ntmps11
  go_wp2
  go_ret
  have HZ : Tryd.zeroCells88 = ((List.range 297).map (roomCell empty)).toArray := by kernel_rfl
  refine ⟨rfl, ⟨⟨_, heap_new _ _, by rw [HZ]; simp, fun j hj => by rw [HZ]; exact zeros_at j hj⟩, fun n _ => Row.nil _ _⟩, below_alloc _ _⟩
theorem ofGo_lt (R : Room) (x : Int) : ∀ k n : Nat, n + k ≤ 9 → 0 ≤ (ofGo R x k n).1 ∧ (ofGo R x k n).1 < 9
  | 0, _, _ => by simp [ofGo]
  | k + 1, n, h => by
    unfold ofGo
    split
    · dsimp only; omega
    · exact ofGo_lt R x k (n + 1) (by omega)
theorem of_lt (R : Room) (x : Int) : 0 ≤ (of R x).1 ∧ (of R x).1 < 9 := ofGo_lt R x 9 0 (by omega)
set_option maxHeartbeats 2000000 in
theorem Gone_any (b : Nat) (R : Room) (p x : Int) (w : World) (hR : RoomAt w b R) :
    Calls Tryd.prog 29 #[.pointer (some ⟨b, 0, none⟩), .int .i64 p, .int .u32 x] w fun e w' =>
      (∃ v, e = .returned (.tuple #[v, .int .i64 (goneOp R p x).2]) ∧ TurnRow w' v (goneOp R p x).1.1) ∧ RoomAt w' b (goneOp R p x).1.2 ∧ Fr w.heap.size (· = b) w w' := by
  have hb := hR.lt
  have CO := Lib.hid (Of_any b R x w hR)
  have hlt := of_lt R x
  have HG : Hid (goneOp R p x = if !(of R x).2.2 || !joined R p || decide ((R.src (of R x).1.toNat).own ≠ p) then (([], R), 8) else (gone R (of R x).1.toNat, 0)) := rfl
  have HR : Hid (∀ w1, Below w.heap.size w w1 → RoomAt w1 b R) := fun w1 h => hR.below h
  clear hR
  generalize of R x = o at *
  obtain ⟨o1, o2, o3⟩ := o
  dsimp only at *
  obtain ⟨n, rfl⟩ := Int.eq_ofNat_of_zero_le hlt.1
  rw [Int.toNat_natCast] at HG
  have hn : n < 9 := by omega
  cases o3
  · have HF : Hid (goneOp R p x = (([], R), 8)) := by show _ = _; rw [HG.out]; rfl
    go_enter Tryd.func29, Tryd.ntmps29
    go_wp2_with (go_at_call 14; refine CO.out.mono ?_; rintro e w1 ⟨rfl, hb1⟩)
    go_ret2
    rw [HF.out]
    exact ⟨⟨_, rfl, Row.nil _ _⟩, HR.out _ hb1, Fr.of_below _ hb1⟩
  have CJ : Hid (∀ w1, Below w.heap.size w w1 → _) := fun w1 h => Joined_any b R p w1 (HR.out w1 h)
  have CG : Hid (∀ w1, Below w.heap.size w w1 → _) := fun w1 h => gone_any b R n w1 (HR.out w1 h) hn
  have HSC : Hid (∀ w1, Below w.heap.size w w1 → w1.cell? ⟨b, 9 + n * 5 + 1 + 1, none⟩ = some (.int .i64 (R.src n).own)) := fun w1 h => ((HR.out w1 h).srcc hn).2.2.1
  cases hj : joined R p
  · have HF : Hid (goneOp R p x = (([], R), 8)) := by show _ = _; rw [HG.out, hj]; rfl
    rw [hj] at CJ
    clear hj
    go_enter Tryd.func29, Tryd.ntmps29
    go_wp2_with (first | (go_at_call 14; refine CO.out.mono ?_; rintro e w1 ⟨rfl, hb1⟩) | (go_at_call 20; refine (CJ.out _ hb1).mono ?_; rintro e w2 ⟨rfl, rfl⟩))
    go_ret2
    rw [HF.out]
    exact ⟨⟨_, rfl, Row.nil _ _⟩, HR.out _ hb1, Fr.of_below _ hb1⟩
  rw [hj] at CJ HG
  clear hj
  by_cases ho : (R.src n).own = p
  · have HF : Hid (goneOp R p x = (gone R n, 0)) := by show _ = _; rw [HG.out]; simp [ho]
    rw [ho] at HSC
    clear ho HG
    generalize gone R n = G at *
    go_enter Tryd.func29, Tryd.ntmps29
    go_wp2_with (first | (go_at_call 14; refine CO.out.mono ?_; rintro e w1 ⟨rfl, hb1⟩; have hsc := HSC.out _ hb1) | (go_at_call 20; refine (CJ.out _ hb1).mono ?_; rintro e w2 ⟨rfl, rfl⟩) | (go_at_call 50; refine (CG.out _ hb1).mono ?_; rintro e w2 ⟨⟨tv, rfl, htr⟩, hroom, hfr⟩))
    go_ret2
    rw [HF.out]
    exact ⟨⟨_, rfl, htr⟩, hroom, (Fr.of_below _ hb1).trans (hfr.mono hb1.size (fun _ _ h => h))⟩
  · have HF : Hid (goneOp R p x = (([], R), 8)) := by show _ = _; rw [HG.out]; simp [ho]
    have hbq : ((R.src n).own != p) = true := by rw [bne_iff_ne]; exact ho
    clear ho HG
    go_enter Tryd.func29, Tryd.ntmps29
    go_wp2_with (first | (go_at_call 14; refine CO.out.mono ?_; rintro e w1 ⟨rfl, hb1⟩; have hsc := HSC.out _ hb1) | (go_at_call 20; refine (CJ.out _ hb1).mono ?_; rintro e w2 ⟨rfl, rfl⟩))
    go_ret2
    rw [HF.out]
    exact ⟨⟨_, rfl, Row.nil _ _⟩, HR.out _ hb1, Fr.of_below _ hb1⟩
end Go.Proofs.Rm
namespace Go.Proofs.Frame
open Go.RowKit Go.WideShapes Go.ChangeShapes
section
variable {H : Type} {enc : TypeId × Value → H} {P : Program}
/-- Arguments that were read read as they did, whatever happened above them. -/
theorem trodAll_stays (hl : laidOutB P = true) {W W' : World} {sp' : Nat → Bool} (hb : Below W.heap.size W W') : ∀ {ts : List TypeId} {vs : List Value} {ds : List (DataW H)} {ps : List MemPlace},
    (∀ t ∈ ts, P.readableRec t = true ∧ t < P.types.size) → DataW.TrodAll enc P W 0 (fun _ => true) true ts vs ds ps → (∀ p ∈ ps, p.block < W.heap.size) → (∀ p ∈ ps, sp' p.block = true) →
    DataW.TrodAll enc P W' 0 sp' true ts vs ds ps
  | [], [], [], _, _, h, _, _ => h
  | t :: ts, v :: vs, d :: ds, ps, ht, h, hlt, hsp => by
    obtain ⟨p, q, h1, h2, rfl⟩ := h
    refine ⟨p, q, ?_, ?_, rfl⟩
    · exact WideElems.Trod_stays hl (ht t (List.mem_cons_self ..)).1 (ht t (List.mem_cons_self ..)).2 h1 (fun x hx => hb.same (hlt x (List.mem_append.2 (Or.inl hx)))) (fun x hx => hsp x (List.mem_append.2 (Or.inl hx)))
    · exact trodAll_stays hl hb (fun t' h' => ht t' (List.mem_cons_of_mem _ h')) h2 (fun x hx => hlt x (List.mem_append.2 (Or.inr hx))) (fun x hx => hsp x (List.mem_append.2 (Or.inr hx)))
  | [], [], _ :: _, _, _, h, _, _ => h.elim
  | [], _ :: _, _, _, _, h, _, _ => h.elim
  | _ :: _, [], _, _, _, h, _, _ => h.elim
  | _ :: _, _ :: _, [], _, _, h, _, _ => h.elim
/-- A law's row: it returned true, and what was there stays. -/
theorem law_post {f : Func} {s : ChangeSpec} {apart fresh handsOn again : Bool} {W W' : World} {args : Array Value} {ds gs : List (DataW H)} {before : List MemPlace} {tb : TypeId}
    (hW : DataW.Whole enc P f.params.toList s.vars apart W args.toList ds gs before) (hl : laidOutB P = true) (ht : ∀ t ∈ f.params.toList, P.readableRec t = true ∧ t < P.types.size)
    (hv : s.vars = []) (hs : s.fn H (ds ++ gs) = { results := [.lit (.bool true)], args := ds }) (hres : f.resultTypes = #[tb]) (hbool : P.underlying tb = some .bool)
    (hb : Below W.heap.size W W') :
    s.post enc P f apart fresh handsOn again W args (.bool true) W' := by
  have hlt : ∀ p ∈ before, p.block < W.heap.size := fun p hp => hW.lt p hp
  have hold : ∀ p ∈ before, (fun b => decide (b < W.heap.size)) p.block = true := fun p hp => by simpa using hlt p hp
  have hW0 := hW
  obtain ⟨p, q, hA, hV, hpq, hz, hn⟩ := hW
  rw [hv] at hV
  obtain ⟨rfl, rfl⟩ := trodVars_none hV
  rw [List.append_nil] at hpq
  subst hpq
  have hargs : ∀ sp : Nat → Bool, (∀ p ∈ before, sp p.block = true) → DataW.TrodAll enc P W' 0 sp true f.params.toList args.toList (s.fn H (ds ++ [])).args before := by
    intro sp hsp
    rw [hs]
    exact trodAll_stays hl hb ht hA hlt hsp
  have hr : ∀ (b : Nat) (sp : Nat → Bool) (hd : Bool), DataW.TrodAll enc P W' b sp hd f.resultTypes.toList ((Value.bool true).resultList f.resultTypes.size) (s.fn H (ds ++ [])).results [] := by
    intro b sp hd
    rw [hs, hres]
    exact trodAll_cons_mk (shut_bool hbool _) trodAll_mk0
  have hvars : ∀ sp : Nat → Bool, (∀ p ∈ before, sp p.block = true) → DataW.TrodVars enc P W' sp s.vars (s.fn H (ds ++ [])).vars [] := by
    intro sp _
    rw [hs, hv]
    rfl
  have hok : ∀ (j : Nat) (t : TypeId) (r : Value), f.resultTypes[j]? = some t → ((Value.bool true).resultList f.resultTypes.size)[j]? = some r → Value.okWide P W' .any 0 t r := by
    exact ok_one hres rfl (okWide_bool_mk hbool _)
  refine ⟨ds, [], before, [], before, [], hW0, hr _ _ _, hargs _ hold, hvars _ hold, World.keptBut_mono (fun p hp => ⟨hp, ?_⟩) (hb.frame (· ∈ before)), fun _ => ?_⟩
  · simpa using hp
  · refine ⟨hok, _, _, ([] ++ before) ++ [], ⟨[] ++ before, [], trodAll_append (hargs _ (fun _ _ => rfl)) (hr _ _ _), hvars _ (fun _ _ => rfl), rfl, ?_, ?_⟩, ?_⟩
    · intro b off hp
      have hin : MemPlace.cell b off ∈ before := by simpa using hp
      rw [hb.frozen (hlt _ hin)]
      exact hz b off hin
    · intro ha
      simpa using hn ha
    · intro p hp _
      simpa using hp
/-- What a slice of bools reads as. -/
def BoolRow (w : World) (v : Value) (l : List Bool) : Prop :=
  ∃ a cap, v = .slice a l.length cap ∧ (∀ j, j < l.length → ∃ b off, a = some ⟨b, off, none⟩ ∧ b < w.heap.size ∧ w.cell? ⟨b, off + j, none⟩ = some (.bool (l.getD j false)))
theorem cells_slice {r : Reach} {b0 : Nat} {t e : TypeId} {W : World} {v : Value} (ht : P.underlying t = some (.slice e)) (h : Value.okWide P W r b0 t v) : v.cells = #[v] := by
  obtain ⟨a, l, c, rfl⟩ := okWide_slice ht h
  rfl
theorem open_bools {base : Nat} {sp : Nat → Bool} {held : Bool} {t e : TypeId} {W : World} {v : Value} {d : DataW H} {ps : List MemPlace} (ht : P.underlying t = some (.slice e)) (he : P.underlying e = some .bool) (hc : P.cellsOf e = 1)
    (hcl : v.cells = #[v]) (h : DataW.Trod enc P W base sp held t v d ps) : ∃ l, BoolRow W v l ∧ l.length < 9223372036854775808 := by
  obtain ⟨n, h⟩ := h
  rw [hcl] at h
  rcases DataW.trod_slice ht h with ⟨h1, _⟩ | ⟨a, len, cap, elems, rest, n', _, h1, _, _, hlc, hcm, hel, hall, _⟩
  · have : v = .slice none 0 0 := by simpa using h1
    exact ⟨[], ⟨none, 0, this, fun j hj => by simp at hj⟩, by simp⟩
  · have hv : v = .slice (some a) len cap := by simpa using h1
    have key : ∀ j, j < len → ∃ b, W.cell? (a.add j) = some (.bool b) := by
      intro j hj
      have := hall j hj
      rw [hc, Nat.mul_one, List.getElem?_eq_getElem (by omega)] at this
      cases hcs : W.cells? base (a.add j) 1 with
      | none => rw [hcs] at this; simp at this
      | some cs =>
        rw [hcs, Option.bind_some] at this
        obtain ⟨b, rfl, _⟩ := DataW.trod_bool he this
        exact ⟨b, cell_of_cells?_one hcs⟩
    refine ⟨(List.range len).map fun j => match W.cell? (a.add j) with | some (.bool b) => b | _ => false, ⟨some a, cap, by simpa using hv, ?_⟩, by rw [List.length_map, List.length_range]; unfold maxLen at hcm; omega⟩
    intro j hj
    simp only [List.length_map, List.length_range] at hj
    obtain ⟨b, hb⟩ := key j hj
    have h0 : a.spot = none := by
      obtain ⟨b0, hb0⟩ := key 0 (by omega)
      cases hs : a.spot with
      | none => rfl
      | some x => simp [World.cell?, Addr.add, hs] at hb0; split at hb0 <;> simp_all
    have ha : a = ⟨a.block, a.off, none⟩ := by cases a; simp_all
    have hadd : a.add j = ⟨a.block, a.off + j, none⟩ := by
      unfold Addr.add
      split
      · subst_vars; exact ha
      · rfl
    refine ⟨a.block, a.off, by rw [← ha], ?_, ?_⟩
    · rcases Nat.lt_or_ge a.block W.heap.size with h | h
      · exact h
      · rw [hadd] at hb; simp [World.cell?, Array.getElem?_eq_none h] at hb
    · rw [← hadd, hb]
      simp [hj, hb]
theorem bools_below {W W' : World} {v : Value} {l : List Bool} (h : BoolRow W v l) (hb : Below W.heap.size W W') : BoolRow W' v l := by
  obtain ⟨a, cap, hv, hall⟩ := h
  refine ⟨a, cap, hv, fun j hj => ?_⟩
  obtain ⟨b, off, h1, h2, h3⟩ := hall j hj
  exact ⟨b, off, h1, Nat.lt_of_lt_of_le h2 hb.size, by rw [hb.cell (p := ⟨b, off + j, none⟩) h2]; exact h3⟩
theorem reach_next {t : TypeId} {ts : List TypeId} {d : DataW H} {ds : List (DataW H)} (h : (DataW.weightsEach P (t :: ts) (d :: ds)).all (· ≤ reachBytes) = true) : (DataW.weightsEach P ts ds).all (· ≤ reachBytes) = true := by
  rw [DataW.weightsEach, List.all_append, Bool.and_eq_true] at h
  exact h.2
theorem reach_str {t : TypeId} {ts : List TypeId} {s : ByteArray} {ds : List (DataW H)} (h : (DataW.weightsEach P (t :: ts) (DataW.lit (.string s.data.toList) :: ds)).all (· ≤ reachBytes) = true) : s.size ≤ 140737488351232 := by
  rw [DataW.weightsEach, List.all_append, Bool.and_eq_true] at h
  have h1 := h.1
  rw [DataW.weights] at h1
  simp [reachBytes] at h1
  exact of_decide_eq_true h1
end
end Go.Proofs.Frame
namespace Go.Proofs.Rm
open Go.RowKit Go.WideShapes Go.ChangeShapes Go.Proofs.Heap Go.Proofs.Mem Go.Deep
/-- An operation, its two slices' values beside it. -/
structure OpV where
  o : Op
  sa : Option Addr
  sc : Nat
  ba : Option Addr
  bl : Nat
  bc : Nat
def opvCells (x : OpV) : List Value := [.int .i64 x.o.kind, .int .i64 x.o.peer, .int .i64 x.o.source, .int .i64 x.o.layer, .string (str x.o.name), .slice x.sa x.o.ssrcs.length x.sc, .slice x.ba x.bl x.bc]
/-- A slice value reads as operations. -/
structure OpsR (w : World) (v : Value) (l : List OpV) : Prop where
  row : RRow w v l.length (l.flatMap opvCells)
  each : ∀ x ∈ l, RRow w (.slice x.sa x.o.ssrcs.length x.sc) x.o.ssrcs.length (u32s x.o.ssrcs) ∧ x.o.name.length < 9223372036854775807
theorem OpsR.below {w w' : World} {v : Value} {l : List OpV} (h : OpsR w v l) (hb : Below w.heap.size w w') : OpsR w' v l := ⟨h.row.below hb, fun x hx => ⟨(h.each x hx).1.below hb, (h.each x hx).2⟩⟩
section
variable {H : Type} {enc : TypeId × Value → H} {W : World} {base : Nat} {sp : Nat → Bool} {held : Bool}
theorem spot_none {w : World} {a : Addr} {v : Value} (h : w.cell? a = some v) : a = ⟨a.block, a.off, none⟩ := by
  obtain ⟨b, o, s⟩ := a
  cases s with
  | none => rfl
  | some x => simp [World.cell?] at h; split at h <;> simp_all
theorem add_none {a : Addr} (h : a = ⟨a.block, a.off, none⟩) (j : Nat) : a.add j = ⟨a.block, a.off + j, none⟩ := by
  unfold Addr.add
  split
  · rename_i h0; subst h0; exact h
  · rw [h]
theorem trod_u32s {fuel : Nat} {v : Value} {x : DataW H × List MemPlace} (h : DataW.trod enc Tryd.prog W base sp held fuel 37 [v] = some x) : ∃ (l : List Int) (a : Option Addr) (c : Nat), v = .slice a l.length c ∧ RRow W (.slice a l.length c) l.length (u32s l) := by
  rcases open_slice1 Tryd.underlying37 (by kernel_rfl) h with ⟨hc, _⟩ | ⟨a, len, cap, m, n, V, D, Pl, hcs, hb, hl, hm, hmm, _, hx⟩
  · exact ⟨[], none, 0, by simpa using hc, RRow.nil _⟩
  · have hlm : len ≤ m := by rw [hmm]; split <;> omega
    have hv : v = .slice (some a) len cap := by simpa using hcs
    have key : ∀ i, i < len → ∃ z, W.cell? (a.add i) = some (.int .u32 z) ∧ V i = .int .u32 z := by
      intro i hi
      obtain ⟨h1, h2⟩ := hx i (by omega)
      obtain ⟨z, hz, _⟩ := DataW.trod_int Tryd.underlying23 h2
      have hz : V i = .int .u32 z := by simpa using hz
      exact ⟨z, by rw [h1, hz], hz⟩
    let l : List Int := (List.range len).map fun i => match V i with | .int _ z => z | _ => 0
    have hll : l.length = len := by simp [l]
    refine ⟨l, some a, cap, by rw [hll]; exact hv, some a, cap, rfl, by rw [hll]; exact hl, hm, (fun h => by cases h), ?_⟩
    by_cases h0 : len = 0
    · exact Or.inl (List.eq_nil_of_length_eq_zero (by rw [u32s_length, hll]; exact h0))
    · obtain ⟨z0, hz0, _⟩ := key 0 (by omega)
      have hz0' : W.cell? a = some (.int .u32 z0) := by unfold Addr.add at hz0; simpa using hz0
      have ha := spot_none hz0'
      refine Or.inr ⟨a.block, a.off, by rw [← ha], World.block_lt_of_cell? W a hz0', fun j hj => ?_⟩
      rw [u32s_length, hll] at hj
      obtain ⟨z, hz, hV⟩ := key j hj
      rw [← add_none ha, hz]
      simp [u32s, l, hj, hV]
theorem trod_slice_any {t e : TypeId} (ht : Tryd.prog.underlying t = some (.slice e)) {fuel : Nat} {v : Value} {x : DataW H × List MemPlace} (h : DataW.trod enc Tryd.prog W base sp held fuel t [v] = some x) : ∃ (a : Option Addr) (n c : Nat), v = .slice a n c := by
  rcases open_slice ht h with ⟨hc, _⟩ | ⟨a, len, cap, m, n, D, Pl, hcs, _⟩
  · exact ⟨none, 0, 0, by simpa using hc⟩
  · exact ⟨some a, len, cap, by simpa using hcs⟩
theorem seven {α : Type} {l : List α} (h : l.length = 7) : ∃ c0 c1 c2 c3 c4 c5 c6, l = [c0, c1, c2, c3, c4, c5, c6] := by
  obtain _ | ⟨c0, l⟩ := l
  · simp at h
  obtain _ | ⟨c1, l⟩ := l
  · simp at h
  obtain _ | ⟨c2, l⟩ := l
  · simp at h
  obtain _ | ⟨c3, l⟩ := l
  · simp at h
  obtain _ | ⟨c4, l⟩ := l
  · simp at h
  obtain _ | ⟨c5, l⟩ := l
  · simp at h
  obtain _ | ⟨c6, l⟩ := l
  · simp at h
  obtain _ | ⟨c7, l⟩ := l
  · exact ⟨_, _, _, _, _, _, _, rfl⟩
  · simp at h
set_option maxRecDepth 100000 in
/-- An operation as seven cells. -/
theorem trod_op {fuel : Nat} {cs : List Value} {x : DataW H × List MemPlace} (h : DataW.trod enc Tryd.prog W base sp held fuel 40 cs = some x) :
    ∃ y : OpV, cs = opvCells y ∧ RRow W (.slice y.sa y.o.ssrcs.length y.sc) y.o.ssrcs.length (u32s y.o.ssrcs) ∧ y.o.name.length ∈ x.1.weights Tryd.prog 40 := by
  obtain ⟨xs, n, _, hxx, hlen, hxl, hf⟩ := DataW.trod_struct Tryd.underlying40 h
  have hC : Tryd.prog.cellsOf 40 = 7 := by kernel_rfl
  have k1 : Tryd.prog.cellsOf 3 = 1 := by kernel_rfl
  have k2 : Tryd.prog.cellsOf 9 = 1 := by kernel_rfl
  have k3 : Tryd.prog.cellsOf 37 = 1 := by kernel_rfl
  have k4 : Tryd.prog.cellsOf 38 = 1 := by kernel_rfl
  rw [hC] at hlen
  obtain ⟨c0, c1, c2, c3, c4, c5, c6, rfl⟩ : ∃ c0 c1 c2 c3 c4 c5 c6, cs = [c0, c1, c2, c3, c4, c5, c6] := seven hlen
  clear h hC
  have hx : ∀ j, j < 7 → ∃ y, xs[j]? = some y := fun j hj => ⟨xs[j]'(by rw [hxl]; exact hj), List.getElem?_eq_getElem _⟩
  obtain ⟨y0, e0⟩ := hx 0 (by omega)
  obtain ⟨y1, e1⟩ := hx 1 (by omega)
  obtain ⟨y2, e2⟩ := hx 2 (by omega)
  obtain ⟨y3, e3⟩ := hx 3 (by omega)
  obtain ⟨y4, e4⟩ := hx 4 (by omega)
  obtain ⟨y5, e5⟩ := hx 5 (by omega)
  obtain ⟨y6, e6⟩ := hx 6 (by omega)
  have h0 : DataW.trod enc Tryd.prog W base sp held n 3 (([c0, c1, c2, c3, c4, c5, c6].drop 0).take (Tryd.prog.cellsOf 3)) = some y0 := (hf 0 _ rfl).trans e0
  have h1 : DataW.trod enc Tryd.prog W base sp held n 3 (([c0, c1, c2, c3, c4, c5, c6].drop 1).take (Tryd.prog.cellsOf 3)) = some y1 := (hf 1 _ rfl).trans e1
  have h2 : DataW.trod enc Tryd.prog W base sp held n 3 (([c0, c1, c2, c3, c4, c5, c6].drop 2).take (Tryd.prog.cellsOf 3)) = some y2 := (hf 2 _ rfl).trans e2
  have h3 : DataW.trod enc Tryd.prog W base sp held n 3 (([c0, c1, c2, c3, c4, c5, c6].drop 3).take (Tryd.prog.cellsOf 3)) = some y3 := (hf 3 _ rfl).trans e3
  have h4 : DataW.trod enc Tryd.prog W base sp held n 9 (([c0, c1, c2, c3, c4, c5, c6].drop 4).take (Tryd.prog.cellsOf 9)) = some y4 := (hf 4 _ rfl).trans e4
  have h5 : DataW.trod enc Tryd.prog W base sp held n 37 (([c0, c1, c2, c3, c4, c5, c6].drop 5).take (Tryd.prog.cellsOf 37)) = some y5 := (hf 5 _ rfl).trans e5
  have h6 : DataW.trod enc Tryd.prog W base sp held n 38 (([c0, c1, c2, c3, c4, c5, c6].drop 6).take (Tryd.prog.cellsOf 38)) = some y6 := (hf 6 _ rfl).trans e6
  rw [k1] at h0 h1 h2 h3
  rw [k2] at h4
  rw [k3] at h5
  rw [k4] at h6
  obtain ⟨z0, g0, _⟩ := DataW.trod_int Tryd.underlying3 h0
  obtain ⟨z1, g1, _⟩ := DataW.trod_int Tryd.underlying3 h1
  obtain ⟨z2, g2, _⟩ := DataW.trod_int Tryd.underlying3 h2
  obtain ⟨z3, g3, _⟩ := DataW.trod_int Tryd.underlying3 h3
  obtain ⟨s4, g4, gy4, hs4⟩ := DataW.trod_string Tryd.underlying9 h4
  obtain ⟨l5, a5, n5, g5, hr5⟩ := trod_u32s (v := c5) h5
  obtain ⟨a6, l6, n6, g6⟩ := trod_slice_any Tryd.underlying38 (v := c6) h6
  have g0 : c0 = .int .i64 z0 := by simpa using g0
  have g1 : c1 = .int .i64 z1 := by simpa using g1
  have g2 : c2 = .int .i64 z2 := by simpa using g2
  have g3 : c3 = .int .i64 z3 := by simpa using g3
  have g4 : c4 = .string s4 := by simpa using g4
  refine ⟨⟨⟨z0, z1, z2, z3, s4.data.toList, l5⟩, a5, n5, a6, l6, n6⟩, ?_, hr5, ?_⟩
  · rw [g0, g1, g2, g3, g4, g5, g6]; simp only [opvCells, str_eq]
  · rw [hxx]
    show _ ∈ DataW.weights Tryd.prog 40 (.agg (xs.map (·.1)))
    unfold DataW.weights
    rw [Tryd.underlying40]
    dsimp only
    refine DataW.weights_mem_each (j := 4) (t := 9) (d := .lit (.string s4.data.toList)) rfl ?_ _ (by simp [DataW.weights])
    rw [List.getElem?_map, e4, gy4]
    rfl
theorem weights_all {P : Program} {e : TypeId} : ∀ {l : List (DataW H)} {d : DataW H}, d ∈ l → ∀ n ∈ d.weights P e, n ∈ DataW.weightsAll P e l
  | d0 :: l, d, hd, n, hn => by
    simp only [DataW.weightsAll, List.mem_append]
    rcases List.mem_cons.1 hd with rfl | hd
    · exact Or.inl hn
    · exact Or.inr (weights_all hd n hn)
  | [], _, hd, _, _ => by simp at hd
theorem open_ops {t : TypeId} {v : Value} {d : DataW H} {ps : List MemPlace} (ht : Tryd.prog.underlying t = some (.slice 40)) (hcl : v.cells = #[v]) (h : DataW.Trod enc Tryd.prog W base sp held t v d ps) (hz : ∀ n ∈ d.weights Tryd.prog t, n ≤ reachBytes) : ∃ l, OpsR W v l := by
  obtain ⟨fuel, h⟩ := h
  rw [hcl] at h
  have hC : Tryd.prog.cellsOf 40 = 7 := by kernel_rfl
  rcases open_slice ht h with ⟨hc, _⟩ | ⟨a, len, cap, m, n, D, Pl, hcs, hb, hl, hm, hmm, hdx, hx⟩
  · have : v = .slice none 0 0 := by simpa using hc
    subst this
    exact ⟨[], RRow.nil _, fun x hx => by simp at hx⟩
  · have hlm : len ≤ m := by rw [hmm]; split <;> omega
    have hv : v = .slice (some a) len cap := by simpa using hcs
    subst hv
    have key : ∀ i, ∃ y : OpV, i < len → (∀ j, j < 7 → W.cell? ((a.add (i * 7)).add j) = (opvCells y)[j]?) ∧ RRow W (.slice y.sa y.o.ssrcs.length y.sc) y.o.ssrcs.length (u32s y.o.ssrcs) ∧ y.o.name.length < 9223372036854775807 := by
      intro i
      by_cases hi : i < len
      · obtain ⟨cs', h1, h2⟩ := hx i (by omega)
        rw [hC] at h1
        obtain ⟨_, hcl', hat⟩ := World.cells?_some h1
        obtain ⟨y, hy, hr, hn⟩ := trod_op h2
        have hn2 : y.o.name.length < 9223372036854775807 := by
          have hd : d = .slice ((List.range len).map D) ((List.range (m - len)).map fun j => D (len + j)) := by injection hdx
          have := hz y.o.name.length (by
            rw [hd]
            unfold DataW.weights
            rw [ht]
            refine List.mem_cons_of_mem _ (List.mem_append.2 (Or.inl (weights_all (List.mem_map.2 ⟨i, by simpa using hi, rfl⟩) _ hn)))) 
          have := Nat.lt_of_le_of_lt this reachBytes_lt
          omega
        refine ⟨y, fun _ => ⟨fun j hj => ?_, hr, hn2⟩⟩
        have := hat j hj
        rw [← hy, this]
      · exact ⟨⟨⟨0, 0, 0, 0, [], []⟩, none, 0, none, 0, 0⟩, fun h => absurd h hi⟩
    obtain ⟨Y, hY⟩ := Classical.axiomOfChoice key
    let l : List OpV := (List.range len).map Y
    have hll : l.length = len := by simp [l]
    refine ⟨l, ⟨some a, cap, by rw [hll], by rw [hll]; exact hl, hm, (fun h => by cases h), ?_⟩, ?_⟩
    · by_cases h0 : len = 0
      · exact Or.inl (by rw [List.eq_nil_of_length_eq_zero (hll.trans h0)]; rfl)
      · have hz := (hY 0 (by omega)).1 0 (by omega)
        have hz0 : W.cell? a = some (.int .i64 (Y 0).o.kind) := by simpa [Addr.add, opvCells] using hz
        have ha := spot_none hz0
        refine Or.inr ⟨a.block, a.off, by rw [← ha], World.block_lt_of_cell? W a hz0, fun j hj => ?_⟩
        have hfl : (l.flatMap opvCells).length = len * 7 := by rw [flat_length opvCells 7 (fun _ => rfl), hll]
        rw [hfl] at hj
        have hi : j / 7 < len := by omega
        have hli : l[j / 7]? = some (Y (j / 7)) := by simp [l, hi]
        have := flat_at opvCells 7 (fun _ => rfl) l (j / 7) (j % 7) _ hli (by omega)
        rw [show j / 7 * 7 + j % 7 = j by omega] at this
        rw [this, ← (hY (j / 7) hi).1 (j % 7) (by omega)]
        rw [add_none ha]
        unfold Addr.add
        split
        · rename_i e; rw [show a.off + j = a.off + j / 7 * 7 by omega]
        · rw [show a.off + j = a.off + j / 7 * 7 + j % 7 by omega]
    · intro x hx
      obtain ⟨i, hi, rfl⟩ := List.mem_map.1 hx
      exact (hY i (by simpa using hi)).2
end
end Go.Proofs.Rm
namespace Go.Proofs.Rm
open Go.RowKit Go.Proofs.Heap Go.Proofs.Mem
open Go.Proofs.Lab (may key Tabs)
/-- A slice value holds operations. -/
structure OpsRow (w : World) (v : Value) (l : List OpV) : Prop where
  row : Row w 40 v l.length (l.flatMap opvCells)
  each : ∀ x ∈ l, Row w 23 (.slice x.sa x.o.ssrcs.length x.sc) x.o.ssrcs.length (u32s x.o.ssrcs) ∧ x.o.name.length < 9223372036854775807
theorem OpsRow.below {w w' : World} {v : Value} {l : List OpV} (h : OpsRow w v l) (hb : Below w.heap.size w w') : OpsRow w' v l := ⟨h.row.below hb, fun x hx => ⟨(h.each x hx).1.below hb, (h.each x hx).2⟩⟩
theorem row_atR {α : Type} (f : α → List Value) (k : Nat) (hk : ∀ x, (f x).length = k) (hk0 : 0 < k) {w : World} {v : Value} {n : Nat} {l : List α} (h : RRow w v n (l.flatMap f)) (hl : 0 < l.length) :
    ∃ g off cap, v = .slice (some ⟨g, off, none⟩) n cap ∧ n ≤ cap ∧ cap ≤ maxLen ∧ g < w.heap.size ∧ ∀ (i : Nat) (x : α), l[i]? = some x → ∀ j, j < k → w.cell? ⟨g, off + i * k + j, none⟩ = (f x)[j]? := by
  have hfl := flat_length f k hk l
  obtain ⟨g, off, cap, h1, h2, h3, h4, h5⟩ := h.open (by rw [hfl]; exact Nat.mul_pos hl hk0)
  refine ⟨g, off, cap, h1, h2, h3, h4, fun i x hx j hj => ?_⟩
  have hi : i < l.length := (List.getElem?_eq_some_iff.1 hx).1
  have hlt : i * k + j < l.length * k := by
    have h6 : (i + 1) * k ≤ l.length * k := Nat.mul_le_mul_right _ hi
    rw [Nat.succ_mul] at h6
    omega
  rw [Nat.add_assoc, h5 _ (by rw [hfl]; exact hlt)]
  exact flat_at f k hk l i j x hx hj
theorem opsR_at {w : World} {a : Option Addr} {c : Nat} {l : List OpV} (h : OpsR w (.slice a l.length c) l) (hl : 0 < l.length) : ∃ g off, a = some ⟨g, off, none⟩ ∧ ∀ (i : Nat) (x : OpV), l[i]? = some x →
    w.cell? ⟨g, off + i * 7, none⟩ = some (.int .i64 x.o.kind) ∧ w.cell? ⟨g, off + i * 7 + 1, none⟩ = some (.int .i64 x.o.peer) ∧ w.cell? ⟨g, off + i * 7 + 2, none⟩ = some (.int .i64 x.o.source) ∧ w.cell? ⟨g, off + i * 7 + 3, none⟩ = some (.int .i64 x.o.layer) ∧ w.cell? ⟨g, off + i * 7 + 4, none⟩ = some (.string (str x.o.name)) ∧ w.cell? ⟨g, off + i * 7 + 5, none⟩ = some (.slice x.sa x.o.ssrcs.length x.sc) ∧ w.cell? ⟨g, off + i * 7 + 6, none⟩ = some (.slice x.ba x.bl x.bc) := by
  obtain ⟨g, off, cap, h1, _, _, _, h5⟩ := row_atR opvCells 7 (fun _ => rfl) (by omega) h.row hl
  exact ⟨g, off, (slice_inj h1).1, fun i x hx => ⟨h5 i x hx 0 (by omega), h5 i x hx 1 (by omega), h5 i x hx 2 (by omega), h5 i x hx 3 (by omega), h5 i x hx 4 (by omega), h5 i x hx 5 (by omega), h5 i x hx 6 (by omega)⟩⟩
theorem OpsRow.fr {w w' : World} {v : Value} {l : List OpV} {b : Nat} {R : Room} (h : OpsRow w v l) (hf : Fr w.heap.size (· = b) w w') (hR : RoomAt w b R) : OpsRow w' v l :=
  ⟨h.row.fr hf (Nat.le_refl _) (hR.typ (by decide)), fun x hx => ⟨(h.each x hx).1.fr hf (Nat.le_refl _) (hR.typ (by decide)), (h.each x hx).2⟩⟩
theorem ops_at {w : World} {a : Option Addr} {c : Nat} {l : List OpV} (h : OpsRow w (.slice a l.length c) l) (hl : 0 < l.length) : ∃ g off, a = some ⟨g, off, none⟩ ∧ ∀ (i : Nat) (x : OpV), l[i]? = some x →
    w.cell? ⟨g, off + i * 7, none⟩ = some (.int .i64 x.o.kind) ∧ w.cell? ⟨g, off + i * 7 + 1, none⟩ = some (.int .i64 x.o.peer) ∧ w.cell? ⟨g, off + i * 7 + 2, none⟩ = some (.int .i64 x.o.source) ∧ w.cell? ⟨g, off + i * 7 + 3, none⟩ = some (.int .i64 x.o.layer) ∧ w.cell? ⟨g, off + i * 7 + 4, none⟩ = some (.string (str x.o.name)) ∧ w.cell? ⟨g, off + i * 7 + 5, none⟩ = some (.slice x.sa x.o.ssrcs.length x.sc) ∧ w.cell? ⟨g, off + i * 7 + 6, none⟩ = some (.slice x.ba x.bl x.bc) := by
  obtain ⟨g, off, cap, h1, _, _, _, h5⟩ := row_at opvCells 7 (fun _ => rfl) (by omega) h.row hl
  exact ⟨g, off, (slice_inj h1).1, fun i x hx => ⟨h5 i x hx 0 (by omega), h5 i x hx 1 (by omega), h5 i x hx 2 (by omega), h5 i x hx 3 (by omega), h5 i x hx 4 (by omega), h5 i x hx 5 (by omega), h5 i x hx 6 (by omega)⟩⟩
/-- The room after some operations; the slice values of its sources are as they may be. -/
inductive Runs : List Op → Room → Prop
  | nil : Runs [] empty
  | snoc {l : List Op} {R : Room} (o : Op) (sv : Value) : Runs l R → Runs (l ++ [o]) (doo R o sv).1.2
theorem Runs.inv {l : List Op} {R : Room} (h : Runs l R) : Inv R := by
  induction h with
  | nil => exact inv_empty
  | snoc o sv _ ih => exact inv_doo ih o sv
theorem inv_short {R : Room} (h : Inv R) : ∀ n, (R.src n).there = true → (R.src n).ss.length ≤ 1000000 := fun n ht => by have := (h.srcAt n ht).2.2.2.2.2.1; omega
/-- Of a room that keeps what is not there empty, every list of SSRCs is short. -/
structure Slim (R : Room) : Prop where
  short : ∀ n, (R.src n).ss.length ≤ 1000000
theorem slim_setSrc {R : Room} (h : Slim R) (n : Nat) (x : Src) (hx : x.ss.length ≤ 1000000) : Slim (R.setSrc n x) := ⟨fun m => by rw [setSrc_src]; split; exact hx; exact h.short m⟩
theorem slim_gone {R : Room} (h : Slim R) (n : Nat) : Slim (gone R n).2 := ⟨fun m => by rw [gone_src]; split; exact Nat.zero_le _; exact h.short m⟩
theorem slim_leave {R : Room} (h : Slim R) (p : Nat) : Slim (leave R p).2 := by
  have h1 : Slim (leave1 p R 9).2 := ⟨fun m => by rw [(leave1_names R p 9).2]; exact h.short m⟩
  exact ⟨fun m => by show ((leave2 (leave1 p R 9).2 p 9).2.src m).ss.length ≤ _; rw [leave2_src]; split; exact Nat.zero_le _; exact h1.short m⟩
theorem slim_turns {R : Room} {o : Op} (h : Slim R) (ok : Ok R o) (sv : Value) : Slim (turns R o sv).2 := by
  unfold turns
  dsimp only
  by_cases k2 : o.kind = 2
  · rw [if_pos k2]; exact ⟨h.short⟩
  rw [if_neg k2]
  by_cases k3 : o.kind = 3
  · rw [if_pos k3]; exact slim_leave h _
  rw [if_neg k3]
  by_cases k4 : o.kind = 4
  · rw [if_pos k4]; exact slim_setSrc h _ _ (by have := (pub_ok (ok.pub k4)).2.1; show o.ssrcs.length ≤ _; omega)
  rw [if_neg k4]
  by_cases k5 : o.kind = 5
  · rw [if_pos k5]; exact slim_gone h _
  rw [if_neg k5]
  by_cases k6 : o.kind = 6
  · rw [if_pos k6]; exact ⟨h.short⟩
  rw [if_neg k6]
  by_cases k7 : o.kind = 7
  · rw [if_pos k7]; exact ⟨h.short⟩
  rw [if_neg k7]
  by_cases k8 : o.kind = 8
  · rw [if_pos k8]; exact slim_setSrc h _ _ (h.short _)
  rw [if_neg k8]
  by_cases k9 : o.kind = 9
  · rw [if_pos k9]; exact slim_setSrc h _ _ (h.short _)
  rw [if_neg k9]
  split
  · exact ⟨h.short⟩
  split
  · exact ⟨h.short⟩
  split
  · exact ⟨h.short⟩
  · exact h
theorem slim_doo {R : Room} (h : Slim R) (o : Op) (sv : Value) : Slim (doo R o sv).1.2 := by
  unfold doo
  by_cases h0 : wrong R o = 0
  · rw [if_neg (by simpa using h0)]; exact slim_turns h (wrong_ok h0) sv
  · rw [if_pos h0]; exact h
theorem slim_empty : Slim empty := ⟨fun _ => Nat.zero_le _⟩
theorem slim_goneOp {R : Room} (h : Slim R) (p x : Int) : Slim (goneOp R p x).1.2 := by
  unfold goneOp
  split
  · exact h
  · exact slim_gone h _
def op1 : Op := ⟨2, 1, 0, 0, [97, 110, 110], []⟩
def op2 : Op := ⟨2, 2, 0, 0, [98, 111, 98], []⟩
def op3 : Op := ⟨4, 1, 3, 0, [], [10, 11]⟩
def op4 : Op := ⟨6, 2, 3, 1, [], []⟩
def op5 : Op := ⟨2, 3, 0, 0, [65, 78, 78], []⟩
end Go.Proofs.Rm
namespace Go.Proofs.Rm
open Go.RowKit Go.Proofs.Heap Go.Proofs.Mem
open Go.Proofs.Lab (may key Tabs)
theorem doo_wrong {R : Room} {o : Op} {sv : Value} (h : (doo R o sv).2 ≠ 0) : (doo R o sv).1 = ([], R) := by
  unfold doo at h ⊢
  by_cases h0 : wrong R o = 0
  · rw [if_neg (by simpa using h0)] at h; exact absurd rfl h
  · rw [if_pos h0]
theorem fr_below {B b : Nat} {w3 w5 : World} (h : Fr w3.heap.size (· = b) w3 w5) (hb : B ≤ b) (h3 : B ≤ w3.heap.size) : Below B w3 w5 := Fr.below (h.mono h3 (fun k hk hs => by have hs : k = b := hs; omega))
theorem fr_alloc {b : Nat} {w3 w5 : World} {o : Obj} (h : Fr (w3.alloc o).heap.size (· = b) (w3.alloc o) w5) : Fr w3.heap.size (· = b) w3 w5 := (Fr.of_below _ (below_alloc w3 o)).trans (h.mono (by simp) (fun _ _ h => h))
set_option maxRecDepth 100000 in
set_option maxHeartbeats 8000000 in
theorem RoomKeeps_any (v : Value) (l : List OpV) (w : World) (hT : Tabs w) (hv : OpsR w v l)
    (hsh : ∀ w, Tabs w → Calls Tryd.prog 10 #[] w fun e w' => e = .returned (.bool true) ∧ Below w.heap.size w w') :
    Calls Tryd.prog 5 #[v] w fun e w' => e = .returned (.bool true) ∧ Below w.heap.size w w' := by
  have hlen := hv.row.len
  obtain ⟨va, vc, rfl, _⟩ := id hv.row
  have HSH := Lib.hid (hsh w hT)
  have HT : Hid (∀ w', Below w.heap.size w w' → Tabs w') := fun w' h => Utf8Tabs_below hT h
  have HV : Hid (∀ w', Below w.heap.size w w' → OpsR w' (.slice va l.length vc) l) := fun w' h => hv.below h
  clear hsh hT hv
  go_enter Tryd.func5, Tryd.ntmps5
  go_wp2_with fail
  refine HSH.out.mono ?_
  rintro e w1 ⟨rfl, hb1⟩
  have HB1 := Lib.hid hb1
  have hz1 := hb1.size
  clear hb1
  go_wp2_with fail
  refine (New_any _).mono ?_
  rintro e w2 ⟨rfl, hroom, hb2⟩
  have HBEL := Lib.hid (HB1.out.trans (hb2.mono HB1.out.size))
  have HROOM := Lib.hid hroom
  have hbw : w.heap.size ≤ w1.heap.size := hz1
  clear hroom hb2
  generalize w1.heap.size = b at *
  go_wp2_with fail
  go_loopw [4] (fun i w' => ∃ k : Nat, k ≤ l.length ∧ i = .int .i64 k ∧ Below w.heap.size w w' ∧ ∃ R, Inv R ∧ Slim R ∧ RoomAt w' b R) (fun i _ => l.length - (intOf i).toNat)
  case atStart => exact ⟨0, Nat.zero_le _, rfl, HBEL.out, empty, inv_empty, slim_empty, HROOM.out⟩
  case round =>
    clear HROOM HBEL
    obtain ⟨k, hk, rfl, hbl, R, hinv, hslim, hroom⟩ := hrel
    have HBL := Lib.hid hbl
    have HINV := Lib.hid hinv
    have HSL := Lib.hid hslim
    have HROOM := Lib.hid hroom
    have hsz := hbl.size
    clear hbl hinv hslim hroom
    by_cases hkl : k < l.length ∧ k < 80
    · obtain ⟨hkl, hk80⟩ := hkl
      obtain ⟨g, off, rfl, hcells⟩ := opsR_at (HV.out _ HBL.out) (by omega)
      clear hcells
      go_wp2_with fail
      refine (Table_any b R _ HROOM.out HSL.out.short).mono ?_
      rintro e w3 ⟨⟨pv, sv, uv, rfl, htab⟩, hb3⟩
      have HTAB := Lib.hid htab
      obtain ⟨⟨pa, pc, rfl, _⟩, ⟨ms, _, ⟨sa, sc, rfl, _⟩, _⟩, ⟨ua, uc, rfl, _⟩⟩ := id htab
      clear htab
      have HROOM3 := Lib.hid (HROOM.out.below hb3)
      have HBL3 := Lib.hid (HBL.out.trans (hb3.mono HBL.out.size))
      have HOPS3 := Lib.hid (HV.out _ HBL3.out)
      have hs3 := HBL3.out.size
      obtain ⟨g', off', e1, hcells⟩ := opsR_at HOPS3.out (by omega)
      cases e1
      have hx := hcells k l[k] (List.getElem?_eq_getElem hkl)
      have HXR := Lib.hid (HOPS3.out.each l[k] (List.getElem_mem hkl))
      clear hcells hb3
      generalize l[k] = x at *
      obtain ⟨o, xa, xc, ya, yl, yc⟩ := x
      dsimp only at hx HXR
      obtain ⟨c0, c1, c2, c3, c4, c5, c6⟩ := hx
      have hgl : g < w3.heap.size := World.block_lt_of_cell? w3 ⟨g, off + k * 7, none⟩ c0
      have CD : Hid (∀ w4, Below w3.heap.size w3 w4 → Calls Tryd.prog 12 #[.pointer (some ⟨b, 0, none⟩), .agg #[.int .i64 o.kind, .int .i64 o.peer, .int .i64 o.source, .int .i64 o.layer, .string (str o.name), .slice xa o.ssrcs.length xc, .slice ya yl yc]] w4 (DoPost b R o w4)) :=
        fun w4 h => Do_any b R o xa ya xc yl yc w4 (HROOM3.out.below h) HINV.out (HT.out _ (HBL3.out.trans (h.mono HBL3.out.size))) HXR.out.2 (HXR.out.1.below h)
      go_wp2_with fail
      refine (CD.out _ (below_alloc _ _)).mono ?_
      rintro e w5 ⟨tv, sv', rfl, htr, hroom5, hfr5⟩
      have HINV5 := Lib.hid (inv_doo HINV.out o sv')
      have HSL5 := Lib.hid (slim_doo HSL.out o sv')
      have HDW : Hid ((doo R o sv').2 ≠ 0 → (doo R o sv').1 = ([], R)) := fun h => doo_wrong h
      have HROOM5 := Lib.hid hroom5
      have HTR := Lib.hid htr
      have HFR5 := Lib.hid (fr_alloc hfr5)
      have HBL5 : Hid (Below w.heap.size w w5) := HBL3.out.trans (fr_below HFR5.out hbw HBL3.out.size)
      have hb3 : w3.heap.size ≠ b := by have := HROOM3.out.lt; omega
      have hs5 : w3.heap.size < w5.heap.size := by have := hfr5.size; simp at this; omega
      have k0 : w5.cell? ⟨w3.heap.size, 0, none⟩ = some (.slice pa (table R).peers.length pc) := (hfr5.cell (p := ⟨w3.heap.size, 0, none⟩) (by simp) hb3).trans (by simp)
      have k1 : w5.cell? ⟨w3.heap.size, 1, none⟩ = some (.slice sa ms.length sc) := (hfr5.cell (p := ⟨w3.heap.size, 1, none⟩) (by simp) hb3).trans (by simp)
      have k2 : w5.cell? ⟨w3.heap.size, 2, none⟩ = some (.slice ua (table R).subs.length uc) := (hfr5.cell (p := ⟨w3.heap.size, 2, none⟩) (by simp) hb3).trans (by simp)
      have HTAB5 : Hid (TabAt w5 (.slice pa (table R).peers.length pc) (.slice sa ms.length sc) (.slice ua (table R).subs.length uc) (table R)) := HTAB.out.fr HFR5.out (Nat.le_refl _) (HROOM3.out.typ (by decide)) (HROOM3.out.typ (by decide)) (HROOM3.out.typ (by decide)) (HROOM3.out.typ (by decide))
      obtain ⟨ta, tc, rfl, _⟩ := id htr
      clear hroom5 hfr5 htr
      by_cases he : (doo R o sv').2 = 0
      · rw [he]
        clear he HDW
        generalize (doo R o sv').1.1 = D1 at *
        generalize (doo R o sv').1.2 = D2 at *
        go_wp2
        go_quiet (fail)
        go_wp2
        go_roundw
        case rel => exact ⟨k + 1, by omega, by go_num, below_drewN HBL5.out _, D2, HINV5.out, HSL5.out, RoomAt.drewN HROOM5.out _⟩
        case measure => simp [intOf]; omega
      · have HD := Lib.hid (HDW.out he)
        have hd1 : (doo R o sv').1.1 = [] := by rw [HD.out]
        have hd2 : (doo R o sv').1.2 = R := by rw [HD.out]
        rw [hd2] at HROOM5 HINV5 HSL5
        rw [hd1]
        rw [hd1] at HTR
        have hbq : ((doo R o sv').2 != 0) = true := by rw [bne_iff_ne]; exact he
        clear he HDW HD hd1 hd2
        generalize (doo R o sv').2 = er at *
        go_wp2
        go_region_held3 (fun w' => w'.cell? ⟨w3.heap.size, 0, none⟩ = some (.slice pa (table R).peers.length pc) ∧ w'.cell? ⟨w3.heap.size, 1, none⟩ = some (.slice sa ms.length sc) ∧ w'.cell? ⟨w3.heap.size, 2, none⟩ = some (.slice ua (table R).subs.length uc) ∧ Below w5.heap.size w5 w') ((go_split_ands; ((repeat' apply And.intro) <;> first | with_reducible assumption | ((with_reducible apply cell_drew); with_reducible assumption) | (exact (Below.refl _ _).drew)))) (first | (go_at_call 25; go_split_ands; refine Calls.mono (Table_any b R _ (HROOM5.out.below (by with_reducible assumption)) HSL5.out.short) ?_; rintro e w6 ⟨⟨pv', sv2, uv', rfl, htab6⟩, hb6⟩; have HTAB6 := Lib.hid htab6; clear htab6; have q0 := cell_below (a := ⟨w3.heap.size, 0, none⟩) hb6 (by with_reducible assumption); have q1 := cell_below (a := ⟨w3.heap.size, 1, none⟩) hb6 (by with_reducible assumption); have q2 := cell_below (a := ⟨w3.heap.size, 2, none⟩) hb6 (by with_reducible assumption); have q3 : Below w5.heap.size w5 w6 := Below.trans (by with_reducible assumption) (hb6.mono (by simp))) | (go_at_call 26; go_split_ands; refine Calls.mono (SameTable_any _ _ _ _ _ _ (table R) (table R) _ (HTAB5.out.below (by with_reducible assumption)) HTAB6.out) ?_; rintro e w7 ⟨rfl, hb7⟩; have q0 := cell_below (a := ⟨w3.heap.size, 0, none⟩) hb7 (by with_reducible assumption); have q1 := cell_below (a := ⟨w3.heap.size, 1, none⟩) hb7 (by with_reducible assumption); have q2 := cell_below (a := ⟨w3.heap.size, 2, none⟩) hb7 (by with_reducible assumption); have q7 : Below w5.heap.size w5 w7 := Below.trans q3 (hb7.mono q3.size)))
        go_wp2
        refine ⟨⟨k + 1, by omega, by go_num, HBL5.out.trans (q7.mono HBL5.out.size), R, HINV5.out, HSL5.out, HROOM5.out.below q7⟩, by simp [intOf]; omega⟩
    · have hcase : ¬ k < l.length ∨ (k < l.length ∧ ¬ k < 80) := by omega
      rcases hcase with h1 | ⟨h1, h2⟩
      · clear hkl
        go_wp2
        go_ret
        exact ⟨rfl, HBL.out⟩
      · clear hkl
        go_wp2
        go_ret
        exact ⟨rfl, HBL.out⟩
end Go.Proofs.Rm
namespace Go.Proofs.Rm
open Go.RowKit Go.Proofs.Heap Go.Proofs.Mem
open Go.Proofs.Lab (may key Tabs)
open Go.Proofs.Assoc
theorem uniq_len {α κ : Type} [DecidableEq κ] (key : α → κ) : ∀ (l : List α) (K : List κ), Uniq key l → (∀ x ∈ l, key x ∈ K) → l.length ≤ K.length
  | [], _, _, _ => Nat.zero_le _
  | x :: l, K, hu, hk => by
    obtain ⟨h1, h2⟩ := (uniq_cons key).1 hu
    have hx := hk x (List.mem_cons_self ..)
    have := uniq_len key l (K.erase (key x)) h2 (fun y hy => (List.mem_erase_of_ne (h1 y hy)).2 (hk y (List.mem_cons_of_mem _ hy)))
    rw [List.length_erase_of_mem hx] at this
    have hp : 0 < K.length := List.length_pos_of_mem hx
    rw [List.length_cons]; omega
theorem Sim.small {T : Tab} {R : Room} (h : Sim T R) : T.Small := by
  have hm : ∀ n : Int, 1 ≤ n → n < 9 → n ∈ [(1 : Int), 2, 3, 4, 5, 6, 7, 8] := fun n h1 h2 => by
    have : n = 1 ∨ n = 2 ∨ n = 3 ∨ n = 4 ∨ n = 5 ∨ n = 6 ∨ n = 7 ∨ n = 8 := by omega
    rcases this with rfl | rfl | rfl | rfl | rfl | rfl | rfl | rfl <;> simp
  refine ⟨?_, ?_, ?_⟩
  · refine Nat.le_trans (uniq_len TPeer.num T.peers [1, 2, 3, 4, 5, 6, 7, 8] h.up fun x hx => ?_) (by decide)
    obtain ⟨n, hn, rfl⟩ := h.mem_peer.1 hx
    have := joined_iff.1 hn
    exact hm n this.1 this.2.1
  · refine Nat.le_trans (uniq_len TSrc.num T.srcs [1, 2, 3, 4, 5, 6, 7, 8] h.us fun x hx => ?_) (by decide)
    obtain ⟨n, hn, rfl⟩ := h.mem_src.1 hx
    have := hasI_iff.1 hn
    exact hm n this.1 this.2.1
  · refine Nat.le_trans (uniq_len uk T.subs ([(1 : Int), 2, 3, 4, 5, 6, 7, 8].flatMap fun p => [(1 : Int), 2, 3, 4, 5, 6, 7, 8].map fun n => (p, n)) h.uu fun x hx => ?_) (by decide)
    have := hears_iff.1 (h.mem_sub.1 hx).1
    rw [List.mem_flatMap]
    exact ⟨x.peer, hm _ this.1 this.2.1, List.mem_map.2 ⟨x.source, hm _ this.2.2.1 this.2.2.2.1, rfl⟩⟩
theorem Sim.names {T : Tab} {R : Room} (h : Sim T R) (hI : Inv R) : ∀ x ∈ T.peers, x.name.length < 9223372036854775807 := fun x hx => by
  obtain ⟨n, _, rfl⟩ := h.mem_peer.1 hx
  exact names_short hI _
theorem sim_empty : Sim ⟨[], [], []⟩ empty := by
  have hj : ∀ p, joined empty p = false := fun p => by rw [Bool.eq_false_iff, ne_eq, joined_iff]; rintro ⟨_, _, h⟩; exact h rfl
  have hs : ∀ n, hasI empty n = false := fun n => by rw [Bool.eq_false_iff, ne_eq, hasI_iff]; rintro ⟨_, _, h⟩; cases h
  have hh : ∀ p n, hears empty p n = false := fun p n => by rw [Bool.eq_false_iff, ne_eq, hears_iff]; rintro ⟨_, _, _, _, h⟩; cases h
  exact ⟨List.nodup_nil, List.nodup_nil, List.nodup_nil, fun p => by rw [hj]; rfl, fun n => by rw [hs]; rfl, fun p n => by rw [hh]; rfl⟩
/-- Block ba holds the room R, block bb the reference's room T; they say the same. -/
structure Both (w : World) (ba bb : Nat) (R : Room) (T : Tab) : Prop where
  inv : Inv R
  slim : Slim R
  room : RoomAt w ba R
  ref : RefAt w bb T
  sim : Sim T R
theorem Both.below {w w' : World} {ba bb : Nat} {R : Room} {T : Tab} (h : Both w ba bb R T) (hb : Below w.heap.size w w') : Both w' ba bb R T := ⟨h.inv, h.slim, h.room.below hb, h.ref.below hb, h.sim⟩
theorem Both.ne {w : World} {ba bb : Nat} {R : Room} {T : Tab} (h : Both w ba bb R T) : ba ≠ bb := by
  intro e
  subst e
  obtain ⟨c, hc, _⟩ := h.room.cells
  exact h.ref.typ (e := 88) (by decide) ba _ _ rfl hc
theorem ref_room {w w' : World} {ba bb : Nat} {R : Room} {T : Tab} (h : RefAt w bb T) (hR : RoomAt w ba R) (hf : Fr w.heap.size (· = ba) w w') : RefAt w' bb T := by
  have hlt := h.lt
  have hne : bb ≠ ba := by
    intro e; subst e
    obtain ⟨c, hc, _⟩ := hR.cells
    exact h.typ (e := 88) (by decide) bb _ _ rfl hc
  obtain ⟨pv, sv, uv, hc, ht⟩ := h.vals
  exact ⟨pv, sv, uv, by rw [hf.block bb hlt hne]; exact hc, ht.fr hf (Nat.le_refl _) (hR.typ (by decide)) (hR.typ (by decide)) (hR.typ (by decide)) (hR.typ (by decide))⟩
theorem room_ref {w w' : World} {ba bb : Nat} {R : Room} {T : Tab} (h : RoomAt w ba R) (hR : RefAt w bb T) (hf : Fr w.heap.size (· = bb) w w') : RoomAt w' ba R := by
  refine h.fr hf (Nat.le_refl _) ?_ (hR.typ (by decide))
  intro e
  have e : ba = bb := e
  subst e
  obtain ⟨c, hc, _⟩ := h.cells
  exact hR.typ (e := 88) (by decide) ba _ _ rfl hc
/-- The reference's Do, said by the room. -/
theorem rDo_sim (b : Nat) (T : Tab) (R : Room) (o : Op) (sv : Value) (sa ba : Option Addr) (sc bl bc : Nat) (w : World) (hR : RefAt w b T) (hs : Sim T R) (hI : Inv R) (hT : Tabs w) (hnm : o.name.length < 9223372036854775807)
    (hrow : RRow w (.slice sa o.ssrcs.length sc) o.ssrcs.length (u32s o.ssrcs)) :
    Calls Tryd.prog 13 #[.pointer (some ⟨b, 0, none⟩), .agg #[.int .i64 o.kind, .int .i64 o.peer, .int .i64 o.source, .int .i64 o.layer, .string (str o.name), .slice sa o.ssrcs.length sc, .slice ba bl bc]] w fun e w' =>
      (∃ v, e = .returned (.tuple #[v, .int .i64 (doo R o sv).2]) ∧ TurnRow w' v (doo R o sv).1.1) ∧ (∃ T', RefAt w' b T' ∧ Sim T' (doo R o sv).1.2) ∧ Fr w.heap.size (· = b) w w' := by
  obtain ⟨h1, h2, h3⟩ := hs.doo hI o sv
  refine (rDo_any b T o sa ba sc bl bc w hR hs.small hT hnm (hs.names hI) hrow (fun h => hs.ok hI h)).mono ?_
  rintro e w' ⟨⟨v, rfl, hrow⟩, href, hfr⟩
  rw [h1] at hrow
  rw [h2]
  exact ⟨⟨v, rfl, hrow⟩, ⟨_, href, h3⟩, hfr⟩
theorem rGone_sim (b : Nat) (T : Tab) (R : Room) (p x : Int) (w : World) (hR : RefAt w b T) (hs : Sim T R) (hI : Inv R) :
    Calls Tryd.prog 30 #[.pointer (some ⟨b, 0, none⟩), .int .i64 p, .int .u32 x] w fun e w' =>
      (∃ v, e = .returned (.tuple #[v, .int .i64 (goneOp R p x).2]) ∧ TurnRow w' v (goneOp R p x).1.1) ∧ (∃ T', RefAt w' b T' ∧ Sim T' (goneOp R p x).1.2) ∧ Fr w.heap.size (· = b) w w' := by
  obtain ⟨h1, h2, h3⟩ := hs.goneOp hI p x
  refine (rGone_any b T p x w hR hs.small).mono ?_
  rintro e w' ⟨⟨v, rfl, hrow⟩, href, hfr⟩
  rw [h1] at hrow
  rw [h2]
  exact ⟨⟨v, rfl, hrow⟩, ⟨_, href, h3⟩, hfr⟩
end Go.Proofs.Rm
