/- The frame of every law: from 'the call returns true and what was there stays' to the row's own post; what a slice of bools reads as. Over any program. -/
import Derived.Below
import Derived.ChangeSame
import Derived.WideKeyArgs
import Derived.ChangeArms
import Derived.ChangeSlices
import Derived.WalkKit
import Derived.ProofKit
import Derived.OpenShut
import Derived.Carry
namespace Go.Proofs.Frame
open Go.RowKit Go.WideShapes Go.ChangeShapes
section
variable {H : Type} {enc : TypeId × Value → H} {P : Program}
/-- Arguments that were read read as they did, whatever happened above them. -/
theorem trodAll_stays (hl : laidOutB P = true) {W W' : World} {sp' : Nat → Bool} (hb : Below W.heap.size W W') : ∀ {ts : List TypeId} {vs : List Value} {ds : List (DataW H)} {ps : List MemPlace},
    (∀ t ∈ ts, P.readableRec t = true ∧ t < P.types.size) → DataW.TrodAll enc P W 0 (fun _ => true) true ts vs ds ps → (∀ p ∈ ps, p.block < W.heap.size) → (∀ p ∈ ps, sp' p.block = true) →
    DataW.TrodAll enc P W' 0 sp' true ts vs ds ps
  | [], [], [], _, _, h, _, _ => h
  | t :: ts, v :: vs, d :: ds, ps, ht, h, hlt, hsp => by
    obtain ⟨p, q, h1, h2, rfl⟩ := h
    refine ⟨p, q, ?_, ?_, rfl⟩
    · exact WideElems.Trod_stays hl (ht t (List.mem_cons_self ..)).1 (ht t (List.mem_cons_self ..)).2 h1 (fun x hx => hb.same (hlt x (List.mem_append.2 (Or.inl hx)))) (fun x hx => hsp x (List.mem_append.2 (Or.inl hx)))
    · exact trodAll_stays hl hb (fun t' h' => ht t' (List.mem_cons_of_mem _ h')) h2 (fun x hx => hlt x (List.mem_append.2 (Or.inr hx))) (fun x hx => hsp x (List.mem_append.2 (Or.inr hx)))
  | [], [], _ :: _, _, _, h, _, _ => h.elim
  | [], _ :: _, _, _, _, h, _, _ => h.elim
  | _ :: _, [], _, _, _, h, _, _ => h.elim
  | _ :: _, _ :: _, [], _, _, h, _, _ => h.elim
/-- A law's row: it returned true, and what was there stays. -/
theorem law_post {f : Func} {s : ChangeSpec} {apart fresh handsOn again : Bool} {W W' : World} {args : Array Value} {ds gs : List (DataW H)} {before : List MemPlace} {tb : TypeId}
    (hW : DataW.Whole enc P f.params.toList s.vars apart W args.toList ds gs before) (hl : laidOutB P = true) (ht : ∀ t ∈ f.params.toList, P.readableRec t = true ∧ t < P.types.size)
    (hv : s.vars = []) (hs : s.fn H (ds ++ gs) = { results := [.lit (.bool true)], args := ds }) (hres : f.resultTypes = #[tb]) (hbool : P.underlying tb = some .bool)
    (hb : Below W.heap.size W W') :
    s.post enc P f apart fresh handsOn again W args (.bool true) W' := by
  have hlt : ∀ p ∈ before, p.block < W.heap.size := fun p hp => hW.lt p hp
  have hold : ∀ p ∈ before, (fun b => decide (b < W.heap.size)) p.block = true := fun p hp => by simpa using hlt p hp
  have hW0 := hW
  obtain ⟨p, q, hA, hV, hpq, hz, hn⟩ := hW
  rw [hv] at hV
  obtain ⟨rfl, rfl⟩ := trodVars_none hV
  rw [List.append_nil] at hpq
  subst hpq
  have hargs : ∀ sp : Nat → Bool, (∀ p ∈ before, sp p.block = true) → DataW.TrodAll enc P W' 0 sp true f.params.toList args.toList (s.fn H (ds ++ [])).args before := by
    intro sp hsp
    rw [hs]
    exact trodAll_stays hl hb ht hA hlt hsp
  have hr : ∀ (b : Nat) (sp : Nat → Bool) (hd : Bool), DataW.TrodAll enc P W' b sp hd f.resultTypes.toList ((Value.bool true).resultList f.resultTypes.size) (s.fn H (ds ++ [])).results [] := by
    intro b sp hd
    rw [hs, hres]
    exact trodAll_cons_mk (shut_bool hbool _) trodAll_mk0
  have hvars : ∀ sp : Nat → Bool, (∀ p ∈ before, sp p.block = true) → DataW.TrodVars enc P W' sp s.vars (s.fn H (ds ++ [])).vars [] := by
    intro sp _
    rw [hs, hv]
    rfl
  have hok : ∀ (j : Nat) (t : TypeId) (r : Value), f.resultTypes[j]? = some t → ((Value.bool true).resultList f.resultTypes.size)[j]? = some r → Value.okWide P W' .any 0 t r := by
    exact ok_one hres rfl (okWide_bool_mk hbool _)
  refine ⟨ds, [], before, [], before, [], hW0, hr _ _ _, hargs _ hold, hvars _ hold, World.keptBut_mono (fun p hp => ⟨hp, ?_⟩) (hb.frame (· ∈ before)), fun _ => ?_⟩
  · simpa using hp
  · refine ⟨hok, _, _, ([] ++ before) ++ [], ⟨[] ++ before, [], trodAll_append (hargs _ (fun _ _ => rfl)) (hr _ _ _), hvars _ (fun _ _ => rfl), rfl, ?_, ?_⟩, ?_⟩
    · intro b off hp
      have hin : MemPlace.cell b off ∈ before := by simpa using hp
      rw [hb.frozen (hlt _ hin)]
      exact hz b off hin
    · intro ha
      simpa using hn ha
    · intro p hp _
      simpa using hp
/-- What a slice of bools reads as. -/
def BoolRow (w : World) (v : Value) (l : List Bool) : Prop :=
  ∃ a cap, v = .slice a l.length cap ∧ (∀ j, j < l.length → ∃ b off, a = some ⟨b, off, none⟩ ∧ b < w.heap.size ∧ w.cell? ⟨b, off + j, none⟩ = some (.bool (l.getD j false)))
theorem cells_slice {r : Reach} {b0 : Nat} {t e : TypeId} {W : World} {v : Value} (ht : P.underlying t = some (.slice e)) (h : Value.okWide P W r b0 t v) : v.cells = #[v] := by
  obtain ⟨a, l, c, rfl⟩ := okWide_slice ht h
  rfl
theorem open_bools {base : Nat} {sp : Nat → Bool} {held : Bool} {t e : TypeId} {W : World} {v : Value} {d : DataW H} {ps : List MemPlace} (ht : P.underlying t = some (.slice e)) (he : P.underlying e = some .bool) (hc : P.cellsOf e = 1)
    (hcl : v.cells = #[v]) (h : DataW.Trod enc P W base sp held t v d ps) : ∃ l, BoolRow W v l ∧ l.length < 9223372036854775808 := by
  obtain ⟨n, h⟩ := h
  rw [hcl] at h
  rcases DataW.trod_slice ht h with ⟨h1, _⟩ | ⟨a, len, cap, elems, rest, n', _, h1, _, _, hlc, hcm, hel, hall, _⟩
  · have : v = .slice none 0 0 := by simpa using h1
    exact ⟨[], ⟨none, 0, this, fun j hj => by simp at hj⟩, by simp⟩
  · have hv : v = .slice (some a) len cap := by simpa using h1
    have key : ∀ j, j < len → ∃ b, W.cell? (a.add j) = some (.bool b) := by
      intro j hj
      have := hall j hj
      rw [hc, Nat.mul_one, List.getElem?_eq_getElem (by omega)] at this
      cases hcs : W.cells? base (a.add j) 1 with
      | none => rw [hcs] at this; simp at this
      | some cs =>
        rw [hcs, Option.bind_some] at this
        obtain ⟨b, rfl, _⟩ := DataW.trod_bool he this
        exact ⟨b, cell_of_cells?_one hcs⟩
    refine ⟨(List.range len).map fun j => match W.cell? (a.add j) with | some (.bool b) => b | _ => false, ⟨some a, cap, by simpa using hv, ?_⟩, by rw [List.length_map, List.length_range]; unfold maxLen at hcm; omega⟩
    intro j hj
    simp only [List.length_map, List.length_range] at hj
    obtain ⟨b, hb⟩ := key j hj
    have h0 : a.spot = none := by
      obtain ⟨b0, hb0⟩ := key 0 (by omega)
      cases hs : a.spot with
      | none => rfl
      | some x => simp [World.cell?, Addr.add, hs] at hb0; split at hb0 <;> simp_all
    have ha : a = ⟨a.block, a.off, none⟩ := by cases a; simp_all
    have hadd : a.add j = ⟨a.block, a.off + j, none⟩ := by
      unfold Addr.add
      split
      · subst_vars; exact ha
      · rfl
    refine ⟨a.block, a.off, by rw [← ha], ?_, ?_⟩
    · rcases Nat.lt_or_ge a.block W.heap.size with h | h
      · exact h
      · rw [hadd] at hb; simp [World.cell?, Array.getElem?_eq_none h] at hb
    · rw [← hadd, hb]
      simp [hj, hb]
theorem bools_below {W W' : World} {v : Value} {l : List Bool} (h : BoolRow W v l) (hb : Below W.heap.size W W') : BoolRow W' v l := by
  obtain ⟨a, cap, hv, hall⟩ := h
  refine ⟨a, cap, hv, fun j hj => ?_⟩
  obtain ⟨b, off, h1, h2, h3⟩ := hall j hj
  exact ⟨b, off, h1, Nat.lt_of_lt_of_le h2 hb.size, by rw [hb.cell (p := ⟨b, off + j, none⟩) h2]; exact h3⟩
theorem reach_next {t : TypeId} {ts : List TypeId} {d : DataW H} {ds : List (DataW H)} (h : (DataW.weightsEach P (t :: ts) (d :: ds)).all (· ≤ reachBytes) = true) : (DataW.weightsEach P ts ds).all (· ≤ reachBytes) = true := by
  rw [DataW.weightsEach, List.all_append, Bool.and_eq_true] at h
  exact h.2
theorem reach_str {t : TypeId} {ts : List TypeId} {s : ByteArray} {ds : List (DataW H)} (h : (DataW.weightsEach P (t :: ts) (DataW.lit (.string s.data.toList) :: ds)).all (· ≤ reachBytes) = true) : s.size ≤ 140737488351232 := by
  rw [DataW.weightsEach, List.all_append, Bool.and_eq_true] at h
  have h1 := h.1
  rw [DataW.weights] at h1
  simp [reachBytes] at h1
  exact of_decide_eq_true h1
end
end Go.Proofs.Frame
