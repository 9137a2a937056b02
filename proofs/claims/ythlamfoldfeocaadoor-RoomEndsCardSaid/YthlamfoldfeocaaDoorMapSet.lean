/- A map[K]bool of the call's own whose entries are all true: a set of keys. No program in sight. -/
import Derived.Maps.OwnSet
import Derived.WideKeyPair
namespace Go.Proofs.Mp
open Go.ChangeMaps Go.MapKept
open Go.Maps (Keyed IsMap Tidy)
/-- Block b is a map of at most n entries, whose keys are those of S (as κ spells them), each with true. -/
def BoolSet {α : Type} (P : Program) (k e : TypeId) (κ : α → Value) (w : World) (b n : Nat) (S : α → Bool) : Prop :=
  ∃ D : DataW Unit, w.ownsMap P k (plainElem P e) b n D ∧ (∀ a l, keyOf P k (κ a) = some l → D.atKey l (.lit (.bool false)) = .lit (.bool (S a)) ∧ Maps.has D l = S a) ∧ ∃ es, D = .map es ∧ ∀ p ∈ es, ∃ a, keyOf P k (κ a) = some p.1
variable {α : Type} {P : Program} {k e : TypeId} {κ : α → Value} {w : World} {b n : Nat} {S : α → Bool}
theorem BoolSet.made (w : World) : BoolSet P k e κ (w.alloc (.map #[] 0)) w.heap.size 0 (fun _ => false) :=
  ⟨.map [], World.ownsMap_made w P k _, fun a l _ => ⟨Maps.atKey_of_not_has rfl _, rfl⟩, [], rfl, fun p hp => by cases hp⟩
theorem BoolSet.mono (h : BoolSet P k e κ w b n S) {n' : Nat} (hn : n ≤ n') : BoolSet P k e κ w b n' S := by
  obtain ⟨D, h1, h2⟩ := h
  exact ⟨D, h1.mono hn, h2⟩
theorem BoolSet.lt (h : BoolSet P k e κ w b n S) : b < w.heap.size := by
  obtain ⟨D, h1, h2⟩ := h
  exact h1.lt
theorem BoolSet.block {w' : World} (h : BoolSet P k e κ w b n S) (hb : w'.heap[b]? = w.heap[b]?) : BoolSet P k e κ w' b n S := by
  obtain ⟨D, ⟨es, clock, h1, h3⟩, h2⟩ := h
  exact ⟨D, ⟨es, clock, hb.trans h1, h3⟩, h2⟩
theorem BoolSet.congr (h : BoolSet P k e κ w b n S) {S' : α → Bool} (hs : ∀ a, S' a = S a) : BoolSet P k e κ w b n S' := by
  have : S' = S := funext hs
  rw [this]; exact h
theorem plainElem_bool_inv {H : Type} {v : Value} {z : DataW H × List MemPlace} (he : P.underlying e = some .bool) (h : plainElem P e v = some z) : ∃ x, v = .bool x ∧ z = (.lit (.bool x), []) := by
  unfold plainElem at h
  rw [he] at h
  cases v <;> simp at h
  exact ⟨_, rfl, h.symm⟩
theorem BoolSet.look {t : TypeId} (h : BoolSet P k e κ w b n S) (K : Keyed P k) (ht : P.underlying t = some (.map k e)) (he : P.underlying e = some .bool) (hz : (zeroValue e).run P w = .ok (.bool false) w) {a : α} {l : Lit} (hkey : keyOf P k (κ a) = some l) :
    (Instr.lookup t (.map (some b)) (κ a) false).run P w = .ok (.bool (S a)) w := by
  obtain ⟨D, h1, h2, _⟩ := h
  obtain ⟨v, ps, hrun, hv⟩ := h1.lookup K ht hz (plainElem_bool he false) hkey
  obtain ⟨x, rfl, hx⟩ := plainElem_bool_inv he hv
  rw [(h2 a l hkey).1] at hx
  have : S a = x := by
    have := congrArg Prod.fst hx
    simpa using this
  rw [this]; exact hrun
theorem key_ne (K : Keyed P k) (hinj : ∀ x y, κ x = κ y → x = y) {a x : α} {l m : Lit} (hl : keyOf P k (κ a) = some l) (hm : keyOf P k (κ x) = some m) (h : x ≠ a) : m ≠ l := by
  intro e
  subst e
  exact h (hinj _ _ (K.inj hm hl))
theorem BoolSet.put {t : TypeId} [DecidableEq α] (h : BoolSet P k e κ w b n S) (K : Keyed P k) (hinj : ∀ x y, κ x = κ y → x = y) (ht : P.underlying t = some (.map k e)) (he : P.underlying e = some .bool) (hn : n < maxLen) {a : α} {l : Lit} (hkey : keyOf P k (κ a) = some l) :
    ∃ w', (Instr.mapUpdate t (.map (some b)) (κ a) (.bool true)).run P w = .ok () w' ∧ BoolSet P k e κ w' b (n + 1) (fun x => decide (x = a) || S x) ∧ w.grownBy w' (some b) := by
  obtain ⟨D, h1, h2, es, hD, h3⟩ := h
  obtain ⟨w', hrun, ho, hg⟩ := h1.update K ht hn hkey (plainElem_bool he true)
  refine ⟨w', hrun, ⟨_, ho, fun x m hm => ?_, ?_⟩, hg⟩
  · by_cases hx : x = a
    · subst hx
      rw [hkey] at hm
      cases hm
      simp only [decide_true, Bool.true_or]
      exact ⟨Maps.atKey_put_same h1.isMap (K.key hkey) _ _, Maps.has_put_same h1.isMap (K.key hkey) _⟩
    · have hne := key_ne K hinj hkey hm hx
      show _ = DataW.lit (Lit.bool (_ || _)) ∧ _ = (_ || _)
      rw [decide_eq_false hx, Bool.false_or, Maps.atKey_put_other hne, Maps.has_put_other hne]
      exact h2 x m hm
  · subst hD
    refine ⟨_, rfl, fun p hp => ?_⟩
    rcases mem_insert_iff.1 hp with rfl | hp
    · exact ⟨a, hkey⟩
    · exact h3 p (List.mem_filter.1 hp).1
theorem BoolSet.del {t : TypeId} [DecidableEq α] (h : BoolSet P k e κ w b n S) (K : Keyed P k) (hinj : ∀ x y, κ x = κ y → x = y) (ht : P.underlying t = some (.map k e)) {a : α} {l : Lit} (hkey : keyOf P k (κ a) = some l) (ty : TypeId) :
    ∃ w', (Builtin.delete_ #[t, k] ty #[.map (some b), κ a]).run P w = .ok (.tuple #[]) w' ∧ BoolSet P k e κ w' b n (fun x => !decide (x = a) && S x) ∧ w.grownBy w' (some b) := by
  obtain ⟨D, h1, h2, es, hD, h3⟩ := h
  obtain ⟨w', hrun, ho, hg⟩ := h1.drop K ht hkey ty
  refine ⟨w', hrun, ⟨_, ho, fun x m hm => ?_, ?_⟩, hg.grown⟩
  · by_cases hx : x = a
    · subst hx
      rw [hkey] at hm
      cases hm
      simp only [decide_true, Bool.not_true, Bool.false_and]
      exact ⟨Maps.atKey_del_same _, Maps.has_del_same⟩
    · have hne := key_ne K hinj hkey hm hx
      show _ = DataW.lit (Lit.bool (_ && _)) ∧ _ = (_ && _)
      rw [decide_eq_false hx, Bool.not_false, Bool.true_and, Maps.atKey_del_other hne, Maps.has_del_other hne]
      exact h2 x m hm
  · subst hD
    exact ⟨_, rfl, fun p hp => h3 p (List.mem_filter.1 hp).1⟩
/-- A set of no keys has no entries. -/
theorem BoolSet.len0 {t : TypeId} (h : BoolSet P k e κ w b n S) (K : Keyed P k) (ht : P.underlying t = some (.map k e)) (hS : ∀ a, S a = false) (ty : TypeId) : (Builtin.len_ #[t] ty #[.map (some b)]).run P w = .ok (.int .i64 0) w := by
  obtain ⟨D, h1, h2, es, rfl, h3⟩ := h
  rw [h1.len ht ty]
  have : es = [] := by
    cases es with
    | nil => rfl
    | cons p r =>
      obtain ⟨a, ha⟩ := h3 p (by simp)
      have := (h2 a p.1 ha).2
      rw [hS a, Maps.has_eq, List.any_cons, WideAt.sameKey_self (K.key ha), Bool.true_or] at this
      cases this
  subst this
  rfl
section
variable {ops : Array Oper} {rest : List Oper} {o : Oper} {a : Act} {Q : Exit → Act → World → Prop}
theorem wpList_look_set (hg : o.guard = none) (m x : Operand) (t : TypeId) (hop : o.op = Op.lookup t m x false) (K : Keyed P k) (ht : P.underlying t = some (.map k e)) (he : P.underlying e = some .bool) (hz : (zeroValue e).run P w = .ok (.bool false) w)
    (b n : Nat) (S : α → Bool) (hm : a.eval m = .map (some b)) (hown : BoolSet P k e κ w b n S) (y : α) (l : Lit) (hx : a.eval x = κ y) (hkey : keyOf P k (κ y) = some l) (hK : wpList P ops Q rest (a.put o.dst (.bool (S y))) w) :
    wpList P ops Q (o :: rest) a w := by
  refine wpList_plain hg fun K' hK' => ?_
  have hrun := hown.look K ht he hz hkey
  unfold Oper.wp
  simp [execOp, hop, hm, hx, hrun, Result.andThen]
  exact hK' _ _ hK
theorem wpList_put_set [DecidableEq α] (hg : o.guard = none) (m x v : Operand) (t : TypeId) (hop : o.op = Op.mapUpdate t m x v) (K : Keyed P k) (hinj : ∀ x y, κ x = κ y → x = y) (ht : P.underlying t = some (.map k e)) (he : P.underlying e = some .bool)
    (b n : Nat) (S : α → Bool) (hm : a.eval m = .map (some b)) (hown : BoolSet P k e κ w b n S) (hn : n < maxLen) (y : α) (l : Lit) (hx : a.eval x = κ y) (hv : a.eval v = .bool true) (hkey : keyOf P k (κ y) = some l)
    (hK : ∀ w', BoolSet P k e κ w' b (n + 1) (fun x => decide (x = y) || S x) → w.grownBy w' (some b) → wpList P ops Q rest (a.put o.dst undef) w') :
    wpList P ops Q (o :: rest) a w := by
  refine wpList_plain hg fun K' hK' => ?_
  obtain ⟨w', hrun, r1, r2⟩ := hown.put K hinj ht he hn hkey
  unfold Oper.wp
  simp [execOp, hop, hm, hx, hv, hrun, Result.andThen]
  exact hK' _ _ (hK w' r1 r2)
theorem wpList_del_set [DecidableEq α] (hg : o.guard = none) (m x : Operand) (t : TypeId) (hop : o.op = Op.call { callee := Callee.builtin Builtin.delete, args := #[m, x], argTypes := #[t, k] }) (K : Keyed P k) (hinj : ∀ x y, κ x = κ y → x = y) (ht : P.underlying t = some (.map k e))
    (b n : Nat) (S : α → Bool) (hm : a.eval m = .map (some b)) (hown : BoolSet P k e κ w b n S) (y : α) (l : Lit) (hx : a.eval x = κ y) (hkey : keyOf P k (κ y) = some l)
    (hK : ∀ w', BoolSet P k e κ w' b n (fun x => !decide (x = y) && S x) → w.grownBy w' (some b) → wpList P ops Q rest (a.put o.dst (.tuple #[])) w') :
    wpList P ops Q (o :: rest) a w := by
  refine wpList_plain hg fun K' hK' => ?_
  obtain ⟨w', hrun, r1, r2⟩ := hown.del K hinj ht hkey o.type
  unfold Oper.wp
  simp [execOp, hop, resolve, invoke, builtin, hm, hx, hrun, Result.andThen]
  exact hK' _ _ (hK w' r1 r2)
theorem wpList_len0_set (hg : o.guard = none) (m : Operand) (t : TypeId) (hop : o.op = Op.call { callee := Callee.builtin Builtin.len, args := #[m], argTypes := #[t] }) (K : Keyed P k) (ht : P.underlying t = some (.map k e))
    (b n : Nat) (S : α → Bool) (hm : a.eval m = .map (some b)) (hown : BoolSet P k e κ w b n S) (hS : ∀ a, S a = false) (hK : wpList P ops Q rest (a.put o.dst (.int .i64 0)) w) :
    wpList P ops Q (o :: rest) a w := by
  refine wpList_plain hg fun K' hK' => ?_
  have hrun := hown.len0 K ht hS o.type
  unfold Oper.wp
  simp [execOp, hop, resolve, invoke, builtin, hm, hrun, Result.andThen]
  exact hK' _ _ hK
end
end Go.Proofs.Mp
