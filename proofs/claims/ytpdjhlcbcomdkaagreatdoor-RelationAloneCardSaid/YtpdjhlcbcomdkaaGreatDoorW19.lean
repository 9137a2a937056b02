/- Several texts in one: A region that draws its order: a condition on the world that holds only till one operation of the region has come up. A book in memory; the walk of its turn. -/
import Derived.Deep.RegionHeld3
import Derived.Lib.Hide
import Derived.Deep.QuietTactic
import Derived.BigQuiet
import Derived.Deep.DeepCutAuto
import Derived.Deep.CutBlock
import Derived.Test.YtpdjhlcbcomdkaaGreatDoorW13
import Derived.Test.YtpdjhlcbcomdkaaGreatDoorW18
set_option linter.unusedVariables false
set_option linter.unusedSimpArgs false
namespace Go.Proofs.AnyT
section
variable {P : Program} {ops : Array Oper} {Q : Exit → Act → World → Prop} {md : Region.Mode} {S : World → Prop} {d : Nat}
/-- Whatever order is picked from here on; as long as operation d has not come up, S holds behind each one. -/
def till (P : Program) (md : Region.Mode) (ops : Array Oper) (Q : Exit → Act → World → Prop) (S : World → Prop) (d : Nat) : Nat → Array Bool → Act → World → Prop
  | 0, done, a, w => Region.ready md ops done = [] ∧ Q .normal a w
  | n + 1, done, a, w => (Region.ready md ops done = [] → Q .normal a w) ∧
    ∀ i ∈ Region.ready md ops done, wpOp P ops Q i (fun a' w' => ((done.setIfInBounds i true).getD d true = false → S w') ∧ till P md ops Q S d n (done.setIfInBounds i true) a' w') a w
theorem till_any : ∀ (n : Nat) (done : Array Bool) (a : Act) (w : World), till P md ops Q S d n done a w → wpAny P md ops Q n done a w
  | 0, _, _, _, h => h
  | n + 1, _, _, _, h => ⟨h.1, fun i hi => wpOp_mono (fun a' w' k => till_any n _ a' w' k.2) (h.2 i hi)⟩
/-- What has come up had all come up that it waits for. -/
def Closed (md : Region.Mode) (ops : Array Oper) (done : Array Bool) : Prop := ∀ k ok, ops[k]? = some ok → done.getD k false = true → ∀ e ∈ ok.after, Region.binds md e = true → done.getD e.on false = true
def closed (md : Region.Mode) (ops : Array Oper) (done : Array Bool) : Bool := (List.range ops.size).all fun k => !(done.getD k false) || (match ops[k]? with
  | some o => o.after.all fun e => !(Region.binds md e) || done.getD e.on false
  | none => true)
theorem closed_spec {done : Array Bool} (h : closed md ops done = true) : Closed md ops done := by
  intro k ok hk hdk e he hb
  unfold closed at h
  have h1 := List.all_eq_true.1 h k (by rw [List.mem_range]; exact (Array.getElem?_eq_some_iff.1 hk).1)
  rw [hdk, hk] at h1
  have h2 := Array.all_eq_true_iff_forall_mem.1 (show (ok.after.all fun e => !(Region.binds md e) || done.getD e.on false) = true from h1) e he
  rw [hb] at h2
  simpa using h2
theorem Closed.set {done : Array Bool} (h : Closed md ops done) {j : Nat} (hj : j ∈ Region.ready md ops done) : Closed md ops (done.setIfInBounds j true) := by
  intro k ok hk hdk e he hb
  by_cases hjk : j = k
  · subst hjk
    obtain ⟨_, o, ho, hall⟩ := mem_ready.1 hj
    rw [hk] at ho
    injection ho with ho
    subst ho
    exact getD_set_true (hall e he hb)
  · rw [getD_set_ne false hjk] at hdk
    exact getD_set_true (h k ok hk hdk e he hb)
/-- Does operation d wait for i, be it through others? -/
def waits (md : Region.Mode) (ops : Array Oper) (i : Nat) : Nat → Nat → Bool
  | 0, _ => false
  | n + 1, d => match ops[d]? with
    | some o => o.after.any fun e => Region.binds md e && (e.on == i || waits md ops i n e.on)
    | none => false
theorem waits_spec {i : Nat} {done : Array Bool} (hc : Closed md ops done) : ∀ (n d : Nat) (od : Oper), waits md ops i n d = true → ops[d]? = some od → (∀ e ∈ od.after, Region.binds md e = true → done.getD e.on false = true) → done.getD i false = true
  | 0, _, _, h, _, _ => by cases h
  | n + 1, d, od, h, ho, hl => by
    unfold waits at h
    rw [ho] at h
    obtain ⟨e, he, hb⟩ := Array.any_eq_true'.1 h
    have hb := (Bool.and_eq_true _ _).mp hb
    have h1 := hl e he hb.1
    rcases (Bool.or_eq_true _ _).mp hb.2 with h2 | h2
    · rw [← show e.on = i by simpa using h2]; exact h1
    · cases hoe : ops[e.on]? with
      | none =>
        exfalso
        cases n with
        | zero => cases h2
        | succ n => unfold waits at h2; rw [hoe] at h2; cases h2
      | some oe => exact waits_spec hc n e.on oe h2 hoe (hc e.on oe hoe h1)
theorem till_first {i : Nat} {oi : Oper} {v : Value} (hi : ops[i]? = some oi) (hsel : ∀ (j : Nat) (o : Oper) cs b, ops[j]? = some o → o.op ≠ .select cs b)
    (hQ : ∀ c a w, Q (.panic c) (a.put oi.dst v) w → Q (.panic c) a w) (hne : i ≠ d) (hd : waits md ops i ops.size d = true) :
    ∀ (n : Nat) (done : Array Bool) (a : Act) (w : World),
      (∀ j oj, ops[j]? = some oj → j ≠ i → done.getD j true = false → (∀ e ∈ oj.after, Region.binds md e = true → e.on ≠ i) → oi.apart ops oj = true) →
      i ∈ Region.ready md ops done → YieldsIf P ops S oi v a → Closed md ops done → done.getD d true = false → S w →
      till P md ops Q S d n (done.setIfInBounds i true) (a.put oi.dst v) w → till P md ops Q S d (n + 1) done a w := by
  intro n
  induction n with
  | zero =>
    intro done a w _ hr hy _ _ hS H
    refine ⟨fun h => (by rw [h] at hr; cases hr), fun j hj => ?_⟩
    by_cases hji : j = i
    · subst hji; exact hy.wpOp hi hS ⟨fun _ => hS, H⟩
    · have := ready_mono hj hji
      rw [H.1] at this
      cases this
  | succ n ih =>
    intro done a w hfree hr hy hc hdn hS H
    refine ⟨fun h => (by rw [h] at hr; cases hr), fun j hj => ?_⟩
    by_cases hji : j = i
    · subst hji; exact hy.wpOp hi hS ⟨fun _ => hS, H⟩
    · have h1 := H.2 j (ready_mono hj hji)
      obtain ⟨hjun, oj, hoj, hall⟩ := mem_ready.1 hj
      have hun : done.getD i true = false := (mem_ready.1 hr).1
      have hnd : done.getD i false = true → False := fun k => by
        rcases Nat.lt_or_ge i done.size with h' | h'
        · simp [h'] at hun k; rw [hun] at k; cases k
        · simp [Array.getElem?_eq_none h'] at k
      have hnot : ∀ e ∈ oj.after, Region.binds md e = true → e.on ≠ i := fun e he hb heq => hnd (by rw [← heq]; exact hall e he hb)
      have hjd : j ≠ d := fun e => by
        subst e
        exact hnd (waits_spec hc ops.size j oj hd hoj hall)
      have g1 : (done.setIfInBounds j true).getD d true = false := by rw [getD_set_ne true hjd]; exact hdn
      have g2 : ((done.setIfInBounds i true).setIfInBounds j true).getD d true = false := by rw [getD_set_ne true hjd, getD_set_ne true hne]; exact hdn
      have h2 := wpOp_putIf hoj (hfree j oj hoj hji hjun hnot) (fun cs b => hsel i oi cs b hi) (fun cs b => hsel j oj cs b hoj) hQ hy h1
      have hfree' : ∀ k ok, ops[k]? = some ok → k ≠ i → (done.setIfInBounds j true).getD k true = false →
          (∀ e ∈ ok.after, Region.binds md e = true → e.on ≠ i) → oi.apart ops ok = true := fun k ok hk hki hun hno => by
        refine hfree k ok hk hki ?_ hno
        by_cases hjk : j = k
        · subst hjk; exact hjun
        · rw [getD_set_ne true hjk] at hun; exact hun
      refine wpOp_mono (fun a' w' k => ⟨fun _ => k.2.1 g2, ih (done.setIfInBounds j true) a' w' hfree' (ready_mono hr (Ne.symm hji)) k.1 (hc.set hj) g1 (k.2.1 g2) ?_⟩) h2
      rw [Array.setIfInBounds_comm _ _ hji]
      exact k.2.2
theorem till_take {i : Nat} {oi : Oper} {v : Value} {n : Nat} {done : Array Bool} {a : Act} {w : World} (hi : ops[i]? = some oi)
    (hs : Region.noSelect ops = true) (hf : Region.free md ops done i = true) (hr : (Region.ready md ops done).contains i = true)
    (hd : ((i != d) && waits md ops i ops.size d && closed md ops done && !(done.getD d true)) = true)
    (hQ : ∀ c a w, Q (.panic c) (a.put oi.dst v) w → Q (.panic c) a w) (hy : YieldsIf P ops S oi v a) (hS : S w)
    (h : till P md ops Q S d n (done.setIfInBounds i true) (a.put oi.dst v) w) : till P md ops Q S d (n + 1) done a w := by
  simp only [Bool.and_eq_true] at hd
  obtain ⟨⟨⟨h1, h2⟩, h3⟩, h4⟩ := hd
  exact till_first hi (Region.noSelect_spec hs) hQ (by simpa using h1) h2 n done a w (Region.free_spec hi hf) (by simpa using hr) hy (closed_spec h3) (by simpa using h4) hS h
theorem till_first0 {i : Nat} {oi : Oper} {v : Value} (hi : ops[i]? = some oi) (hsel : ∀ (j : Nat) (o : Oper) cs b, ops[j]? = some o → o.op ≠ .select cs b)
    (hQ : ∀ c a w, Q (.panic c) (a.put oi.dst v) w → Q (.panic c) a w) (hne : i ≠ d) :
    ∀ (n : Nat) (done : Array Bool) (a : Act) (w : World),
      (∀ j oj, ops[j]? = some oj → j ≠ i → done.getD j true = false → (∀ e ∈ oj.after, Region.binds md e = true → e.on ≠ i) → oi.apart ops oj = true) →
      i ∈ Region.ready md ops done → YieldsIf P ops (fun _ => True) oi v a → (done.getD d true = false → S w) →
      till P md ops Q S d n (done.setIfInBounds i true) (a.put oi.dst v) w → till P md ops Q S d (n + 1) done a w := by
  intro n
  induction n with
  | zero =>
    intro done a w _ hr hy hS H
    refine ⟨fun h => (by rw [h] at hr; cases hr), fun j hj => ?_⟩
    by_cases hji : j = i
    · subst hji; exact hy.wpOp hi trivial ⟨fun h => hS (by rw [getD_set_ne true hne] at h; exact h), H⟩
    · have := ready_mono hj hji
      rw [H.1] at this
      cases this
  | succ n ih =>
    intro done a w hfree hr hy hS H
    refine ⟨fun h => (by rw [h] at hr; cases hr), fun j hj => ?_⟩
    by_cases hji : j = i
    · subst hji; exact hy.wpOp hi trivial ⟨fun h => hS (by rw [getD_set_ne true hne] at h; exact h), H⟩
    · have h1 := H.2 j (ready_mono hj hji)
      obtain ⟨hjun, oj, hoj, hall⟩ := mem_ready.1 hj
      have hun : done.getD i true = false := (mem_ready.1 hr).1
      have hnd : done.getD i false = true → False := fun k => by
        rcases Nat.lt_or_ge i done.size with h' | h'
        · simp [h'] at hun k; rw [hun] at k; cases k
        · simp [Array.getElem?_eq_none h'] at k
      have hnot : ∀ e ∈ oj.after, Region.binds md e = true → e.on ≠ i := fun e he hb heq => hnd (by rw [← heq]; exact hall e he hb)
      have h2 := wpOp_putIf hoj (hfree j oj hoj hji hjun hnot) (fun cs b => hsel i oi cs b hi) (fun cs b => hsel j oj cs b hoj) hQ hy h1
      have hfree' : ∀ k ok, ops[k]? = some ok → k ≠ i → (done.setIfInBounds j true).getD k true = false →
          (∀ e ∈ ok.after, Region.binds md e = true → e.on ≠ i) → oi.apart ops ok = true := fun k ok hk hki hun hno => by
        refine hfree k ok hk hki ?_ hno
        by_cases hjk : j = k
        · subst hjk; exact hjun
        · rw [getD_set_ne true hjk] at hun; exact hun
      have hg : (done.setIfInBounds j true).getD d true = false → ((done.setIfInBounds i true).setIfInBounds j true).getD d true = false := fun h => by
        rw [Array.setIfInBounds_comm _ _ (Ne.symm hji), getD_set_ne true hne]; exact h
      refine wpOp_mono (fun a' w' k => ⟨fun h => k.2.1 (hg h), ih (done.setIfInBounds j true) a' w' hfree' (ready_mono hr (Ne.symm hji)) k.1 (fun h => k.2.1 (hg h)) ?_⟩) h2
      rw [Array.setIfInBounds_comm _ _ hji]
      exact k.2.2
/-- An operation that yields its value in whatever world. -/
theorem till_take0 {i : Nat} {oi : Oper} {v : Value} {n : Nat} {done : Array Bool} {a : Act} {w : World} (hi : ops[i]? = some oi)
    (hs : Region.noSelect ops = true) (hf : Region.free md ops done i = true) (hr : (Region.ready md ops done).contains i = true) (hd : (i != d) = true)
    (hQ : ∀ c a w, Q (.panic c) (a.put oi.dst v) w → Q (.panic c) a w) (hy : YieldsIf P ops (fun _ => True) oi v a) (hS : done.getD d true = false → S w)
    (h : till P md ops Q S d n (done.setIfInBounds i true) (a.put oi.dst v) w) : till P md ops Q S d (n + 1) done a w :=
  till_first0 hi (Region.noSelect_spec hs) hQ (by simpa using hd) n done a w (Region.free_spec hi hf) (by simpa using hr) hy hS h
theorem pt : (∀ (xs : List Value) (i : Nat) (h : i < xs.toArray.size), xs.toArray[i] = xs[i]'(by simpa using h)) ∧ (∀ (xs : List Oper) (i : Nat) (h : i < xs.toArray.size), xs.toArray[i] = xs[i]'(by simpa using h)) ∧
    (∀ (x : Value) (xs : List Value) (i : Nat) (h : i + 1 < (x :: xs).length), (x :: xs)[i + 1] = xs[i]'(by simpa using h)) ∧ (∀ (x : Oper) (xs : List Oper) (i : Nat) (h : i + 1 < (x :: xs).length), (x :: xs)[i + 1] = xs[i]'(by simpa using h)) ∧
    (∀ (x : Value) (xs : List Value) (h : 0 < (x :: xs).length), (x :: xs)[0] = x) ∧ (∀ (x : Oper) (xs : List Oper) (h : 0 < (x :: xs).length), (x :: xs)[0] = x) ∧
    (∀ (a : Act) (d : Nat) (v : Value), a.put (some d) v = { a with tmps := a.tmps.setIfInBounds d v }) ∧ (∀ (a : Act) (v : Value), a.put none v = a) ∧
    (∀ (xs : List Value) (i : Nat) (v : Value), xs.toArray.setIfInBounds i v = (xs.set i v).toArray) ∧ (∀ (xs : List Bool) (i : Nat) (v : Bool), xs.toArray.setIfInBounds i v = (xs.set i v).toArray) ∧
    (∀ (x : Value) (xs : List Value) (v : Value), (x :: xs).set 0 v = v :: xs) ∧ (∀ (x : Value) (xs : List Value) (i : Nat) (v : Value), (x :: xs).set (i + 1) v = x :: xs.set i v) ∧
    (∀ (x : Bool) (xs : List Bool) (v : Bool), (x :: xs).set 0 v = v :: xs) ∧ (∀ (x : Bool) (xs : List Bool) (i : Nat) (v : Bool), (x :: xs).set (i + 1) v = x :: xs.set i v) :=
  ⟨fun _ _ _ => rfl, fun _ _ _ => rfl, fun _ _ _ _ => rfl, fun _ _ _ _ => rfl, fun _ _ _ => rfl, fun _ _ _ => rfl, fun _ _ _ => rfl, fun _ _ => rfl, fun _ _ _ => List.setIfInBounds_toArray .., fun _ _ _ => List.setIfInBounds_toArray .., fun _ _ _ => rfl, fun _ _ _ _ => rfl, fun _ _ _ => rfl, fun _ _ _ _ => rfl⟩
/-- The same, shorter to write: an operation that is taken; one that asks nothing of the world; one that is not wanted. -/
theorem tk (i : Nat) (v : Value) {oi : Oper} {n : Nat} {done : Array Bool} {a : Act} {w : World} (hi : ops[i]? = some oi) (hy : ∀ w, S w → (execOp a.eval oi).run P w = .ok (.value v) w)
    (h : till P md ops Q S d n (done.setIfInBounds i true) (a.put oi.dst v) w)
    (hc : (Region.noSelect ops && Region.free md ops done i && (Region.ready md ops done).contains i && ((i != d) && waits md ops i ops.size d && closed md ops done && !(done.getD d true))) = true := by kernel_rfl)
    (hw : Region.wanted oi (yielded ops a.tmps) = true := by rfl) (hQ : ∀ c a w, Q (.panic c) (a.put oi.dst v) w → Q (.panic c) a w := by exact fun _ _ _ h => h) (hS : S w := by assumption) : till P md ops Q S d (n + 1) done a w := by
  simp only [Bool.and_eq_true] at hc
  obtain ⟨⟨⟨h1, h2⟩, h3⟩, h4⟩ := hc
  exact till_take hi h1 h2 h3 (by simpa only [Bool.and_eq_true] using h4) hQ (Or.inl ⟨hw, hy⟩) hS h
theorem tp (i : Nat) (v : Value) {oi : Oper} {n : Nat} {done : Array Bool} {a : Act} {w : World} (hi : ops[i]? = some oi) (hy : ∀ w, True → (execOp a.eval oi).run P w = .ok (.value v) w)
    (h : till P md ops Q S d n (done.setIfInBounds i true) (a.put oi.dst v) w)
    (hc : (Region.noSelect ops && Region.free md ops done i && (Region.ready md ops done).contains i && (i != d)) = true := by kernel_rfl)
    (hw : Region.wanted oi (yielded ops a.tmps) = true := by rfl) (hQ : ∀ c a w, Q (.panic c) (a.put oi.dst v) w → Q (.panic c) a w := by exact fun _ _ _ h => h) (hS : done.getD d true = false → S w := by exact fun h => by first | assumption | exact absurd h (by decide)) : till P md ops Q S d (n + 1) done a w := by
  simp only [Bool.and_eq_true] at hc
  obtain ⟨⟨⟨h1, h2⟩, h3⟩, h4⟩ := hc
  exact till_take0 hi h1 h2 h3 h4 hQ (Or.inl ⟨hw, hy⟩) hS h
theorem ts (i : Nat) {oi : Oper} {n : Nat} {done : Array Bool} {a : Act} {w : World} (hi : ops[i]? = some oi)
    (h : till P md ops Q S d n (done.setIfInBounds i true) (a.put oi.dst undef) w)
    (hc : (Region.noSelect ops && Region.free md ops done i && (Region.ready md ops done).contains i && (i != d)) = true := by kernel_rfl)
    (hw : Region.wanted oi (yielded ops a.tmps) = false := by rfl) (hQ : ∀ c a w, Q (.panic c) (a.put oi.dst undef) w → Q (.panic c) a w := by exact fun _ _ _ h => h) (hS : done.getD d true = false → S w := by exact fun h => by first | assumption | exact absurd h (by decide)) : till P md ops Q S d (n + 1) done a w := by
  simp only [Bool.and_eq_true] at hc
  obtain ⟨⟨⟨h1, h2⟩, h3⟩, h4⟩ := hc
  exact till_take0 hi h1 h2 h3 h4 hQ (Or.inr ⟨hw, rfl⟩) hS h
theorem hk (i : Nat) (v : Value) {oi : Oper} {n : Nat} {done : Array Bool} {a : Act} {w : World} (hi : ops[i]? = some oi) (hy : ∀ w, S w → (execOp a.eval oi).run P w = .ok (.value v) w)
    (h : wpAnyH P md ops Q S n (done.setIfInBounds i true) (a.put oi.dst v) w)
    (hc : (Region.noSelect ops && Region.free md ops done i && (Region.ready md ops done).contains i) = true := by kernel_rfl)
    (hw : Region.wanted oi (yielded ops a.tmps) = true := by rfl) (hQ : ∀ c a w, Q (.panic c) (a.put oi.dst v) w → Q (.panic c) a w := by exact fun _ _ _ h => h) (hS : S w := by assumption) : wpAnyH P md ops Q S (n + 1) done a w := by
  simp only [Bool.and_eq_true] at hc
  obtain ⟨⟨h1, h2⟩, h3⟩ := hc
  exact wpAnyH_take hi h1 h2 h3 hQ (Or.inl ⟨hw, hy⟩) hS h
theorem till_done {done : Array Bool} {a : Act} {w : World} (hr : Region.ready md ops done = []) (h : Q .normal a w) : ∀ n, till P md ops Q S d n done a w
  | 0 => ⟨hr, h⟩
  | _ + 1 => ⟨fun _ => h, by rw [hr]; simp⟩
/-- Each of these comes up next. -/
def each (P : Program) (md : Region.Mode) (ops : Array Oper) (Q : Exit → Act → World → Prop) (S : World → Prop) (d n : Nat) (done : Array Bool) (a : Act) (w : World) (rs : List Nat) : Prop :=
  ∀ i ∈ rs, wpOp P ops Q i (fun a' w' => ((done.setIfInBounds i true).getD d true = false → S w') ∧ till P md ops Q S d n (done.setIfInBounds i true) a' w') a w
theorem each_nil {n : Nat} {done : Array Bool} {a : Act} {w : World} : each P md ops Q S d n done a w [] := fun _ h => by cases h
theorem each_cons {n : Nat} {done : Array Bool} {a : Act} {w : World} {i : Nat} {o : Oper} {rs : List Nat} (ho : ops[i]? = some o)
    (h : ∀ K' : Act → World → Prop, Shut (∀ a w, ((done.setIfInBounds i true).getD d true = false → S w) → till P md ops Q S d n (done.setIfInBounds i true) a w → K' a w) → if Region.wanted o (yielded ops a.tmps) = true then Oper.wp P o a w K' Q else K' (a.put o.dst undef) w)
    (hs : each P md ops Q S d n done a w rs) : each P md ops Q S d n done a w (i :: rs) := fun j hj => by
  rcases List.mem_cons.1 hj with rfl | hj
  · exact wpOp_step ho (fun K' hK => h K' (fun a w hS hW => hK a w ⟨hS, hW⟩))
  · exact hs j hj
theorem till_ready {rs : List Nat} {n : Nat} {done : Array Bool} {a : Act} {w : World} (hr : Region.ready md ops done = rs) (hne : rs ≠ [])
    (h : each P md ops Q S d n done a w rs) : till P md ops Q S d (n + 1) done a w := ⟨fun h0 => absurd (hr ▸ h0) hne, hr ▸ h⟩
theorem region_till {id : Nat} {a : Act} {w : World} (hm : P.follows .mixedOrders = true)
    (h : till P .any ops Q S d ops.size (Array.replicate ops.size false) a w.drew) : (Code.region id ops true).wp P Q a w :=
  wp_region_any hm (till_any _ _ _ _ h)
theorem region_start {id : Nat} {a : Act} {w : World} (hm : P.follows .mixedOrders = true) (hS : S w.drew)
    (h : S w.drew → till P .any ops Q S d ops.size (Array.replicate ops.size false) a w.drew) : (Code.region id ops true).wp P Q a w := region_till hm (h hS)
theorem go_on {n : Nat} {done : Array Bool} {i : Nat} {K' : Act → World → Prop} (hK : Shut (∀ a w, ((done.setIfInBounds i true).getD d true = false → S w) → till P md ops Q S d n (done.setIfInBounds i true) a w → K' a w)) (a : Act) (w : World) (hS : S w) (h : S w → till P md ops Q S d n (done.setIfInBounds i true) a w) : K' a w := hK a w (fun _ => hS) (h hS)
theorem go_past {n : Nat} {done : Array Bool} {i : Nat} {K' : Act → World → Prop} (hK : Shut (∀ a w, ((done.setIfInBounds i true).getD d true = false → S w) → till P md ops Q S d n (done.setIfInBounds i true) a w → K' a w)) (a : Act) (w : World) (hdn : (done.setIfInBounds i true).getD d true = true) (h : till P md ops Q S d n (done.setIfInBounds i true) a w) : K' a w := hK a w (fun k => (by rw [hdn] at k; cases k)) h
end
end Go.Proofs.AnyT
set_option linter.unusedSimpArgs false
namespace Go.Proofs.By
open Go.RowKit Go.Proofs.Heap Go.Proofs
open Go.Proofs.Rm (TurnRow Turn Room RoomAt turnCells elemTurn turns_len turns_one own_le row_new' below_drewN)
def admC4 (a : Adm) : List Value := [.int .i64 a.kind, .int .i64 a.source, .int .i64 a.epoch, .int .i64 a.err]
def lifeCells (x : Life) : List Value := [.int .i64 x.peer, .int .i64 x.source, .int .i64 x.bgn, .int .i64 x.fin]
/-- A packet and its description, its slices' values beside it. -/
structure MedV where
  p : Pkt
  d : Dsc
  cv : Value
  ev : Value
  pv : Value
def medvCells (x : MedV) : List Value := medCells x.p x.d x.cv x.ev x.pv
theorem elemAdm : Elem Tryz.prog 37 35 4 32 := ⟨Tryz.underlying37, ⟨.agg #[.int .i64 0, .int .i64 0, .int .i64 0, .int .i64 0], by kernel_rfl, rfl⟩, by decide⟩
theorem elemLife : Elem Tryz.prog 39 59 4 32 := ⟨Tryz.underlying39, ⟨.agg #[.int .i64 0, .int .i64 0, .int .i64 0, .int .i64 0], by kernel_rfl, rfl⟩, by decide⟩
theorem elemMed : Elem Tryz.prog 114 97 15 136 := ⟨Tryz.underlying114, ⟨.agg #[.bool false, .int .i64 0, .int .u16 0, .int .u32 0, .int .u32 0, .slice none 0 0, .bool false, .int .u16 0, .slice none 0 0, .slice none 0 0, .int .i64 0, .int .i64 0, .bool false, .bool false, .int .u16 0], by kernel_rfl, rfl⟩, by decide⟩
theorem owns_blk {w : World} {base : Nat} {e : TypeId} {size : Nat} {v : Value} {n : Nat} {xs : List Value} (h : w.ownsRow base e size v n xs) : ∀ k, v.ownBlock = some k → ∃ cur, w.heap[k]? = some (.cells cur e (0, 0)) := by
  intro k hk
  obtain ⟨_, h⟩ := h
  rcases h with ⟨rfl, _⟩ | ⟨g, cap, cur, rfl, hg, hh, _⟩
  · cases hk
  · have hk : some g = some k := hk
    cases hk
    exact ⟨cur, hh⟩
/-- A row of one's own does not feel it that a row of another type grows. -/
theorem owns_other {w w' : World} {b1 b2 : Nat} {e1 e2 : TypeId} {s1 s2 : Nat} {v1 v2 : Value} {n1 n2 : Nat} {x1 x2 : List Value} (h1 : w.ownsRow b1 e1 s1 v1 n1 x1) (h2 : w.ownsRow b2 e2 s2 v2 n2 x2) (he : e1 ≠ e2) (hg : w.grownBy w' v2.ownBlock) : w'.ownsRow b1 e1 s1 v1 n1 x1 :=
  owns_block h1 fun k hk => by
    obtain ⟨cur, hc⟩ := owns_blk h1 k hk
    exact hg.block k (hp_lt hc) (fun e => owns_typ h2 he _ _ _ e.symm hc)
/-- A book in block k: its cells, and three rows of its own. -/
structure BookIn (B : Nat) (w : World) (k : Nat) (cs : Array Value) (av : Value) (A : List Adm) (mv : Value) (M : List MedV) (lv : Value) (LS : List Life) : Prop where
  blk : w.heap[k]? = some (.cells cs 116 (0, 0))
  adm : w.ownsRow B 35 4 av A.length (A.flatMap admC4)
  med : w.ownsRow B 97 15 mv M.length (M.flatMap medvCells)
  each : ∀ x ∈ M, PktR w x.p x.cv x.ev x.pv
  liv : w.ownsRow B 59 4 lv LS.length (LS.flatMap lifeCells)
section
variable {B : Nat} {w w' : World} {k : Nat} {cs : Array Value} {av : Value} {A : List Adm} {mv : Value} {M : List MedV} {lv : Value} {LS : List Life}
theorem BookIn.below (h : BookIn B w k cs av A mv M lv LS) (hb : Below w.heap.size w w') : BookIn B w' k cs av A mv M lv LS :=
  ⟨(hb.block _ (hp_lt h.blk)).trans h.blk, owns_bel h.adm hb, owns_bel h.med hb, fun x hx => (h.each x hx).below hb, owns_bel h.liv hb⟩
theorem PktR.frT {p : Pkt} {cv ev pv : Value} {S : Nat → Prop} (h : PktR w p cv ev pv) (hf : Fr w.heap.size S w w') (h1 : ∀ k c fr, S k → w.heap[k]? ≠ some (.cells c 66 fr)) (h2 : ∀ k c fr, S k → w.heap[k]? ≠ some (.cells c 5 fr)) : PktR w' p cv ev pv :=
  ⟨Row.fr h.c hf (Nat.le_refl _) h1, Row.fr h.e hf (Nat.le_refl _) h2, Row.fr h.p hf (Nat.le_refl _) h2⟩
/-- Blocks change whose types are none of a book's. -/
theorem BookIn.frA (h : BookIn B w k cs av A mv M lv LS) {S : Nat → Prop} (hf : Fr w.heap.size S w w') (hS : ∀ j, S j → ∃ c t f, w.heap[j]? = some (.cells c t f) ∧ t ≠ 116 ∧ t ≠ 35 ∧ t ≠ 97 ∧ t ≠ 59 ∧ t ≠ 66 ∧ t ≠ 5) : BookIn B w' k cs av A mv M lv LS := by
  have hn : ∀ {j c e f}, w.heap[j]? = some (.cells c e f) → (e = 116 ∨ e = 35 ∨ e = 97 ∨ e = 59 ∨ e = 66 ∨ e = 5) → ¬ S j := fun {j c e f} hj he hs => by
    obtain ⟨c', t, f', h1, q1, q2, q3, q4, q5, q6⟩ := hS j hs
    rw [hj] at h1
    injection h1 with h1
    injection h1 with _ h1
    subst h1
    rcases he with r | r | r | r | r | r
    · exact q1 r
    · exact q2 r
    · exact q3 r
    · exact q4 r
    · exact q5 r
    · exact q6 r
  refine ⟨(hf.block _ (hp_lt h.blk) (hn h.blk (by simp))).trans h.blk, owns_block h.adm fun j hj => ?_, owns_block h.med fun j hj => ?_, fun x hx => (h.each x hx).frT hf (fun j c f hs hj => hn hj (by simp) hs) (fun j c f hs hj => hn hj (by simp) hs), owns_block h.liv fun j hj => ?_⟩
  · obtain ⟨cur, hc⟩ := owns_blk h.adm j hj
    exact hf.block _ (hp_lt hc) (hn hc (by simp))
  · obtain ⟨cur, hc⟩ := owns_blk h.med j hj
    exact hf.block _ (hp_lt hc) (hn hc (by simp))
  · obtain ⟨cur, hc⟩ := owns_blk h.liv j hj
    exact hf.block _ (hp_lt hc) (hn hc (by simp))
theorem BookIn.setK (h : BookIn B w k cs av A mv M lv LS) (o : Nat) (u : Value) : BookIn B (w.setCell ⟨k, o, none⟩ u) k (cs.setIfInBounds o u) av A mv M lv LS := by
  have hf : Fr w.heap.size (· = k) w (w.setCell ⟨k, o, none⟩ u) := (Fr.refl _ _ _).setAt _ _
  have hne : ∀ e, 116 ≠ e → ∀ j c fr, j = k → w.heap[j]? ≠ some (.cells c e fr) := by
    intro e he j c fr hj hc
    rw [hj, h.blk] at hc
    injection hc with hc
    injection hc with _ hc
    exact he hc
  have hb : ∀ {v e s n xs}, w.ownsRow B e s v n xs → 116 ≠ e → ∀ j, v.ownBlock = some j → (w.setCell ⟨k, o, none⟩ u).heap[j]? = w.heap[j]? := fun {v e s n xs} ho he j hj => by
    obtain ⟨cur, hc⟩ := owns_blk ho j hj
    exact RowKit.Below.heap_setCell w ⟨k, o, none⟩ _ j (fun e2 => hne e he j _ _ e2 hc)
  exact ⟨hp_set h.blk o u, owns_block h.adm (hb h.adm (by decide)), owns_block h.med (hb h.med (by decide)), fun x hx => (h.each x hx).frT hf (hne _ (by decide)) (hne _ (by decide)), owns_block h.liv (hb h.liv (by decide))⟩
theorem BookIn.growL (h : BookIn B w k cs av A mv M lv LS) (hg : w.grownBy w' lv.ownBlock) {lv' : Value} {LS' : List Life} (ho : w'.ownsRow B 59 4 lv' LS'.length (LS'.flatMap lifeCells)) : BookIn B w' k cs av A mv M lv' LS' :=
  ⟨(hg.block _ (hp_lt h.blk) (fun e => owns_typ h.liv (by decide) _ _ _ e.symm h.blk)).trans h.blk, owns_other h.adm h.liv (by decide) hg, owns_other h.med h.liv (by decide) hg, fun x hx => (h.each x hx).frT (fr_grown hg) (owns_typ h.liv (by decide)) (owns_typ h.liv (by decide)), ho⟩
theorem BookIn.growA (h : BookIn B w k cs av A mv M lv LS) (hg : w.grownBy w' av.ownBlock) {av' : Value} {A' : List Adm} (ho : w'.ownsRow B 35 4 av' A'.length (A'.flatMap admC4)) : BookIn B w' k cs av' A' mv M lv LS :=
  ⟨(hg.block _ (hp_lt h.blk) (fun e => owns_typ h.adm (by decide) _ _ _ e.symm h.blk)).trans h.blk, ho, owns_other h.med h.adm (by decide) hg, fun x hx => (h.each x hx).frT (fr_grown hg) (owns_typ h.adm (by decide)) (owns_typ h.adm (by decide)), owns_other h.liv h.adm (by decide) hg⟩
theorem BookIn.growM (h : BookIn B w k cs av A mv M lv LS) (hg : w.grownBy w' mv.ownBlock) {mv' : Value} {M' : List MedV} (ho : w'.ownsRow B 97 15 mv' M'.length (M'.flatMap medvCells)) (he : ∀ x ∈ M', PktR w' x.p x.cv x.ev x.pv) : BookIn B w' k cs av A mv' M' lv LS :=
  ⟨(hg.block _ (hp_lt h.blk) (fun e => owns_typ h.med (by decide) _ _ _ e.symm h.blk)).trans h.blk, owns_other h.adm h.med (by decide) hg, ho, he, owns_other h.liv h.med (by decide) hg⟩
theorem life_set (at' : Int) : ∀ (Q : List Life) (m : Nat) (_ : m < Q.length), (Q.flatMap lifeCells).set (m * 4 + 3) (.int .i64 at') = (Q.set m { Q.getD m noLife with fin := at' }).flatMap lifeCells
  | [], m, hm => by simp at hm
  | x :: Q, 0, _ => by simp [lifeCells]
  | x :: Q, m + 1, hm => by
    have ih := life_set at' Q m (by simpa using hm)
    rw [List.flatMap_cons, List.set_append_right _ _ (by show 4 ≤ _; omega), List.set_cons_succ, List.flatMap_cons]
    have : (m + 1) * 4 + 3 - (lifeCells x).length = m * 4 + 3 := by show _ - 4 = _; omega
    rw [this, ih]
    rfl
/-- The end of a life is set. -/
theorem BookIn.setL (h : BookIn B w k cs av A mv M lv LS) {g c m : Nat} (hv : lv = .slice (some ⟨g, 0, none⟩) LS.length c) (hm : m < LS.length) (at' : Int) : BookIn B (w.setCell ⟨g, m * 4 + 3, none⟩ (.int .i64 at')) k cs av A mv M lv (LS.set m { LS.getD m noLife with fin := at' }) := by
  have hl := h.liv
  obtain ⟨cur, hc⟩ := owns_blk hl g (by rw [hv]; rfl)
  have hf : Fr w.heap.size (· = g) w (w.setCell ⟨g, m * 4 + 3, none⟩ (.int .i64 at')) := (Fr.refl _ _ _).setAt _ _
  have hne : ∀ e, 59 ≠ e → ∀ j c fr, j = g → w.heap[j]? ≠ some (.cells c e fr) := by
    intro e he j c fr hj hx
    rw [hj, hc] at hx
    injection hx with hx
    injection hx with _ hx
    exact he hx
  have hb : ∀ {v e s n xs}, w.ownsRow B e s v n xs → 59 ≠ e → ∀ j, v.ownBlock = some j → (w.setCell ⟨g, m * 4 + 3, none⟩ (.int .i64 at')).heap[j]? = w.heap[j]? := fun {v e s n xs} ho he j hj => by
    obtain ⟨cu, hcu⟩ := owns_blk ho j hj
    exact RowKit.Below.heap_setCell w ⟨g, m * 4 + 3, none⟩ _ j (fun e2 => hne e he j _ _ e2 hcu)
  refine ⟨(RowKit.Below.heap_setCell w ⟨g, m * 4 + 3, none⟩ _ k (fun e2 => hne _ (by decide) k _ _ e2 h.blk)).trans h.blk, owns_block h.adm (hb h.adm (by decide)), owns_block h.med (hb h.med (by decide)), fun x hx => (h.each x hx).frT hf (hne _ (by decide)) (hne _ (by decide)), ?_⟩
  rw [hv] at hl ⊢
  have h2 := owns_setI hl (by omega) (m * 4 + 3) (.int .i64 at')
  rw [life_set at' LS m hm] at h2
  rw [List.length_set]
  exact h2
theorem BookIn.cells {oa : Option Addr} {n oc : Nat} {c1 c2 c3 : Value} (h : BookIn B w k #[.slice oa n oc, c1, c2, c3] av A mv M lv LS) : w.cell? ⟨k, 0, none⟩ = some (.slice oa n oc) ∧ w.cell? ⟨k, 1, none⟩ = some c1 ∧ w.cell? ⟨k, 2, none⟩ = some c2 ∧ w.cell? ⟨k, 3, none⟩ = some c3 ∧ (∀ j, w.frozen? ⟨k, j, none⟩ = false) :=
  ⟨cell_of h.blk 0, cell_of h.blk 1, cell_of h.blk 2, cell_of h.blk 3, frozen_of h.blk⟩
end
theorem life_at {w : World} {g n c : Nat} {l : List Life} {B : Nat} (h : w.ownsRow B 59 4 (.slice (some ⟨g, 0, none⟩) n c) n (l.flatMap lifeCells)) {m : Nat} (hm : m < l.length) : w.cell? ⟨g, m * 4, none⟩ = some (.int .i64 (l.getD m noLife).peer) ∧ w.cell? ⟨g, m * 4 + 1, none⟩ = some (.int .i64 (l.getD m noLife).source) ∧ w.cell? ⟨g, m * 4 + 3, none⟩ = some (.int .i64 (l.getD m noLife).fin) := by
  have hfl := flat_length lifeCells 4 (fun _ => rfl) l
  obtain ⟨g', off, cap, h1, h2, h3, h4, h5⟩ := Row.open (Row.of_owns h) (by rw [hfl]; omega)
  injection h1 with e1 _ _
  cases e1
  have hx : l[m]? = some (l.getD m noLife) := by rw [List.getD_eq_getElem?_getD, List.getElem?_eq_getElem hm]; rfl
  have hj : ∀ j, j < 4 → w.cell? ⟨g, m * 4 + j, none⟩ = (lifeCells (l.getD m noLife))[j]? := fun j hj => by
    have h6 := h5 (m * 4 + j) (by rw [hfl]; omega)
    rw [Nat.zero_add] at h6
    rw [h6]
    exact flat_at lifeCells 4 (fun _ => rfl) l m j _ hx hj
  exact ⟨hj 0 (by omega), hj 1 (by omega), hj 3 (by omega)⟩
theorem life_one (x : Life) : ∀ u ∈ lifeCells x, u.oneCell' = true := by
  intro u hu
  simp only [lifeCells, List.mem_cons, List.mem_nil_iff, or_false] at hu
  rcases hu with rfl | rfl | rfl | rfl <;> rfl
set_option maxRecDepth 100000 in
set_option maxHeartbeats 4000000 in
theorem Bturn_any (B k : Nat) (oa : Option Addr) (n oc : Nat) (av mv : Value) (A : List Adm) (M : List MedV) (lv : Value) (LS : List Life) (at' : Int) (t : Turn) (w : World)
    (h : BookIn B w k #[.slice oa n oc, av, mv, lv] av A mv M lv LS) (hB : B ≤ w.heap.size) (hl : LS.length ≤ 100000000) :
    Calls Tryz.prog 85 #[.pointer (some ⟨k, 0, none⟩), .int .i64 at', .agg #[.int .i64 t.kind, .int .i64 t.peer, .int .i64 t.source, .int .i64 t.layer, .int .u32 t.ssrc]] w fun e w' => e = .returned (.tuple #[]) ∧
      ∃ lv', BookIn B w' k #[.slice oa n oc, av, mv, lv'] av A mv M lv' (lifeTurn n at' LS t) ∧ Fr w.heap.size (fun j => j = k ∨ lv.ownBlock = some j) w w' := by
  have HX : Hid (lifeTurn n at' LS t = if t.kind = 1 then LS ++ [⟨t.peer, t.source, at', n⟩] else if t.kind = 2 then endGo t.peer t.source at' LS LS.length else LS) := rfl
  have HB1 : Hid (Below w.heap.size w (w.alloc (.cells #[.int .i64 t.kind, .int .i64 t.peer, .int .i64 t.source, .int .i64 t.layer, .int .u32 t.ssrc] 158))) := below_alloc w _
  have hz := heap_new w (.cells #[.int .i64 t.kind, .int .i64 t.peer, .int .i64 t.source, .int .i64 t.layer, .int .u32 t.ssrc] 158)
  have H1 := Lib.hid (h.below HB1.out)
  obtain ⟨la, lc, hlv, -⟩ := Row.of_owns h.liv
  have HL := Lib.hid h.liv
  subst hlv
  clear h
  by_cases k1 : t.kind = 1
  · have HX1 : Hid (lifeTurn n at' LS t = LS ++ [⟨t.peer, t.source, at', n⟩]) := by show _ = _; rw [HX.out, if_pos k1]
    clear HX
    generalize lifeTurn n at' LS t = X at *
    obtain ⟨tk, tp, ts, ty, tx⟩ := t
    dsimp only at k1 HB1 hz H1 HX1 ⊢
    subst k1
    go_enter Tryz.func85, Tryz.ntmps85
    go_upto_region 3 with fail
    have hz1 := hz
    have hls := hp_lt hz
    generalize (w.alloc (.cells #[.int .i64 1, .int .i64 tp, .int .i64 ts, .int .i64 ty, .int .u32 tx] 158)) = w1 at *
    have H1d := Lib.hid (H1.out.below (Below.refl _ _).drew)
    have hzd := ((Below.refl w1.heap.size w1).drew.block _ hls).trans hz
    have KEEP : Hid (∀ w' : World, w'.heap[k]? = some (.cells #[.slice oa n oc, av, mv, .slice la LS.length lc] 116 (0, 0)) → w'.heap[w.heap.size]? = some (.cells #[.int .i64 1, .int .i64 tp, .int .i64 ts, .int .i64 ty, .int .u32 tx] 158 (0, 0)) → w'.cell? ⟨k, 0, none⟩ = some (.slice oa n oc) ∧ w'.cell? ⟨k, 3, none⟩ = some (.slice la LS.length lc) ∧ w'.cell? ⟨w.heap.size, 1, none⟩ = some (.int .i64 tp) ∧ w'.cell? ⟨w.heap.size, 2, none⟩ = some (.int .i64 ts)) := fun w' h1 h2 =>
      ⟨by rw [cell_of h1 0]; rfl, by rw [cell_of h1 3]; rfl, by rw [cell_of h2 1]; rfl, by rw [cell_of h2 2]; rfl⟩
    refine wp_region_noPanic ?_
    refine AnyT.region_start (d := 20) (S := (fun w' => w'.cell? ⟨k, 0, none⟩ = some (.slice oa n oc) ∧ w'.cell? ⟨k, 3, none⟩ = some (.slice la LS.length lc) ∧ w'.cell? ⟨w.heap.size, 1, none⟩ = some (.int .i64 tp) ∧ w'.cell? ⟨w.heap.size, 2, none⟩ = some (.int .i64 ts))) (by kernel_rfl) ?_ (fun hHeld0 => ?_)
    · (try dsimp only)
      exact KEEP.out _ H1d.out.blk hzd
    refine AnyT.till_take (i := 0) (v := ?_) rfl (by kernel_rfl) (by kernel_rfl) (by kernel_rfl) (by kernel_rfl) (fun _ _ _ h => h) (Or.inl ⟨by rfl, ?_⟩) (by assumption) ?_
    rotate_left
    · intro w hSw
      (try dsimp only at hSw)
      go_simp
      try with_reducible rfl
    try simp only [List.getElem_toArray, List.getElem_cons_succ, List.getElem_cons_zero, Act.put, List.setIfInBounds_toArray, List.set_cons_zero, List.set_cons_succ]
    refine AnyT.till_take (i := 1) (v := ?_) rfl (by kernel_rfl) (by kernel_rfl) (by kernel_rfl) (by kernel_rfl) (fun _ _ _ h => h) (Or.inl ⟨by rfl, ?_⟩) (by assumption) ?_
    rotate_left
    · intro w hSw
      (try dsimp only at hSw)
      go_simp
      try with_reducible rfl
    try simp only [List.getElem_toArray, List.getElem_cons_succ, List.getElem_cons_zero, Act.put, List.setIfInBounds_toArray, List.set_cons_zero, List.set_cons_succ]
    refine AnyT.till_take (i := 2) (v := ?_) rfl (by kernel_rfl) (by kernel_rfl) (by kernel_rfl) (by kernel_rfl) (fun _ _ _ h => h) (Or.inl ⟨by rfl, ?_⟩) (by assumption) ?_
    rotate_left
    · intro w hSw
      (try dsimp only at hSw)
      go_simp
      try with_reducible rfl
    try simp only [List.getElem_toArray, List.getElem_cons_succ, List.getElem_cons_zero, Act.put, List.setIfInBounds_toArray, List.set_cons_zero, List.set_cons_succ]
    refine AnyT.till_take (i := 3) (v := ?_) rfl (by kernel_rfl) (by kernel_rfl) (by kernel_rfl) (by kernel_rfl) (fun _ _ _ h => h) (Or.inl ⟨by rfl, ?_⟩) (by assumption) ?_
    rotate_left
    · intro w hSw
      (try dsimp only at hSw)
      go_simp
      try with_reducible rfl
    try simp only [List.getElem_toArray, List.getElem_cons_succ, List.getElem_cons_zero, Act.put, List.setIfInBounds_toArray, List.set_cons_zero, List.set_cons_succ]
    refine AnyT.till_take (i := 4) (v := ?_) rfl (by kernel_rfl) (by kernel_rfl) (by kernel_rfl) (by kernel_rfl) (fun _ _ _ h => h) (Or.inl ⟨by rfl, ?_⟩) (by assumption) ?_
    rotate_left
    · intro w hSw
      (try dsimp only at hSw)
      go_simp
      try with_reducible rfl
    try simp only [List.getElem_toArray, List.getElem_cons_succ, List.getElem_cons_zero, Act.put, List.setIfInBounds_toArray, List.set_cons_zero, List.set_cons_succ]
    refine AnyT.till_take (i := 5) (v := ?_) rfl (by kernel_rfl) (by kernel_rfl) (by kernel_rfl) (by kernel_rfl) (fun _ _ _ h => h) (Or.inl ⟨by rfl, ?_⟩) (by assumption) ?_
    rotate_left
    · intro w hSw
      (try dsimp only at hSw)
      go_simp
      try with_reducible rfl
    try simp only [List.getElem_toArray, List.getElem_cons_succ, List.getElem_cons_zero, Act.put, List.setIfInBounds_toArray, List.set_cons_zero, List.set_cons_succ]
    refine AnyT.till_take (i := 6) (v := ?_) rfl (by kernel_rfl) (by kernel_rfl) (by kernel_rfl) (by kernel_rfl) (fun _ _ _ h => h) (Or.inl ⟨by rfl, ?_⟩) (by assumption) ?_
    rotate_left
    · intro w hSw
      (try dsimp only at hSw)
      go_simp
      try with_reducible rfl
    try simp only [List.getElem_toArray, List.getElem_cons_succ, List.getElem_cons_zero, Act.put, List.setIfInBounds_toArray, List.set_cons_zero, List.set_cons_succ]
    refine AnyT.till_take (i := 7) (v := ?_) rfl (by kernel_rfl) (by kernel_rfl) (by kernel_rfl) (by kernel_rfl) (fun _ _ _ h => h) (Or.inl ⟨by rfl, ?_⟩) (by assumption) ?_
    rotate_left
    · intro w hSw
      (try dsimp only at hSw)
      go_simp
      try with_reducible rfl
    try simp only [List.getElem_toArray, List.getElem_cons_succ, List.getElem_cons_zero, Act.put, List.setIfInBounds_toArray, List.set_cons_zero, List.set_cons_succ]
    refine AnyT.till_take (i := 8) (v := ?_) rfl (by kernel_rfl) (by kernel_rfl) (by kernel_rfl) (by kernel_rfl) (fun _ _ _ h => h) (Or.inl ⟨by rfl, ?_⟩) (by assumption) ?_
    rotate_left
    · intro w hSw
      (try dsimp only at hSw)
      go_simp
      try with_reducible rfl
    try simp only [List.getElem_toArray, List.getElem_cons_succ, List.getElem_cons_zero, Act.put, List.setIfInBounds_toArray, List.set_cons_zero, List.set_cons_succ]
    refine AnyT.till_take (i := 9) (v := ?_) rfl (by kernel_rfl) (by kernel_rfl) (by kernel_rfl) (by kernel_rfl) (fun _ _ _ h => h) (Or.inl ⟨by rfl, ?_⟩) (by assumption) ?_
    rotate_left
    · intro w hSw
      (try dsimp only at hSw)
      go_simp
      try with_reducible rfl
    try simp only [List.getElem_toArray, List.getElem_cons_succ, List.getElem_cons_zero, Act.put, List.setIfInBounds_toArray, List.set_cons_zero, List.set_cons_succ]
    refine AnyT.till_take (i := 10) (v := ?_) rfl (by kernel_rfl) (by kernel_rfl) (by kernel_rfl) (by kernel_rfl) (fun _ _ _ h => h) (Or.inl ⟨by rfl, ?_⟩) (by assumption) ?_
    rotate_left
    · intro w hSw
      (try dsimp only at hSw)
      go_simp
      try with_reducible rfl
    try simp only [List.getElem_toArray, List.getElem_cons_succ, List.getElem_cons_zero, Act.put, List.setIfInBounds_toArray, List.set_cons_zero, List.set_cons_succ]
    refine AnyT.till_take (i := 11) (v := ?_) rfl (by kernel_rfl) (by kernel_rfl) (by kernel_rfl) (by kernel_rfl) (fun _ _ _ h => h) (Or.inl ⟨by rfl, ?_⟩) (by assumption) ?_
    rotate_left
    · intro w hSw
      (try dsimp only at hSw)
      go_simp
      try with_reducible rfl
    try simp only [List.getElem_toArray, List.getElem_cons_succ, List.getElem_cons_zero, Act.put, List.setIfInBounds_toArray, List.set_cons_zero, List.set_cons_succ]
    refine AnyT.till_take (i := 12) (v := ?_) rfl (by kernel_rfl) (by kernel_rfl) (by kernel_rfl) (by kernel_rfl) (fun _ _ _ h => h) (Or.inl ⟨by rfl, ?_⟩) (by assumption) ?_
    rotate_left
    · intro w hSw
      (try dsimp only at hSw)
      go_simp
      try with_reducible rfl
    try simp only [List.getElem_toArray, List.getElem_cons_succ, List.getElem_cons_zero, Act.put, List.setIfInBounds_toArray, List.set_cons_zero, List.set_cons_succ]
    refine AnyT.till_take (i := 13) (v := ?_) rfl (by kernel_rfl) (by kernel_rfl) (by kernel_rfl) (by kernel_rfl) (fun _ _ _ h => h) (Or.inl ⟨by rfl, ?_⟩) (by assumption) ?_
    rotate_left
    · intro w hSw
      (try dsimp only at hSw)
      go_simp
      try with_reducible rfl
    try simp only [List.getElem_toArray, List.getElem_cons_succ, List.getElem_cons_zero, Act.put, List.setIfInBounds_toArray, List.set_cons_zero, List.set_cons_succ]
    refine AnyT.till_take (i := 14) (v := ?_) rfl (by kernel_rfl) (by kernel_rfl) (by kernel_rfl) (by kernel_rfl) (fun _ _ _ h => h) (Or.inl ⟨by rfl, ?_⟩) (by assumption) ?_
    rotate_left
    · intro w hSw
      (try dsimp only at hSw)
      go_simp
      try with_reducible rfl
    try simp only [List.getElem_toArray, List.getElem_cons_succ, List.getElem_cons_zero, Act.put, List.setIfInBounds_toArray, List.set_cons_zero, List.set_cons_succ]
    refine AnyT.till_take (i := 15) (v := ?_) rfl (by kernel_rfl) (by kernel_rfl) (by kernel_rfl) (by kernel_rfl) (fun _ _ _ h => h) (Or.inl ⟨by rfl, ?_⟩) (by assumption) ?_
    rotate_left
    · intro w hSw
      (try dsimp only at hSw)
      go_simp
      try with_reducible rfl
    try simp only [List.getElem_toArray, List.getElem_cons_succ, List.getElem_cons_zero, Act.put, List.setIfInBounds_toArray, List.set_cons_zero, List.set_cons_succ]
    refine AnyT.till_ready (rs := [16]) (by kernel_rfl) (by simp) ?_
    refine AnyT.each_cons (i := 16) rfl (fun K hK => ?_) AnyT.each_nil
    refine step_slice1 (by rfl) elemLife (.tmp 27) (by rfl) #[.int .i64 tp, .int .i64 ts, .int .i64 at', .int .i64 (n : Int)] (by rfl) (by rfl) (by decide) ?_
    have H2 := Lib.hid (H1d.out.below (below_alloc w1.drew (.cells #[.int .i64 tp, .int .i64 ts, .int .i64 at', .int .i64 (n : Int)] 59)))
    have hz2 := ((below_alloc w1.drew (.cells #[.int .i64 tp, .int .i64 ts, .int .i64 at', .int .i64 (n : Int)] 59)).block _ (hp_lt hzd)).trans hzd
    refine AnyT.go_on hK _ _ ?_ (fun hHeld1 => ?_)
    · (try dsimp only)
      first | exact KEEP.out _ H3.out.blk hz3 | exact KEEP.out _ H2.out.blk hz2 | exact KEEP.out _ H1d.out.blk hzd
    clear hK K
    try simp only [List.getElem_toArray, List.getElem_cons_succ, List.getElem_cons_zero, Act.put, List.setIfInBounds_toArray, List.set_cons_zero, List.set_cons_succ]
    refine AnyT.till_ready (rs := [17]) (by kernel_rfl) (by simp) ?_
    refine AnyT.each_cons (i := 17) rfl (fun K hK => ?_) AnyT.each_nil
    refine step_app (by rfl) (.tmp 16) (.tmp 28) 39 (by rfl) B elemLife (.slice la LS.length lc) LS.length (LS.flatMap lifeCells) (by rfl) H2.out.liv (.slice (some ⟨w1.drew.heap.size, 0, none⟩) 1 1) 1 ([(⟨tp, ts, at', (n : Int)⟩ : Life)].flatMap lifeCells) (by rfl) (row_new' _ _ 1 _ ([(⟨tp, ts, at', (n : Int)⟩ : Life)].flatMap lifeCells) (by decide) rfl) rfl (flat_one fun x _ => life_one x) (by omega) (by omega) ?_ ?_
    · show B ≤ (w1.drew.heap.push _).size; rw [Array.size_push]; have := HB1.out.size; show B ≤ w1.heap.size + 1; omega
    intro v' w6 HO HG
    have HO2 : Hid (w6.ownsRow B 59 4 v' (LS ++ [(⟨tp, ts, at', (n : Int)⟩ : Life)]).length ((LS ++ [(⟨tp, ts, at', (n : Int)⟩ : Life)]).flatMap lifeCells)) := (by have h := HO.out; rw [List.length_append, List.flatMap_append]; exact h)
    obtain ⟨na, nc, hnv, -⟩ := Row.of_owns HO2.out
    subst hnv
    have H3 := Lib.hid (H2.out.growL HG.out HO2.out)
    obtain ⟨q0, q1, q2, q3, q4⟩ := H3.out.cells
    have q43 := q4 3
    have hz3 := (HG.out.block _ (hp_lt hz2) (fun e => owns_typ H2.out.liv (by decide) _ _ _ e.symm hz2)).trans hz2
    refine AnyT.go_on hK _ _ ?_ (fun hHeld2 => ?_)
    · (try dsimp only)
      first | exact KEEP.out _ H3.out.blk hz3 | exact KEEP.out _ H2.out.blk hz2 | exact KEEP.out _ H1d.out.blk hzd
    clear hK K
    try simp only [List.getElem_toArray, List.getElem_cons_succ, List.getElem_cons_zero, Act.put, List.setIfInBounds_toArray, List.set_cons_zero, List.set_cons_succ]
    refine AnyT.till_ready (rs := [18]) (by kernel_rfl) (by simp) ?_
    refine AnyT.each_cons (i := 18) rfl (fun K hK => ?_) AnyT.each_nil
    go_simp
    refine AnyT.go_on hK _ _ ?_ (fun hHeld3 => ?_)
    · (try dsimp only)
      first | exact KEEP.out _ H3.out.blk hz3 | exact KEEP.out _ H2.out.blk hz2 | exact KEEP.out _ H1d.out.blk hzd
    clear hK K
    try simp only [List.getElem_toArray, List.getElem_cons_succ, List.getElem_cons_zero, Act.put, List.setIfInBounds_toArray, List.set_cons_zero, List.set_cons_succ]
    refine AnyT.till_take (i := 19) (v := ?_) rfl (by kernel_rfl) (by kernel_rfl) (by kernel_rfl) (by kernel_rfl) (fun _ _ _ h => h) (Or.inl ⟨by rfl, ?_⟩) (by assumption) ?_
    rotate_left
    · intro w hSw
      (try dsimp only at hSw)
      go_simp
      try with_reducible rfl
    try simp only [List.getElem_toArray, List.getElem_cons_succ, List.getElem_cons_zero, Act.put, List.setIfInBounds_toArray, List.set_cons_zero, List.set_cons_succ]
    refine AnyT.till_ready (rs := [20]) (by kernel_rfl) (by simp) ?_
    refine AnyT.each_cons (i := 20) rfl (fun K hK => ?_) AnyT.each_nil
    go_simp
    refine AnyT.go_past hK _ _ (by kernel_rfl) ?_
    clear hK K
    try simp only [List.getElem_toArray, List.getElem_cons_succ, List.getElem_cons_zero, Act.put, List.setIfInBounds_toArray, List.set_cons_zero, List.set_cons_succ]
    refine AnyT.till_done (by kernel_rfl) ?_ _
    refine NoPanic.normal ?_
    go_wp2_with fail
    first | refine bodyPost_end (results_none (by rfl) _ _ _) rfl ?_ | refine bodyPost_ret (results_none (by rfl) _ _ _) rfl ?_
    have hln : (LS ++ [(⟨tp, ts, at', (n : Int)⟩ : Life)]).length = LS.length + 1 := by simp
    have h3 := H3.out.setK 3 (.slice na (LS.length + 1) nc)
    rw [hln] at h3
    refine ⟨rfl, .slice na (LS.length + 1) nc, by rw [HX1.out]; exact h3, ?_⟩
    have f1 : Fr w.heap.size (fun j => j = k ∨ (Value.slice la LS.length lc).ownBlock = some j) w w1.drew := Fr.of_below _ HB1.out.drew
    have f2 := (f1.alloc HB1.out.size (.cells #[.int .i64 tp, .int .i64 ts, .int .i64 at', .int .i64 (n : Int)] 59))
    have f3 : Fr w.heap.size (fun j => j = k ∨ (Value.slice la LS.length lc).ownBlock = some j) w w6 := f2.trans ((fr_grown HG.out).mono f2.size (fun _ _ h => Or.inr h))
    exact f3.setCell (p := ⟨k, 3, none⟩) (Or.inr (Or.inl rfl)) _
  by_cases k2 : t.kind = 2
  rotate_left
  · have HX1 : Hid (lifeTurn n at' LS t = LS) := by show _ = _; rw [HX.out, if_neg k1, if_neg k2]
    clear HX
    generalize lifeTurn n at' LS t = X at *
    have e1 : (t.kind == 1) = false := by rw [beq_eq_false_iff_ne]; exact k1
    have e2 : (t.kind == 2) = false := by rw [beq_eq_false_iff_ne]; exact k2
    go_enter Tryz.func85, Tryz.ntmps85
    go_wp2_with fail
    first | refine bodyPost_end (results_none (by rfl) _ _ _) rfl ?_ | refine bodyPost_ret (results_none (by rfl) _ _ _) rfl ?_
    exact ⟨rfl, _, by rw [HX1.out]; exact H1.out, Fr.of_below _ HB1.out⟩
  have HX1 : Hid (lifeTurn n at' LS t = endGo t.peer t.source at' LS LS.length) := by show _ = _; rw [HX.out, if_neg k1, if_pos k2]
  clear HX
  generalize lifeTurn n at' LS t = X at *
  obtain ⟨tk, tp, ts, ty, tx⟩ := t
  dsimp only at k1 k2 HB1 hz H1 HX1 ⊢
  subst k2
  clear k1
  have hcs := H1.out.cells
  obtain ⟨q0, q1, q2, q3, q4⟩ := hcs
  have hw5 : IntKind.i64.wrap ((LS.length : Int) - 1) = (LS.length : Int) - 1 := IntWalk.i64_in _ (by omega)
  go_enter Tryz.func85, Tryz.ntmps85
  go_wp2_with fail
  go_loopw [6] (fun s6 w' => ∃ m : Nat, m ≤ LS.length ∧ s6 = .int .i64 ((m : Int) - 1) ∧ Hid (endGo tp ts at' LS LS.length = endGo tp ts at' LS m) ∧ Below w.heap.size w w' ∧ Below (w.alloc (.cells #[.int .i64 2, .int .i64 tp, .int .i64 ts, .int .i64 ty, .int .u32 tx] 158)).heap.size (w.alloc (.cells #[.int .i64 2, .int .i64 tp, .int .i64 ts, .int .i64 ty, .int .u32 tx] 158)) w') (fun s6 _ => (intOf s6 + 1).toNat)
  case atStart => exact ⟨LS.length, Nat.le_refl _, rfl, rfl, HB1.out, Below.refl _ _⟩
  case round =>
    obtain ⟨m, hm, rfl, HE, hbel, hbel2⟩ := hrel
    have HBEL := Lib.hid hbel
    have HBEL2 := Lib.hid hbel2
    have HR := Lib.hid (H1.out.below hbel2)
    have hzr := (hbel2.block _ (hp_lt hz)).trans hz
    have t1 : wr.cell? ⟨w.heap.size, 1, none⟩ = some (.int .i64 tp) := by rw [cell_of hzr 1]; rfl
    have t2 : wr.cell? ⟨w.heap.size, 2, none⟩ = some (.int .i64 ts) := by rw [cell_of hzr 2]; rfl
    obtain ⟨r0, r1, r2, r3, r4⟩ := HR.out.cells
    have HL2 := Lib.hid (owns_bel HL.out (HBEL.out))
    clear hbel hbel2 q0 q1 q2 q3 q4
    cases m with
    | zero =>
      have HX2 : Hid (X = LS) := by show _ = _; rw [HX1.out, HE.out]; rfl
      clear HE HX1
      go_wp2
      first | refine bodyPost_end (results_none (by rfl) _ _ _) rfl ?_ | refine bodyPost_ret (results_none (by rfl) _ _ _) rfl ?_
      exact ⟨rfl, _, by rw [HX2.out]; exact HR.out, Fr.of_below _ HBEL.out⟩
    | succ q =>
      have hq1 : ((q + 1 : Nat) : Int) - 1 = (q : Int) := by omega
      rw [hq1]
      have hqI : (q : Int) < (LS.length : Int) := by omega
      obtain ⟨g, c9, cur, e9, -, hgh⟩ := owns_someI HL2.out (by omega)
      cases e9
      obtain ⟨y0, y1, y3⟩ := life_at HL2.out (m := q) (by omega)
      have fz : wr.frozen? ⟨g, q * 4 + 3, none⟩ = false := frozen_of hgh _
      have HQ := Lib.hid (fun (w' : World) (hb : Below wr.heap.size wr w') => (HR.out.below hb).setL rfl (m := q) (by omega) at')
      have HE2 : Hid (endGo tp ts at' LS (q + 1) = if (LS.getD q noLife).peer = tp ∧ (LS.getD q noLife).source = ts then LS.set q { LS.getD q noLife with fin := at' } else endGo tp ts at' LS q) := rfl
      have hqw : IntKind.i64.wrap ((q : Int) - 1) = (q : Int) - 1 := IntWalk.i64_in _ (by omega)
      generalize (LS.getD q noLife).peer = lp at *
      generalize (LS.getD q noLife).source = ls at *
      by_cases hp : lp = tp
      · by_cases hs : ls = ts
        · have HX2 : Hid (X = LS.set q { LS.getD q noLife with fin := at' }) := by show _ = _; rw [HX1.out, HE.out, HE2.out, if_pos ⟨hp, hs⟩]
          subst hp; subst hs
          clear HE HE2 HX1
          go_upto_region 9 with fail
          go_quiet (fail)
          go_wp2
          first | refine bodyPost_end (results_none (by rfl) _ _ _) rfl ?_ | refine bodyPost_ret (results_none (by rfl) _ _ _) rfl ?_
          exact ⟨rfl, ⟨_, by rw [HX2.out]; exact HQ.out _ (below_drewN (Below.refl _ _) _)⟩, (Fr.of_below _ (below_drewN HBEL.out _)).setCell (p := ⟨g, q * 4 + 3, none⟩) (Or.inr (Or.inr rfl)) _⟩
        · have HE3 : Hid (endGo tp ts at' LS LS.length = endGo tp ts at' LS q) := by show _ = _; rw [HE.out, HE2.out, if_neg (fun h => hs h.2)]
          have e1 : (ls == ts) = false := by rw [beq_eq_false_iff_ne]; exact hs
          subst hp
          clear HE HE2
          go_upto_region 9 with fail
          go_quiet (fail)
          go_wp2
          go_roundw
          case rel => exact ⟨q, by omega, rfl, HE3.out, below_drewN HBEL.out _, below_drewN HBEL2.out _⟩
          case measure => simp [intOf]
      · have HE3 : Hid (endGo tp ts at' LS LS.length = endGo tp ts at' LS q) := by show _ = _; rw [HE.out, HE2.out, if_neg (fun h => hp h.1)]
        have e1 : (lp == tp) = false := by rw [beq_eq_false_iff_ne]; exact hp
        clear HE HE2
        go_upto_region 9 with fail
        go_quiet (fail)
        go_wp2
        go_roundw
        case rel => exact ⟨q, by omega, rfl, HE3.out, below_drewN HBEL.out _, below_drewN HBEL2.out _⟩
        case measure => simp [intOf]
end Go.Proofs.By
