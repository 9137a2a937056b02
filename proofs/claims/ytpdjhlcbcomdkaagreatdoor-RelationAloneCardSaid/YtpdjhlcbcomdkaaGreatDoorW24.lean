/- Several texts in one: Append to a slice of the call's own, and where the longer one lies. Over any program. -/
import Derived.Great.BuildSlice
import Derived.Test.YtpdjhlcbcomdkaaGreatDoorW05
set_option linter.unusedVariables false
set_option linter.unusedSimpArgs false
namespace Go.Proofs.Heap
open Go Go.RowKit
section
variable {P : Program}
theorem run_appW {w : World} (t ty : TypeId) (base : Nat) {e : TypeId} {size bytes : Nat} (E : Elem P t e size bytes) (v : Value) (n : Nat) (xs : List Value) (hown : w.ownsRow base e size v n xs)
    (b m c : Nat) (news : List Value) (hrow : Row w e (.slice (some ⟨b, 0, none⟩) m c) m news) (hl : news.length = m * size) (h1 : ∀ u ∈ news, u.oneCell' = true) (hm : 0 < m)
    (hbytes : (n + m) * bytes ≤ 140737488355328) (h63 : n + m ≤ 9223372036854775807) (hbase : base ≤ w.heap.size) :
    ∃ v' w', (Builtin.append_ #[t, t] ty #[v, .slice (some ⟨b, 0, none⟩) m c]).run P w = .ok v' w' ∧ w'.ownsRow base e size v' (n + m) (xs ++ news) ∧ w.grownBy w' v.ownBlock ∧
      ∀ i, v'.ownBlock = some i → v.ownBlock = some i ∨ i = w.heap.size := by
  obtain ⟨v', w', hr, h2, h3⟩ := run_app (P := P) t ty base E v n xs hown _ m news hrow hl h1 hbytes h63 hbase
  refine ⟨v', w', hr, h2, h3, ?_⟩
  obtain ⟨z, hinfo, hzs⟩ := E.info
  obtain ⟨i, hi, hz, hsize, hby⟩ := info_parts hinfo
  subst hsize
  subst hby
  have hnews : ∀ j u, news[j]? = some u → w.cell? ((⟨b, 0, none⟩ : Addr).add j) = some u := by
    obtain ⟨ad, cap, hv, _, _, _, hr⟩ := hrow
    injection hv with hv _ _
    subst hv
    intro j u hu
    rcases hr with hr | ⟨b', off, c', fr, hab, hb, hc⟩
    · subst hr; simp at hu
    · cases hab
      have hj : j < news.length := (List.getElem?_eq_some_iff.1 hu).1
      have := hc j hj
      have hadd : (⟨b, 0, none⟩ : Addr).add j = ⟨b, 0 + j, none⟩ := by unfold Addr.add; split <;> simp_all
      rw [hadd]
      simp only [World.cell?, hb]
      simpa [hu] using this
  have hl2 : ∀ k, (Value.slice (some ⟨w.heap.size, 0, none⟩) (n + m) k).ownBlock = some w.heap.size := fun _ => rfl
  rcases hown.2 with ⟨rfl, rfl⟩ | ⟨g, cap, cur, rfl, hbg, hg, hnc, hcm, hcs, htake⟩
  · rw [Nat.zero_add] at hbytes
    have hr2 := run_append_nil (P := P) w t ty e i z E.ht hi hz ⟨b, 0, none⟩ m c news hl hnews hm (by omega) (by omega)
    rw [hr2] at hr
    injection hr with e1 _
    subst e1
    intro k hk
    exact Or.inr (Option.some.inj hk).symm
  · by_cases hroom : n + m ≤ cap
    · have hfit : n * i.size + news.length ≤ cur.size := by rw [hl, hcs, ← Nat.add_mul]; exact Nat.mul_le_mul_right _ hroom
      have hr2 := run_append_room (P := P) w t ty e i E.ht hi g n cap cur hg ⟨b, 0, none⟩ m c news hl hnews h1 hroom hfit
      rw [hr2] at hr
      injection hr with e1 _
      subst e1
      intro k hk
      exact Or.inl hk
    · have holds : ∀ j u, xs[j]? = some u → w.cell? ((⟨g, 0, none⟩ : Addr).add j) = some u := hown.cells (g := g) rfl
      have hr2 := run_append_grow (P := P) w t ty e i z E.ht hi hz ⟨g, 0, none⟩ n cap xs hown.1 holds ⟨b, 0, none⟩ m c news hl hnews (by omega) (by omega) (growslice_fits (by omega) hbytes)
      rw [hr2] at hr
      injection hr with e1 _
      subst e1
      intro k hk
      exact Or.inr (Option.some.inj hk).symm
theorem step_appW {ops : Array Oper} {o : Oper} {a : Act} {w : World} {K : Act → World → Prop} {Q : Exit → Act → World → Prop} {E' : Prop} (hgd : o.guard = none) (s x : Operand) (t : TypeId)
    (ho : o.op = .call { callee := .builtin .append, args := #[s, x], argTypes := #[t, t] })
    (base : Nat) {e : TypeId} {size bytes : Nat} (E : Elem P t e size bytes)
    (v : Value) (n : Nat) (xs : List Value) (hs : a.eval s = v) (hown : w.ownsRow base e size v n xs)
    (b m c : Nat) (news : List Value) (hx : a.eval x = .slice (some ⟨b, 0, none⟩) m c) (hrow : Row w e (.slice (some ⟨b, 0, none⟩) m c) m news) (hl : news.length = m * size) (h1 : ∀ u ∈ news, u.oneCell' = true) (hm : 0 < m)
    (hbytes : (n + m) * bytes ≤ 140737488355328) (h63 : n + m ≤ 9223372036854775807) (hbase : base ≤ w.heap.size)
    (h : ∀ v' w', Hid (w'.ownsRow base e size v' (n + m) (xs ++ news)) → Hid (w.grownBy w' v.ownBlock) → Hid (∀ i, v'.ownBlock = some i → v.ownBlock = some i ∨ i = w.heap.size) → K (a.put o.dst v') w') :
    if Region.wanted o (yielded ops a.tmps) = true then Oper.wp P o a w K Q else E' := by
  have hw : Region.wanted o (yielded ops a.tmps) = true := by simp [Region.wanted, hgd]
  rw [if_pos hw]
  obtain ⟨v', w', hrun, h2, h3, h4⟩ := run_appW (P := P) t o.type base E v n xs hown b m c news hrow hl h1 hm hbytes h63 hbase
  unfold Oper.wp
  simp [execOp, ho, resolve, invoke, builtin, hs, hx, hrun, Result.andThen]
  exact h v' w' h2 h3 h4
theorem step_slice1v {ops : Array Oper} {o : Oper} {a : Act} {w : World} {K : Act → World → Prop} {Q : Exit → Act → World → Prop} {E' : Prop} (hgd : o.guard = none) {t e : TypeId} {bytes : Nat} (E : Elem P t e 1 bytes) (x : Operand) (ho : o.op = .buildSlice t 1 #[(0, x)])
    (v : Value) (hx : a.eval x = v) (hv : v.cells = #[v])
    (h : K (a.put o.dst (.slice (some ⟨w.heap.size, 0, none⟩) 1 1)) (w.alloc (.cells #[v] e))) : if Region.wanted o (yielded ops a.tmps) = true then Oper.wp P o a w K Q else E' := by
  have hw : Region.wanted o (yielded ops a.tmps) = true := by simp [Region.wanted, hgd]
  rw [if_pos hw]
  obtain ⟨z, hinfo, hzs⟩ := E.info
  obtain ⟨i, hi, hz, hsize, hby⟩ := info_parts hinfo
  refine Go.wp_buildSlice t e 1 #[(0, x)] ho #[v] i z E.ht hi hz (by rw [hsize]; omega) (by rw [hsize]; omega) ?_ h
  have hf := Go.Great.fill_whole (s := i.size) (by omega) [v] ((Array.range (1 * i.size)).map (z.cells[· % z.cells.size]!)) (fun u hu => by rw [List.mem_singleton] at hu; subst hu; rw [hv]; show 1 = _; omega) (by simp)
  have e1 : ([v].flatMap fun v => v.cells.toList).toArray = #[v] := by simp [hv]
  rw [e1] at hf
  simpa [hx] using hf
end
end Go.Proofs.Heap
