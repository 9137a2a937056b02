/- The walks of package room, each function once: Subs, gone, leave, begin, mute. -/
import Derived.Test.YthlamfoldfeocaaDoorRoomWalks2
namespace Go.Proofs.Rm
open Go.RowKit Go.Proofs.Heap Go.Proofs.Mem
theorem owns_below {base : Nat} {e : TypeId} {size : Nat} {v : Value} {n : Nat} {xs : List Value} {w w' : World} (h : w.ownsRow base e size v n xs) (hb : Below w.heap.size w w') : w'.ownsRow base e size v n xs := by
  obtain ⟨h1, h2⟩ := h
  refine ⟨h1, ?_⟩
  rcases h2 with h2 | ⟨g, cap, cur, hv, hg, hh, r⟩
  · exact Or.inl h2
  · have hlt : g < w.heap.size := by
      rcases Nat.lt_or_ge g w.heap.size with h | h
      · exact h
      · rw [Array.getElem?_eq_none h] at hh; cases hh
    exact Or.inr ⟨g, cap, cur, hv, hg, by rw [hb.block g hlt]; exact hh, r⟩
def subsTo (R : Room) (n : Int) (k : Nat) : List Nat := (List.range k).filter fun p => hears R p n
theorem subsTo_succ (R : Room) (n : Int) (k : Nat) : subsTo R n (k + 1) = subsTo R n k ++ if hears R k n then [k] else [] := by
  unfold subsTo
  rw [List.range_succ, List.filter_append]
  congr 1
  cases h : hears R k n <;> simp [h]
theorem subsTo_len (R : Room) (n : Int) (k : Nat) : (subsTo R n k).length ≤ k := by
  have := List.length_filter_le (fun p : Nat => hears R p n) (List.range k)
  rw [List.length_range] at this
  exact this
theorem ints_append (a b : List Nat) : ints (a ++ b) = ints a ++ ints b := List.map_append
theorem own_le {base : Nat} {e : TypeId} {size : Nat} {v : Value} {n : Nat} {xs : List Value} {w : World} (h : w.ownsRow base e size v n xs) : ∀ k, v.ownBlock = some k → base ≤ k := by
  intro k hk
  obtain ⟨_, h⟩ := h
  rcases h with ⟨rfl, _⟩ | ⟨g, cap, cur, rfl, hg, _⟩
  · cases hk
  · have hk : some g = some k := hk
    cases hk; exact hg
set_option maxHeartbeats 1000000 in
theorem Subs_any (b : Nat) (R : Room) (n : Int) (w : World) (hR : RoomAt w b R) :
    Calls Tryd.prog 23 #[.pointer (some ⟨b, 0, none⟩), .int .i64 n] w fun e w' => (∃ v, e = .returned v ∧ Row w' 3 v (subs R n).length (ints (subs R n))) ∧ Below w.heap.size w w' := by
  have HR := Lib.hid hR
  have hb := hR.lt
  have HS : Hid (subs R n = subsTo R n 9) := rfl
  clear hR
  go_enter Tryd.func23, Tryd.ntmps23
  go_wp2
  go_loopw [5, 9] (fun v i w' => ∃ k : Nat, k ≤ 9 ∧ i = .int .i64 k ∧ Below w.heap.size w w' ∧ w'.ownsRow w.heap.size 3 1 v (subsTo R n k).length (ints (subsTo R n k))) (fun _ i _ => 9 - (intOf i).toNat)
  case atStart => exact ⟨0, by omega, rfl, Below.refl _ _, World.ownsRow_nil _ _ _ _⟩
  case round =>
    obtain ⟨k, hk, rfl, hbl, hown⟩ := hrel
    have HOWN := Lib.hid hown
    clear hown
    by_cases hk9 : k < 9
    · have cs := Sub_any b R k n wr (HR.out.below hbl)
      have HSS := Lib.hid (subsTo_succ R n k)
      have HSL := subsTo_len R n k
      cases hh : hears R k n
      · rw [hh, if_neg (by decide)] at cs
        have CS := Lib.hid cs
        clear cs
        have HF : Hid (subsTo R n (k + 1) = subsTo R n k) := by show _ = _; rw [HSS.out, hh]; simp
        clear hh
        go_wp2_with (go_at_call 17; refine CS.out.mono ?_; rintro e w1 ⟨rfl, hb1⟩)
        go_roundw
        case rel =>
          refine ⟨k + 1, by omega, by go_num, (hbl.trans (hb1.mono hbl.size)).alloc (Nat.le_trans hbl.size hb1.size) _, ?_⟩
          rw [HF.out]
          exact (owns_below HOWN.out hb1).alloc _
        case measure => simp [intOf]; omega
      · rw [hh, if_pos rfl, Int.toNat_natCast] at cs
        generalize (R.sub n.toNat k).want = wa at cs
        generalize (R.sub n.toNat k).paused = pa at cs
        have CS := Lib.hid cs
        clear cs
        have HF : Hid (subsTo R n (k + 1) = subsTo R n k ++ [k]) := by show _ = _; rw [HSS.out, hh]; simp
        clear hh
        go_wp2_with (first | (go_at_call 17; refine CS.out.mono ?_; rintro e w1 ⟨rfl, hb1⟩) | (at_builtin; refine wpList_app rfl (.tmp 20) (.tmp 22) 55 rfl w.heap.size elemInt _ (subsTo R n k).length (ints (subsTo R n k)) rfl ?a1 _ 1 [.int .i64 k] rfl ?a2 rfl ?a4 ?a5 ?a6 ?a7 (fun v' w2 HO2 HG => ?_)))
        case a1 => exact ((owns_below HOWN.out hb1).alloc _).alloc _
        case a2 => exact row_new' _ _ 1 _ [.int .i64 k] (by decide) (by simp)
        case a4 => intro u hu; simp at hu; subst hu; rfl
        case a5 => omega
        case a6 => omega
        case a7 => have h1 := hbl.size; have h2 := hb1.size; simp; omega
        go_roundw
        case rel =>
          refine ⟨k + 1, by omega, by go_num, ?_, ?_⟩
          · have h1 := hbl.trans (hb1.mono hbl.size)
            have h2 := h1.alloc h1.size (.cells #[.int .i64 k, .int .i64 n, .int .i64 wa, .bool pa] 48)
            have h3 := h2.alloc h2.size (.cells #[.int .i64 k] 3)
            exact h3.grown HG.out h3.size (own_le HOWN.out)
          · rw [HF.out, List.length_append, ints_append]
            exact HO2.out
        case measure => simp [intOf]; omega
    · have hk' : k = 9 := by omega
      subst hk'
      go_wp2
      go_ret
      exact ⟨⟨_, rfl, by rw [HS.out]; exact Row.of_owns HOWN.out⟩, hbl⟩
end Go.Proofs.Rm
