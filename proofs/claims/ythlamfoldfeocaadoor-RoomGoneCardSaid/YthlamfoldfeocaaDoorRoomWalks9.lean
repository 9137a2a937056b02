/- The walks of package room, each function once: leave. -/
import Derived.Test.YthlamfoldfeocaaDoorRoomWalks4
namespace Go.Proofs.Rm
open Go.RowKit Go.Proofs.Heap Go.Proofs.Mem
theorem leave1_succ (p : Nat) (R : Room) (k : Nat) : leave1 p R (k + 1) = if ((leave1 p R k).2.sub k p).there then ((leave1 p R k).1 ++ [⟨2, p, k, 0, 0⟩], (leave1 p R k).2.setSub k p noSub) else leave1 p R k := rfl
theorem leave2_succ (p : Nat) (R : Room) (k : Nat) : leave2 R p (k + 1) = if (R.src k).there && decide ((R.src k).own = p) then ((leave2 R p k).1 ++ (gone (leave2 R p k).2 k).1, (gone (leave2 R p k).2 k).2) else leave2 R p k := rfl
theorem gone_len (R : Room) (n : Nat) : (gone R n).1.length ≤ 18 := by
  unfold gone
  dsimp only
  rw [goneGo_len]
  have := subs_len R n
  omega
theorem leave1_len (p : Nat) (R : Room) : ∀ k, (leave1 p R k).1.length ≤ k
  | 0 => Nat.le_refl _
  | k + 1 => by
    rw [leave1_succ]
    have := leave1_len p R k
    split
    · simp; omega
    · omega
theorem leave2_len (p : Nat) (R : Room) : ∀ k, (leave2 R p k).1.length ≤ k * 18
  | 0 => Nat.le_refl _
  | k + 1 => by
    rw [leave2_succ]
    have := leave2_len p R k
    have := gone_len (leave2 R p k).2 k
    split
    · simp; omega
    · omega
theorem names_setName (R : Room) (p : Nat) (s : List UInt8) : (R.setName p s).names p = s := by simp [Room.setName]
theorem RoomAt.setName {w : World} {b : Nat} {R : Room} (h : RoomAt w b R) {p : Nat} (hp : p < 9) (s : List UInt8) : RoomAt (w.setCell ⟨b, p, none⟩ (.string (str s))) b (R.setName p s) := by
  refine h.set (by omega) (fun j hj => ?_) h.rows
  unfold roomCell
  by_cases h1 : j < 9
  · rw [if_pos h1, if_pos h1]
    by_cases h2 : j = p
    · subst h2; rw [if_pos rfl, names_setName]
    · rw [if_neg h2]; simp [Room.setName, h2]
  · rw [if_neg h1, if_neg h1, if_neg (by omega : ¬ j = p)]; rfl
set_option maxHeartbeats 2000000 in
theorem leave_any (b : Nat) (R : Room) (p : Nat) (w : World) (hR : RoomAt w b R) (hp : p < 9) :
    Calls Tryd.prog 55 #[.pointer (some ⟨b, 0, none⟩), .int .i64 p] w fun e w' => (∃ v, e = .returned v ∧ TurnRow w' v (leave R p).1) ∧ RoomAt w' b (leave R p).2 ∧ Fr w.heap.size (· = b) w w' := by
  have hb := hR.lt
  have HL0 : Hid (leave R p = ((leave1 p R 9).1 ++ (leave2 (leave1 p R 9).2 p 9).1, (leave2 (leave1 p R 9).2 p 9).2.setName p [])) := rfl
  have HR := Lib.hid hR
  clear hR
  go_enter Tryd.func55, Tryd.ntmps55
  go_wp2
  go_loopw [5, 9] (fun v i w' => ∃ k : Nat, k ≤ 9 ∧ i = .int .i64 k ∧ Fr w.heap.size (· = b) w w' ∧ RoomAt w' b (leave1 p R k).2 ∧ w'.ownsRow w.heap.size 59 5 v (leave1 p R k).1.length ((leave1 p R k).1.flatMap turnCells)) (fun _ i _ => 9 - (intOf i).toNat)
  case atStart => exact ⟨0, by omega, rfl, Fr.refl _ _ _, HR.out, World.ownsRow_nil _ _ _ _⟩
  case round =>
    obtain ⟨k, hk, rfl, hfr, hroom, hown⟩ := hrel
    have HFR := Lib.hid hfr
    have HROOM := Lib.hid hroom
    have HOWN := Lib.hid hown
    clear hfr hroom hown
    by_cases hk9 : k < 9
    · have HS := Lib.hid (leave1_succ p R k)
      have HGL := leave1_len p R k
      have CE := Lib.hid (end_any b (leave1 p R k).2 p k wr HROOM.out hk9 hp)
      obtain ⟨c0, c1, c2⟩ := HROOM.out.subc hk9 hp
      clear c1 c2
      generalize leave1 p R k = G at *
      cases ht : (G.2.sub k p).there
      · rw [ht] at c0
        have HF : Hid (leave1 p R (k + 1) = G) := by show _ = _; rw [HS.out, ht]; rfl
        clear ht
        go_wp2
        go_roundw
        case rel => exact ⟨k + 1, by omega, by go_num, HFR.out, by rw [HF.out]; exact HROOM.out, by rw [HF.out]; exact HOWN.out⟩
        case measure => simp [intOf]; omega
      · rw [ht] at c0
        have HF : Hid (leave1 p R (k + 1) = (G.1 ++ [⟨2, p, k, 0, 0⟩], G.2.setSub k p noSub)) := by show _ = _; rw [HS.out, ht]; rfl
        clear ht
        go_wp2_with (first | (go_at_call 57; refine CE.out.mono ?_; rintro e w2 ⟨rfl, hroom2, hfr2⟩; have HROOM2 := Lib.hid hroom2; have HFR2 := Lib.hid hfr2; clear hroom2 hfr2) | (at_builtin; refine wpList_app rfl (.tmp 21) (.tmp 26) 33 rfl w.heap.size elemTurn _ G.1.length (G.1.flatMap turnCells) rfl ?a1 _ 1 ([⟨2, p, k, 0, 0⟩].flatMap turnCells) rfl ?a2 rfl ?a4 ?a5 ?a6 ?a7 (fun v' w3 HO HG => ?_)))
        case a1 => exact (owns_fr HOWN.out HFR2.out (fun k hk => by omega)).alloc _
        case a2 => exact row_new' _ _ 1 _ ([⟨2, p, k, 0, 0⟩].flatMap turnCells) (by decide) rfl
        case a4 => exact turns_one _
        case a5 => omega
        case a6 => omega
        case a7 => have h1 := HFR.out.size; have h2 := HFR2.out.size; simp; omega
        go_roundw
        case rel =>
          have h1 := HFR.out.size
          have h2 := HFR2.out.size
          have hown2 := (owns_fr HOWN.out HFR2.out (fun k hk => by omega)).alloc (.cells ([⟨2, p, k, 0, 0⟩].flatMap turnCells).toArray 59)
          have hbl := below_alloc w2 (.cells ([⟨2, p, k, 0, 0⟩].flatMap turnCells).toArray 59)
          refine ⟨k + 1, by omega, by go_num, ?_, ?_, ?_⟩
          · have h3 := HFR.out.trans (HFR2.out.mono (by omega) (fun _ _ h => h))
            exact (h3.alloc (by omega) _).grown HG.out (by simp; omega) (own_le HOWN.out)
          · rw [HF.out]
            exact RoomAt.grown (HROOM2.out.below hbl) hown2 HG.out hb (by decide)
          · rw [HF.out]
            dsimp only
            rw [List.length_append, List.flatMap_append]
            exact HO.out
        case measure => simp [intOf]; omega
    · obtain rfl : k = 9 := by omega
      have HGL := leave1_len p R 9
      have HL2 : Hid (∀ k, leave2 (leave1 p R 9).2 p (k + 1) = if ((leave1 p R 9).2.src k).there && decide (((leave1 p R 9).2.src k).own = p) then ((leave2 (leave1 p R 9).2 p k).1 ++ (gone (leave2 (leave1 p R 9).2 p k).2 k).1, (gone (leave2 (leave1 p R 9).2 p k).2 k).2) else leave2 (leave1 p R 9).2 p k) := fun k => leave2_succ p _ k
      have HLL : Hid (∀ k, (leave2 (leave1 p R 9).2 p k).1.length ≤ k * 18) := fun k => leave2_len p _ k
      have HL20 : Hid (leave2 (leave1 p R 9).2 p 0 = ([], (leave1 p R 9).2)) := rfl
      generalize leave1 p R 9 = X at *
      have hcs : ∀ j, j < (srcsArr X.2).size → wr.cell? ⟨b, 9 + j, none⟩ = (srcsArr X.2)[j]? := by
        intro j hj
        rw [srcsArr_size] at hj
        rw [HROOM.out.cell (by omega), srcsArr_at X.2 j hj]
      have hinfo : (Tryd.prog.info? 82).map (·.size) = some (srcsArr X.2).size := by rw [srcsArr_size]; kernel_rfl
      have HP : Hid (∀ n : Nat, n < 9 → ∀ w, (Instr.index 82 (.agg (srcsArr X.2)) (.int .i64 (n : Int))).run Tryd.prog w = .ok (.agg #[.bool (X.2.src n).there, .int .i64 (X.2.src n).num, .int .i64 (X.2.src n).own, (X.2.src n).sv, .bool (X.2.src n).muted]) w) :=
        fun n hn w => Load.run_index_agg w 82 81 9 (srcsArr X.2) n 5 _ Tryd.underlying82 hn Tryd.underlying81 rfl (by kernel_rfl) _ (srcsArr_part X.2 n hn)
      have HSV : Hid (∀ n, n < 9 → ∃ a c, (X.2.src n).sv = .slice a (X.2.src n).ss.length c) := fun n hn => by
        obtain ⟨a, c, h, _⟩ := HROOM.out.rows n hn
        exact ⟨a, c, h⟩
      generalize srcsArr X.2 = CS at *
      obtain ⟨wo, rfl⟩ : ∃ wo : World, wo = wr := ⟨_, rfl⟩
      go_wp2_with (refine Load.wpList_load_part rfl 82 (.tmp 31) rfl b 9 rfl CS (.array 9 81) hcs Tryd.underlying82 rfl hinfo ?_)
      clear hcs hinfo
      go_loopw [5, 33] (fun v i w' => ∃ k : Nat, k ≤ 9 ∧ i = .int .i64 k ∧ Fr w.heap.size (· = b) w w' ∧ RoomAt w' b (leave2 X.2 p k).2 ∧ w'.ownsRow w.heap.size 59 5 v (X.1 ++ (leave2 X.2 p k).1).length ((X.1 ++ (leave2 X.2 p k).1).flatMap turnCells)) (fun _ i _ => 9 - (intOf i).toNat)
      case atStart => exact ⟨0, by omega, rfl, HFR.out, by rw [HL20.out]; exact HROOM.out, by rw [HL20.out, List.append_nil]; exact HOWN.out⟩
      case round =>
        obtain ⟨k, hk, rfl, hfr, hroom, hown⟩ := hrel
        clear HFR HROOM HOWN HL20
        have HFR := Lib.hid hfr
        have HROOM := Lib.hid hroom
        have HOWN := Lib.hid hown
        clear hfr hroom hown
        by_cases hk9 : k < 9
        · have HS := Lib.hid (HL2.out k)
          have HGL2 := HLL.out k
          have HGN := gone_len (leave2 X.2 p k).2 k
          have hix := HP.out k hk9
          have hsz := HFR.out.size
          have CG := Lib.hid (fun w1 (h : Below wr.heap.size wr w1) => gone_any b (leave2 X.2 p k).2 k w1 (HROOM.out.below h) hk9)
          obtain ⟨sa, sc, hsv⟩ := HSV.out k hk9
          rw [hsv] at hix
          clear hsv
          generalize leave2 X.2 p k = G at *
          generalize (X.2.src k).num = u1 at *
          generalize (X.2.src k).muted = u4 at *
          generalize (X.2.src k).ss.length = ul at *
          cases ht : (X.2.src k).there
          · have HF : Hid (leave2 X.2 p (k + 1) = G) := by show _ = _; rw [HS.out, ht]; rfl
            rw [ht] at hix
            clear ht
            go_wp2
            go_roundw
            case rel => exact ⟨k + 1, by omega, by go_num, HFR.out.alloc hsz _, by rw [HF.out]; exact HROOM.out.below (below_alloc _ _), by rw [HF.out]; exact HOWN.out.alloc _⟩
            case measure => simp [intOf]; omega
          · by_cases ho : (X.2.src k).own = p
            · have HF : Hid (leave2 X.2 p (k + 1) = (G.1 ++ (gone G.2 k).1, (gone G.2 k).2)) := by show _ = _; rw [HS.out, ht, ho]; simp
              rw [ht, ho] at hix
              clear ht ho
              generalize gone G.2 k = Y at *
              go_wp2_with (first | (go_at_call 50; refine (CG.out _ (below_alloc _ _)).mono ?_; rintro e w2 ⟨⟨tv, rfl, htr⟩, hroom2, hfr2⟩; have HTR := Lib.hid htr; have HROOM2 := Lib.hid hroom2; have HFR2 := Lib.hid hfr2; clear hroom2 hfr2 htr) | (at_builtin; refine wpList_app rfl (.tmp 46) (.tmp 49) 33 rfl w.heap.size elemTurn _ (X.1 ++ G.1).length ((X.1 ++ G.1).flatMap turnCells) rfl ?b1 _ Y.1.length (Y.1.flatMap turnCells) rfl ?b2 ?b3 ?b4 ?b5 ?b6 ?b7 (fun v' w3 HO HG => ?_)))
              case b1 => exact owns_fr (HOWN.out.alloc _) HFR2.out (fun k hk => by omega)
              case b2 => exact HTR.out
              case b3 => exact turns_len _
              case b4 => exact turns_one _
              case b5 => simp; omega
              case b6 => simp; omega
              case b7 => have h2 := HFR2.out.size; simp at h2; omega
              go_roundw
              case rel =>
                have h2 := HFR2.out.size
                simp at h2
                refine ⟨k + 1, by omega, by go_num, ?_, ?_, ?_⟩
                · have h3 := (HFR.out.alloc hsz _).trans (HFR2.out.mono (by simp; omega) (fun _ _ h => h))
                  exact h3.grown HG.out (by omega) (own_le HOWN.out)
                · rw [HF.out]
                  exact RoomAt.grown HROOM2.out (owns_fr (HOWN.out.alloc _) HFR2.out (fun k hk => by omega)) HG.out hb (by decide)
                · rw [HF.out]
                  dsimp only
                  rw [← List.append_assoc, List.length_append, List.flatMap_append]
                  exact HO.out
              case measure => simp [intOf]; omega
            · have HF : Hid (leave2 X.2 p (k + 1) = G) := by show _ = _; rw [HS.out, ht]; simp [ho]
              have hbq : ((X.2.src k).own == (p : Int)) = false := by rw [beq_eq_false_iff_ne]; exact ho
              rw [ht] at hix
              clear ht ho
              generalize (X.2.src k).own = u2 at *
              go_wp2
              go_roundw
              case rel => exact ⟨k + 1, by omega, by go_num, HFR.out.alloc hsz _, by rw [HF.out]; exact HROOM.out.below (below_alloc _ _), by rw [HF.out]; exact HOWN.out.alloc _⟩
              case measure => simp [intOf]; omega
        · obtain rfl : k = 9 := by omega
          have c0 := HROOM.out.namec hp
          have f0 := HROOM.out.unfrozen p
          clear HP HL2 HLL
          generalize leave2 X.2 p 9 = G at *
          go_wp2
          go_ret
          rw [HL0.out]
          exact ⟨⟨_, rfl, (Row.of_owns HOWN.out).fr ((Fr.refl wr.heap.size (· = b) wr).setAt _ _) (Nat.le_refl _) (HROOM.out.typ (by decide))⟩, HROOM.out.setName hp [], HFR.out.setAt _ _⟩
end Go.Proofs.Rm
