/- The walks of package room, each function once: joins. -/
import Derived.Test.YthlamfoldfeocaaDoorRoomWalks8
import Derived.Test.YthlamfoldfeocaaDoorLbWalks2
import Derived.Deep.RegionHeld3
namespace Go.Proofs.Rm
open Go.RowKit Go.Proofs.Heap Go.Proofs.Mem
open Go.Proofs.Lab (may key Tabs)
theorem may_str (l : List UInt8) : may (str l).data.toList = may l := rfl
def namesArr (R : Room) : Array Value := ((List.range 9).map fun j => Value.string (str (R.names j))).toArray
theorem namesArr_size (R : Room) : (namesArr R).size = 9 := by simp [namesArr]
theorem namesArr_at (R : Room) (j : Nat) (h : j < 9) : (namesArr R)[j]? = some (.string (str (R.names j))) := by simp [namesArr, h]
theorem str_inj {a b : List UInt8} : str a = str b ↔ a = b := by
  constructor
  · intro h
    have := congrArg (fun b : ByteArray => b.data.toList) h
    simpa [str] using this
  · rintro rfl; rfl
set_option maxRecDepth 100000 in
set_option maxHeartbeats 4000000 in
theorem joins_any (b : Nat) (R : Room) (o : Op) (sa ba : Option Addr) (sl sc bl bc : Nat) (w : World) (hR : RoomAt w b R) (hp : 1 ≤ o.peer ∧ o.peer < 9) (hT : Tabs w) (hnm : o.name.length < 9223372036854775807) (hRn : ∀ p, (R.names p).length < 9223372036854775807) :
    Calls Tryd.prog 52 #[.pointer (some ⟨b, 0, none⟩), .agg #[.int .i64 o.kind, .int .i64 o.peer, .int .i64 o.source, .int .i64 o.layer, .string (str o.name), .slice sa sl sc, .slice ba bl bc]] w fun e w' => e = .returned (.int .i64 (joins R o)) ∧ Below w.heap.size w w' := by
  have CJ := Lib.hid (fun (w1 : World) (h : Below w.heap.size w w1) => Joined_any b R o.peer w1 (hR.below h))
  obtain ⟨kd, p, n, q, nm, ss⟩ := o
  have hb := hR.lt
  have HJ : Hid (joins R ⟨kd, p, n, q, nm, ss⟩ = if joined R p then 9 else if !may nm then 12 else if (List.range 9).any (sameKey R ⟨kd, p, n, q, nm, ss⟩) then 9 else 0) := rfl
  have CM : Hid (∀ w1, Calls Tryd.prog 47 #[.string (str nm)] w1 fun e w' => e = .returned (.bool (may nm)) ∧ Below w1.heap.size w1 w') := fun w1 => Lab.May_any (str nm) w1 (by rw [str_size]; exact hnm)
  have CK : Hid (∀ (s : List UInt8) w1, s.length < 9223372036854775807 → Below w.heap.size w w1 → Calls Tryd.prog 28 #[.string (str s)] w1 fun e w' => e = .returned (.string (str (key s))) ∧ Below w1.heap.size w1 w') := fun s w1 hs h => Lab.Key_any (str s) w1 (by rw [str_size]; exact hs) (Utf8Tabs_below hT h)
  dsimp only at *
  have hcs : ∀ j, j < (namesArr R).size → w.cell? ⟨b, 0 + j, none⟩ = (namesArr R)[j]? := by
    intro j hj
    rw [namesArr_size] at hj
    rw [Nat.zero_add, hR.namec hj, namesArr_at R j hj]
  have hinfo : (Tryd.prog.info? 79).map (·.size) = some (namesArr R).size := by rw [namesArr_size]; kernel_rfl
  have HP : Hid (∀ n : Nat, n < 9 → ∀ w, (Instr.index 79 (.agg (namesArr R)) (.int .i64 (n : Int))).run Tryd.prog w = .ok (.string (str (R.names n))) w) :=
    fun n hn w => Load.run_index_cell w 79 9 9 (namesArr R) n _ Tryd.underlying79 hn Tryd.underlying9 rfl (by kernel_rfl) _ (namesArr_at R n hn)
  have HCS := Lib.hid hcs
  have HNL := Lib.hid hRn
  have hnmL := hnm
  clear hR hcs hRn hnm
  generalize namesArr R = CS at *
  generalize joins R ⟨kd, p, n, q, nm, ss⟩ = jn at *
  cases hj : joined R p
  · cases hm : may nm
    · have HF : Hid (jn = 12) := by show _ = _; rw [HJ.out, hj, hm]; rfl
      rw [hj] at CJ
      rw [hm] at CM
      clear hj hm HJ
      go_enter Tryd.func52, Tryd.ntmps52
      go_wp2_with (first | (go_at_call 20; refine (CJ.out _ (below_alloc _ _)).mono ?_; rintro e w1 ⟨rfl, rfl⟩) | (go_at_call 47; refine (CM.out _).mono ?_; rintro e w1 ⟨rfl, hb1⟩))
      go_ret
      exact ⟨ret_int HF.out.symm, (below_alloc _ _).trans (hb1.mono (by simp))⟩
    · have HJ2 : Hid (jn = if (List.range 9).any (sameKey R ⟨kd, p, n, q, nm, ss⟩) then 9 else 0) := by show _ = _; rw [HJ.out, hj, hm]; rfl
      rw [hj] at CJ
      rw [hm] at CM
      clear hj hm HJ
      have hroom : ∀ w', Below w.heap.size w w' → ∀ j, j < CS.size → w'.cell? ⟨b, 0 + j, none⟩ = CS[j]? := fun w' h j hj => by
        rw [h.cell (p := ⟨b, 0 + j, none⟩) hb]; exact HCS.out j hj
      have HROOM := Lib.hid hroom
      clear hroom
      go_enter Tryd.func52, Tryd.ntmps52
      go_wp2_with (first | (go_at_call 20; refine (CJ.out _ (below_alloc _ _)).mono ?_; rintro e w1 ⟨rfl, rfl⟩) | (go_at_call 47; refine (CM.out _).mono ?_; rintro e w1 ⟨rfl, hb1⟩; have hbl1 := (below_alloc w _).trans (hb1.mono (by simp)); have hc1 := HROOM.out _ hbl1; have hbox1 := hb1.cell (p := ⟨w.heap.size, 4, none⟩) (by simp); simp at hbox1) | (refine Load.wpList_load_part rfl 79 (.tmp 17) rfl b 0 rfl CS (.array 9 9) hc1 Tryd.underlying79 rfl hinfo ?_))
      have hz1 : w.heap.size < w1.heap.size := by have := hb1.size; simp at this; omega
      clear hc1 hinfo
      go_loopw [19] (fun i w' => ∃ k : Nat, k ≤ 9 ∧ i = .int .i64 k ∧ Below w.heap.size w w' ∧ w.heap.size < w'.heap.size ∧ w'.cell? ⟨w.heap.size, 4, none⟩ = some (.string (str nm)) ∧ Hid (∀ j, j < k → sameKey R ⟨kd, p, n, q, nm, ss⟩ j = false)) (fun i _ => 9 - (intOf i).toNat)
      case atStart => exact ⟨0, Nat.zero_le _, rfl, hbl1, hz1, hbox1, fun j hj => by omega⟩
      case round =>
        obtain ⟨k, hk, rfl, hbl, hsz, hbox, hno⟩ := hrel
        by_cases hk9 : k < 9
        · have hix := HP.out k hk9
          have HSK : Hid (sameKey R ⟨kd, p, n, q, nm, ss⟩ k = (!(R.names k).isEmpty && decide (key (R.names k) = key nm))) := rfl
          have hkl := HNL.out k
          have HIN : Hid (sameKey R ⟨kd, p, n, q, nm, ss⟩ k = true → jn = 9) := by
            intro h
            rw [HJ2.out, if_pos]
            rw [List.any_eq_true]
            exact ⟨k, by simpa using hk9, h⟩
          generalize R.names k = nk at *
          cases hne : nk.isEmpty
          · have e1 : (str nk).toList.isEmpty = false := by rw [str_emp]; exact hne
            have CK1 := Lib.hid (fun w2 (h : Below w.heap.size w w2) => CK.out nk w2 hkl h)
            have CK2 := Lib.hid (fun w2 (h : Below w.heap.size w w2) => CK.out nm w2 hnmL h)
            rw [hne] at HSK
            clear hne
            by_cases hke : key nk = key nm
            · have HF := Lib.hid (HIN.out (by rw [HSK.out, hke]; simp))
              rw [hke] at CK1
              clear hke
              go_wp2_with fail
              go_region_held3 (fun w' => w'.cell? ⟨w.heap.size, 4, none⟩ = some (.string (str nm)) ∧ Below w.heap.size w w' ∧ w.heap.size < w'.heap.size) (first | (refine ⟨?_, ?_, ?_⟩ <;> first | assumption | (refine Below.drew ?_; assumption)) | go_keep) (first | (go_at_call 28; go_split_ands; refine Calls.mono (CK1.out _ (by assumption)) ?_; rintro e w2 ⟨rfl, hb2⟩; have hbox2 := (hb2.cell (p := ⟨w.heap.size, 4, none⟩) (by assumption)).trans (by assumption); have hbl2 := Below.trans (by assumption) (hb2.mono (Nat.le_of_lt (by assumption))); have hsz2 := Nat.lt_of_lt_of_le (by assumption) hb2.size) | (go_at_call 28; go_split_ands; refine Calls.mono (CK2.out _ (by assumption)) ?_; rintro e w3 ⟨rfl, hb3⟩; have hbox3 := (hb3.cell (p := ⟨w.heap.size, 4, none⟩) (by assumption)).trans (by assumption); have hbl3 := Below.trans (by assumption) (hb3.mono (Nat.le_of_lt (by assumption))); have hsz3 := Nat.lt_of_lt_of_le (by assumption) hb3.size))
              all_goals (go_wp2; go_ret; exact ⟨ret_int HF.out.symm, by assumption⟩)
            · have HF : Hid (sameKey R ⟨kd, p, n, q, nm, ss⟩ k = false) := by show _ = _; rw [HSK.out]; simp [hke]
              have e3 : ((str (key nk)).toList == (str (key nm)).toList) = false := by rw [beq_eq_false_iff_ne, ByteArray.toList_eq, ByteArray.toList_eq]; exact hke
              clear hke
              go_wp2_with fail
              go_region_held3 (fun w' => w'.cell? ⟨w.heap.size, 4, none⟩ = some (.string (str nm)) ∧ Below w.heap.size w w' ∧ w.heap.size < w'.heap.size) (first | (refine ⟨?_, ?_, ?_⟩ <;> first | assumption | (refine Below.drew ?_; assumption)) | go_keep) (first | (go_at_call 28; go_split_ands; refine Calls.mono (CK1.out _ (by assumption)) ?_; rintro e w2 ⟨rfl, hb2⟩; have hbox2 := (hb2.cell (p := ⟨w.heap.size, 4, none⟩) (by assumption)).trans (by assumption); have hbl2 := Below.trans (by assumption) (hb2.mono (Nat.le_of_lt (by assumption))); have hsz2 := Nat.lt_of_lt_of_le (by assumption) hb2.size) | (go_at_call 28; go_split_ands; refine Calls.mono (CK2.out _ (by assumption)) ?_; rintro e w3 ⟨rfl, hb3⟩; have hbox3 := (hb3.cell (p := ⟨w.heap.size, 4, none⟩) (by assumption)).trans (by assumption); have hbl3 := Below.trans (by assumption) (hb3.mono (Nat.le_of_lt (by assumption))); have hsz3 := Nat.lt_of_lt_of_le (by assumption) hb3.size))
              all_goals
                go_wp2
                go_roundw
                case rel => exact ⟨k + 1, by omega, by go_num, by assumption, by assumption, by assumption, fun j hj => by by_cases hjk : j < k; exact hno.out j hjk; rw [show j = k by omega]; exact HF.out⟩
                case measure => simp [intOf]; omega
          · have hnk : nk = [] := List.isEmpty_iff.1 hne
            have e1 : (str nk).toList = [] := (str_ne _).2 hnk
            have e2 : (str nk).toList.isEmpty = true := by rw [str_emp]; exact hne
            have HF : Hid (sameKey R ⟨kd, p, n, q, nm, ss⟩ k = false) := by show _ = _; rw [HSK.out, hne]; rfl
            clear hne hnk
            go_wp2
            go_quiet (fail)
            go_wp2
            go_roundw
            case rel => exact ⟨k + 1, by omega, by go_num, below_drewN hbl _, hsz, hbox, fun j hj => by by_cases hjk : j < k; exact hno.out j hjk; rw [show j = k by omega]; exact HF.out⟩
            case measure => simp [intOf]; omega
        · have HF : Hid (jn = 0) := by
            show _ = _
            rw [HJ2.out, if_neg]
            rw [List.any_eq_true]
            rintro ⟨j, hj, hj2⟩
            rw [hno.out j (by simp at hj; omega)] at hj2
            cases hj2
          go_wp2
          go_ret
          exact ⟨ret_int HF.out.symm, hbl⟩
  · have HF : Hid (jn = 9) := by show _ = _; rw [HJ.out, hj]; rfl
    rw [hj] at CJ
    clear hj HJ
    go_enter Tryd.func52, Tryd.ntmps52
    go_wp2_with (first | (go_at_call 20; refine (CJ.out _ (below_alloc _ _)).mono ?_; rintro e w1 ⟨rfl, rfl⟩))
    go_ret
    exact ⟨ret_int HF.out.symm, below_alloc _ _⟩
end Go.Proofs.Rm
