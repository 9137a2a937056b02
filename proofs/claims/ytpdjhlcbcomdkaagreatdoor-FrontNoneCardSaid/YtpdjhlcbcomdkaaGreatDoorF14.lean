/- Several texts in one: The walks of package room, each function once: turns (switch). The plain room: what holds of every room that was made by operations is kept by each. No program in sight. The plain room: an operation that may be done keeps what holds of every room. -/
import Derived.Test.YtpdjhlcbcomdkaaGreatDoorF05
import Derived.Test.YtpdjhlcbcomdkaaGreatDoorF13
namespace Go.Proofs.Rm
open Go.RowKit Go.Proofs.Heap Go.Proofs.Mem
section
variable (b : Nat) (R : Room) (p n q : Int) (nm : List UInt8) (ss : List Int) (sa ba : Option Addr) (sl sc bl bc : Nat) (w : World) (hR : RoomAt w b R)
include hR
set_option maxRecDepth 100000 in
set_option maxHeartbeats 4000000 in
theorem turns_switch (hp : 1 ≤ p ∧ p < 9) (hn : 1 ≤ n ∧ n < 9) (hw : 0 ≤ q ∧ q < (R.src n.toNat).ss.length) :
    Calls Tryz.prog 110 #[.pointer (some ⟨b, 0, none⟩), .agg #[.int .i64 12, .int .i64 p, .int .i64 n, .int .i64 q, .string (str nm), .slice sa sl sc, .slice ba bl bc]] w (TurnsPost b R ⟨12, p, n, q, nm, ss⟩ w) := by
  obtain ⟨p, rfl⟩ := Int.eq_ofNat_of_zero_le (show 0 ≤ p by omega)
  have hp9 : p < 9 := by omega
  obtain ⟨n, rfl⟩ := Int.eq_ofNat_of_zero_le (show 0 ≤ n by omega)
  have hn9 : n < 9 := by omega
  have hb := hR.lt
  obtain ⟨c0, c1, c2⟩ := hR.subc hn9 hp9
  have fz := hR.unfrozen (54 + n * 27 + p * 3 + 2)
  have HF : Hid (turns R ⟨12, p, n, q, nm, ss⟩ (.slice none 0 0) = (⟨8, p, n, q, 0⟩ :: waits (R.setSub n p { R.sub n p with want := q }) p n, R.setSub n p { R.sub n p with want := q })) := rfl
  have HR1 := Lib.hid (hR.setSubCell hn9 hp9 (i := 2) (by omega) (x := { R.sub n p with want := q }) (v := .int .i64 q) (subCell_want _ _))
  have HFR : Hid (Fr w.heap.size (· = b) w (w.setCell ⟨b, 54 + n * 27 + p * 3 + 2, none⟩ (.int .i64 q))) := (Fr.refl _ _ _).setAt _ _
  have CW : Hid (∀ w1, RoomAt w1 b (R.setSub n p { R.sub n p with want := q }) → Calls Tryz.prog 141 #[.pointer (some ⟨b, 0, none⟩), .int .i64 p, .int .i64 n] w1 fun e w' => (∃ v, e = .returned v ∧ TurnRow w' v (waits (R.setSub n p { R.sub n p with want := q }) p n)) ∧ Below w1.heap.size w1 w') :=
    fun w1 h => waits_any b _ p n w1 h hn9 hp9 (by rw [sub_setSub]; exact hw)
  have HWL : (waits (R.setSub n p { R.sub n p with want := q }) p n).length ≤ 1 := by unfold waits; split <;> simp
  clear hR hw
  have HTX : Hid (∀ B1 B2 : Obj, TX b (R.setSub n p { R.sub n p with want := q }) w (((w.setCell ⟨b, 54 + n * 27 + p * 3 + 2, none⟩ (.int .i64 q)).alloc B1).alloc B2).drew.drew) := fun B1 B2 => ⟨((HR1.out.alloc _).alloc _).drew.drew, ((HFR.out.alloc (by simp) _).alloc (by simp) _).drew.drew, by simp⟩
  generalize waits (R.setSub n p { R.sub n p with want := q }) p n = W at *
  generalize R.setSub n p { R.sub n p with want := q } = R1 at *
  go_enter Tryz.func110, Tryz.ntmps110
  go_wp2
  go_region
  go_wp2
  go_region
  go_wp2
  have htx := HTX.out
  go_region_held3 (fun w' => w'.cell? ⟨w.heap.size + 1, 0, none⟩ = some (.int .i64 8) ∧ w'.cell? ⟨w.heap.size + 1, 1, none⟩ = some (.int .i64 p) ∧ w'.cell? ⟨w.heap.size + 1, 2, none⟩ = some (.int .i64 n) ∧ w'.cell? ⟨w.heap.size + 1, 3, none⟩ = some (.int .i64 q) ∧ w'.cell? ⟨w.heap.size + 1, 4, none⟩ = some (.int .u32 0) ∧ w'.cell? ⟨w.heap.size, 1, none⟩ = some (.int .i64 p) ∧ w'.cell? ⟨w.heap.size, 2, none⟩ = some (.int .i64 n) ∧ TX b R1 w w') ((go_split_ands; ((repeat' apply And.intro) <;> first | with_reducible assumption | ((with_reducible apply cell_drew); with_reducible assumption) | (with_reducible apply TX.drew; with_reducible assumption) | (with_reducible apply TX.drew; with_reducible apply htx) | (with_reducible apply cell_alloc; with_reducible assumption) | (with_reducible apply cell_alloc2; with_reducible assumption) | (with_reducible apply cell_alloc3; with_reducible assumption) | (with_reducible apply TX.alloc; with_reducible assumption) | (with_reducible apply TX.alloc2; with_reducible assumption) | (with_reducible apply TX.alloc3; with_reducible assumption) | ((with_reducible apply cell_drew); (with_reducible apply cell_drew); (with_reducible apply cell_drew); (with_reducible refine (cell_new2 (size_setCell _ _ _) _ _ _ _).trans ?_); rfl) | ((with_reducible apply cell_drew); (with_reducible apply cell_drew); (with_reducible apply cell_drew); (with_reducible refine (cell_new1 (size_setCell _ _ _) _ _ _ _).trans ?_); rfl) | go_keep))) (first | (go_at_call 141; go_split_ands; refine Calls.mono (CW.out _ (TX.room (by with_reducible assumption))) ?_; rintro e w2 ⟨⟨tv, rfl, htr⟩, hb2⟩; have HTR := Lib.hid htr; clear htr; have k0 := cell_below (a := ⟨w.heap.size + 1, 0, none⟩) hb2 (by with_reducible assumption); have k1 := cell_below (a := ⟨w.heap.size + 1, 1, none⟩) hb2 (by with_reducible assumption); have k2 := cell_below (a := ⟨w.heap.size + 1, 2, none⟩) hb2 (by with_reducible assumption); have k3 := cell_below (a := ⟨w.heap.size + 1, 3, none⟩) hb2 (by with_reducible assumption); have k4 := cell_below (a := ⟨w.heap.size + 1, 4, none⟩) hb2 (by with_reducible assumption); have k5 := cell_below (a := ⟨w.heap.size, 1, none⟩) hb2 (by with_reducible assumption); have k6 := cell_below (a := ⟨w.heap.size, 2, none⟩) hb2 (by with_reducible assumption); have tx2 := TX.below (by with_reducible assumption) hb2) | (go_split_ands; refine step_app (by rfl) (.tmp 132) (.tmp 138) 98 (by rfl) (w.heap.size + 2) elemTurn _ 1 ([Turn.mk 8 p n q 0].flatMap turnCells) (by rfl) ?_ _ W.length (W.flatMap turnCells) (by rfl) ?_ (turns_len _) (turns_one _) (by omega) (by omega) ?_ ?_; (first | exact owns_newB _ _ 5 1 _ _ ([Turn.mk 8 p n q 0].flatMap turnCells) rfl (by decide) rfl (by have := tx2.size; omega) | (exact owns_below (by repeat (first | exact owns_new _ _ 5 1 _ ([Turn.mk 8 p n q 0].flatMap turnCells) rfl (by decide) (by simp) | refine owns_drew ?_)) hb2)); (first | exact HTR.out | exact HTR.out.below (below_alloc _ _)); (have hs := TX.size (by with_reducible assumption); omega); intro v' w3 HO HG; obtain ⟨tx3, hcg⟩ := TX.grownAll (by with_reducible assumption) hb (by first | exact owns_newB _ _ 5 1 _ _ ([Turn.mk 8 p n q 0].flatMap turnCells) rfl (by decide) rfl (by have := tx2.size; omega) | (exact owns_below (by repeat (first | exact owns_new _ _ 5 1 _ ([Turn.mk 8 p n q 0].flatMap turnCells) rfl (by decide) (by simp) | refine owns_drew ?_)) hb2)) HG; have g0 := hcg ⟨w.heap.size + 1, 0, none⟩ _ (by simp) (by with_reducible assumption); have g1 := hcg ⟨w.heap.size + 1, 1, none⟩ _ (by simp) (by with_reducible assumption); have g2 := hcg ⟨w.heap.size + 1, 2, none⟩ _ (by simp) (by with_reducible assumption); have g3 := hcg ⟨w.heap.size + 1, 3, none⟩ _ (by simp) (by with_reducible assumption); have g4 := hcg ⟨w.heap.size + 1, 4, none⟩ _ (by simp) (by with_reducible assumption); have g5 := hcg ⟨w.heap.size, 1, none⟩ _ (by simp) (by with_reducible assumption); have g6 := hcg ⟨w.heap.size, 2, none⟩ _ (by simp) (by with_reducible assumption); clear hcg))
  all_goals
    go_wp2
    go_ret
    have hrow := Row.of_owns HO.out
    rw [Nat.add_comm] at hrow
    exact turnsPost_mk HF hrow tx3.room tx3.fr
end
end Go.Proofs.Rm
namespace Go.Proofs.Rm
open Go.Proofs.Lab (may key)
theorem setSub_sub (R : Room) (n p : Nat) (x : Sub) (m q : Nat) : (R.setSub n p x).sub m q = if m = n ∧ q = p then x else R.sub m q := rfl
theorem setSrc_src (R : Room) (n : Nat) (x : Src) (m : Nat) : (R.setSrc n x).src m = if m = n then x else R.src m := rfl
theorem setName_names (R : Room) (p : Nat) (s : List UInt8) (q : Nat) : (R.setName p s).names q = if q = p then s else R.names q := rfl
theorem goneGo_names (n : Nat) : ∀ l R, (goneGo n l R).2.names = R.names
  | [], _ => rfl
  | p :: l, R => goneGo_names n l (R.setSub n p noSub)
theorem goneGo_src (n : Nat) : ∀ l R, (goneGo n l R).2.src = R.src
  | [], _ => rfl
  | p :: l, R => goneGo_src n l (R.setSub n p noSub)
theorem goneGo_sub (n : Nat) : ∀ l R m q, (goneGo n l R).2.sub m q = if m = n ∧ q ∈ l then noSub else R.sub m q
  | [], R, m, q => by simp [goneGo]
  | p :: l, R, m, q => by
    show (goneGo n l (R.setSub n p noSub)).2.sub m q = _
    rw [goneGo_sub n l, setSub_sub]
    by_cases h1 : m = n ∧ q ∈ l
    · rw [if_pos h1, if_pos ⟨h1.1, List.mem_cons_of_mem _ h1.2⟩]
    · rw [if_neg h1]
      by_cases h2 : m = n ∧ q = p
      · rw [if_pos h2, if_pos ⟨h2.1, by rw [h2.2]; exact List.mem_cons_self⟩]
      · rw [if_neg h2, if_neg]
        rintro ⟨a, b⟩
        rcases List.mem_cons.1 b with b | b
        · exact h2 ⟨a, b⟩
        · exact h1 ⟨a, b⟩
theorem inn_nat {n : Nat} {k : Int} : inn n k = true ↔ 1 ≤ n ∧ (n : Int) < k := by unfold inn; simp; omega
theorem hears_nat {R : Room} {p n : Nat} : hears R p n = true ↔ 1 ≤ p ∧ p < 9 ∧ 1 ≤ n ∧ n < 9 ∧ (R.sub n p).there = true := by
  unfold hears
  rw [Bool.and_eq_true, Bool.and_eq_true, inn_nat, inn_nat, Int.toNat_natCast, Int.toNat_natCast]
  exact ⟨fun ⟨⟨⟨a, b⟩, c, d⟩, e⟩ => ⟨a, by omega, c, by omega, e⟩, fun ⟨a, b, c, d, e⟩ => ⟨⟨⟨a, by omega⟩, c, by omega⟩, e⟩⟩
theorem mem_subs {R : Room} {n p : Nat} : p ∈ subs R n ↔ 1 ≤ p ∧ p < 9 ∧ 1 ≤ n ∧ n < 9 ∧ (R.sub n p).there = true := by
  unfold subs
  rw [List.mem_filter, List.mem_range, hears_nat]
  exact ⟨fun ⟨_, h⟩ => h, fun h => ⟨h.2.1, h⟩⟩
theorem Inv.mem_subs {R : Room} (hI : Inv R) {n p : Nat} : p ∈ subs R n ↔ (R.sub n p).there = true := by
  rw [Rm.mem_subs]
  constructor
  · exact fun h => h.2.2.2.2
  · intro h
    have := hI.subAt n p h
    exact ⟨this.2.2.1, this.2.2.2.1, this.1, this.2.1, h⟩
theorem gone_names (R : Room) (n : Nat) : (gone R n).2.names = R.names := goneGo_names n _ _
theorem gone_src (R : Room) (n m : Nat) : (gone R n).2.src m = if m = n then noSrc else R.src m := by
  show (((goneGo n (subs R n) R).2).setSrc n noSrc).src m = _
  rw [setSrc_src, goneGo_src]
theorem gone_sub (R : Room) (n m q : Nat) : (gone R n).2.sub m q = if m = n ∧ q ∈ subs R n then noSub else R.sub m q := goneGo_sub n _ _ m q
theorem gone_there {R : Room} (hI : Inv R) (n m q : Nat) : ((gone R n).2.sub m q).there = true ↔ m ≠ n ∧ (R.sub m q).there = true := by
  rw [gone_sub]
  by_cases h : m = n
  · subst h
    by_cases h2 : (R.sub m q).there = true
    · rw [if_pos ⟨rfl, hI.mem_subs.2 h2⟩]; simp [noSub]
    · rw [if_neg (fun h => h2 (hI.mem_subs.1 h.2))]; simp [h2]
  · rw [if_neg (fun e => h e.1)]; simp [h]
theorem gone_ne (R : Room) {n m : Nat} (h : m ≠ n) (q : Nat) : (gone R n).2.sub m q = R.sub m q := by rw [gone_sub, if_neg (fun e => h e.1)]
theorem joined_congr {R R' : Room} (h : R'.names = R.names) (p : Int) : joined R' p = joined R p := by unfold joined; rw [h]
theorem joined_nat {R : Room} {p : Nat} : joined R p = true ↔ 1 ≤ p ∧ p < 9 ∧ R.names p ≠ [] := by
  unfold joined
  rw [Bool.and_eq_true, inn_nat, Int.toNat_natCast]
  have : (!(R.names p).isEmpty) = true ↔ R.names p ≠ [] := by simp
  rw [this]
  exact ⟨fun ⟨⟨a, b⟩, c⟩ => ⟨a, by omega, c⟩, fun ⟨a, b, c⟩ => ⟨⟨a, by omega⟩, c⟩⟩
theorem inv_gone {R : Room} (hI : Inv R) (n : Nat) : Inv (gone R n).2 := by
  have hn := gone_names R n
  refine ⟨?_, ?_, ?_, ?_, ?_, ?_⟩
  · rw [hn, gone_src]
    refine ⟨hI.none0.1, ?_⟩
    split
    · rfl
    · exact hI.none0.2
  · intro m q h
    obtain ⟨h1, h2⟩ := (gone_there hI n m q).1 h
    have := hI.subAt m q h2
    rw [gone_ne R h1, gone_src, if_neg h1, hn]
    exact this
  · intro m h
    rw [gone_src] at h ⊢
    by_cases h1 : m = n
    · rw [if_pos h1] at h; cases h
    · rw [if_neg h1] at h ⊢
      rw [joined_congr hn]
      exact hI.srcAt m h
  · intro m k x h1 h2 h3 h4
    rw [gone_src] at h1 h2 h3 h4
    by_cases hm : m = n
    · rw [if_pos hm] at h1; cases h1
    by_cases hk : k = n
    · rw [if_pos hk] at h2; cases h2
    rw [if_neg hm] at h1 h3
    rw [if_neg hk] at h2 h4
    exact hI.apart m k x h1 h2 h3 h4
  · rw [hn]; exact hI.nameAt
  · rw [hn]; exact hI.keys
theorem inv_end {R : Room} (hI : Inv R) (n p : Nat) : Inv (R.setSub n p noSub) := by
  refine ⟨hI.none0, ?_, hI.srcAt, hI.apart, hI.nameAt, hI.keys⟩
  intro m q h
  rw [setSub_sub] at h ⊢
  by_cases h1 : m = n ∧ q = p
  · rw [if_pos h1] at h; cases h
  · rw [if_neg h1] at h ⊢
    exact hI.subAt m q h
theorem inv_leave1 {R : Room} (hI : Inv R) (p : Nat) : ∀ k, Inv (leave1 p R k).2
  | 0 => hI
  | k + 1 => by
    unfold leave1
    dsimp only
    split
    · exact inv_end (inv_leave1 hI p k) k p
    · exact inv_leave1 hI p k
theorem inv_leave2 {R : Room} (hI : Inv R) (p : Nat) : ∀ k, Inv (leave2 R p k).2
  | 0 => hI
  | k + 1 => by
    unfold leave2
    dsimp only
    split
    · exact inv_gone (inv_leave2 hI p k) k
    · exact inv_leave2 hI p k
theorem leave1_names (R : Room) (p : Nat) : ∀ k, (leave1 p R k).2.names = R.names ∧ (leave1 p R k).2.src = R.src
  | 0 => ⟨rfl, rfl⟩
  | k + 1 => by
    unfold leave1
    dsimp only
    split
    · exact leave1_names R p k
    · exact leave1_names R p k
theorem leave1_there (R : Room) (p : Nat) : ∀ k m q, ((leave1 p R k).2.sub m q).there = ((R.sub m q).there && !(decide (q = p) && decide (m < k)))
  | 0, m, q => by simp [leave1]
  | k + 1, m, q => by
    have ih := leave1_there R p k
    unfold leave1
    dsimp only
    by_cases ht : ((leave1 p R k).2.sub k p).there = true
    · rw [if_pos ht]
      dsimp only
      rw [setSub_sub]
      by_cases h : m = k ∧ q = p
      · rw [if_pos h, h.1, h.2]; simp [noSub]
      · rw [if_neg h, ih]
        by_cases hq : q = p
        · have : m ≠ k := fun e => h ⟨e, hq⟩
          simp [hq]
          by_cases hm : m < k
          · simp [hm, Nat.lt_succ_of_lt hm]
          · have : ¬ m < k + 1 := by omega
            simp [hm, this]
        · simp [hq]
    · rw [if_neg ht, ih]
      by_cases hq : q = p
      · by_cases hm : m = k
        · subst hm; subst hq
          rw [ih] at ht
          simp at ht
          simp [ht]
        · simp [hq]
          by_cases hm2 : m < k
          · simp [hm2, Nat.lt_succ_of_lt hm2]
          · have : ¬ m < k + 1 := by omega
            simp [hm2, this]
      · simp [hq]
theorem leave2_names (R : Room) (p : Nat) : ∀ k, (leave2 R p k).2.names = R.names
  | 0 => rfl
  | k + 1 => by
    unfold leave2
    dsimp only
    split
    · dsimp only; rw [gone_names]; exact leave2_names R p k
    · exact leave2_names R p k
theorem leave2_src (R : Room) (p : Nat) : ∀ k m, (leave2 R p k).2.src m = if m < k ∧ (R.src m).there = true ∧ (R.src m).own = p then noSrc else R.src m
  | 0, m => by simp [leave2]
  | k + 1, m => by
    have ih := leave2_src R p k m
    unfold leave2
    dsimp only
    by_cases hc : ((R.src k).there && decide ((R.src k).own = p)) = true
    · rw [if_pos hc]
      dsimp only
      rw [gone_src]
      rw [Bool.and_eq_true, decide_eq_true_eq] at hc
      by_cases hm : m = k
      · subst hm; rw [if_pos rfl, if_pos ⟨by omega, hc.1, hc.2⟩]
      · rw [if_neg hm, ih]
        have : m < k + 1 ↔ m < k := by omega
        simp only [this]
    · rw [if_neg hc, ih]
      rw [Bool.and_eq_true, decide_eq_true_eq] at hc
      by_cases hm : m = k
      · subst hm
        rw [if_neg (by omega), if_neg (fun h => hc ⟨h.2.1, h.2.2⟩)]
      · have : m < k + 1 ↔ m < k := by omega
        simp only [this]
theorem leave2_there {R : Room} (hI : Inv R) (p : Nat) : ∀ k m q, ((leave2 R p k).2.sub m q).there = true ↔ (R.sub m q).there = true ∧ ¬ (m < k ∧ (R.src m).there = true ∧ (R.src m).own = p)
  | 0, m, q => by simp [leave2]
  | k + 1, m, q => by
    have ih := leave2_there hI p k m q
    unfold leave2
    dsimp only
    by_cases hc : ((R.src k).there && decide ((R.src k).own = p)) = true
    · rw [if_pos hc]
      dsimp only
      rw [gone_there (inv_leave2 hI p k), ih]
      rw [Bool.and_eq_true, decide_eq_true_eq] at hc
      by_cases hm : m = k
      · subst hm
        constructor
        · rintro ⟨h, _⟩; exact absurd rfl h
        · rintro ⟨_, h⟩; exact absurd ⟨by omega, hc⟩ h
      · have : m < k + 1 ↔ m < k := by omega
        rw [this]
        exact ⟨fun h => h.2, fun h => ⟨hm, h⟩⟩
    · rw [if_neg hc, ih]
      rw [Bool.and_eq_true, decide_eq_true_eq] at hc
      by_cases hm : m = k
      · subst hm
        constructor
        · rintro ⟨h, _⟩; exact ⟨h, fun e => hc e.2⟩
        · rintro ⟨h, _⟩; exact ⟨h, fun e => by omega⟩
      · have : m < k + 1 ↔ m < k := by omega
        rw [this]
theorem key_ne_nil {l : List UInt8} (h : may l = true) : key l ≠ [] := by
  intro e
  have h1 := (Lab.key_laws l h).1
  rw [e] at h1
  have : l = [] := List.eq_nil_of_length_eq_zero h1.symm
  subst this
  cases h
theorem inv_noname {R : Room} (hI : Inv R) (p : Nat) (hs : ∀ m, (R.src m).there = true → (R.src m).own ≠ p) (hu : ∀ m, (R.sub m p).there = false) : Inv (R.setName p []) := by
  refine ⟨⟨?_, hI.none0.2⟩, ?_, ?_, hI.apart, ?_, ?_⟩
  · rw [setName_names]; split
    · rfl
    · exact hI.none0.1
  · intro m q h
    have h0 := hI.subAt m q h
    have hq : q ≠ p := by
      rintro rfl
      have h2 := hu m
      have h3 : (R.sub m q).there = true := h
      rw [h2] at h3; cases h3
    rw [setName_names, if_neg hq]
    exact h0
  · intro m h
    obtain ⟨h1, h2, h3, h4, h5⟩ := hI.srcAt m h
    refine ⟨h1, h2, h3, ?_, h5⟩
    have ho := hs m h
    show joined (R.setName p []) (R.src m).own = true
    unfold joined at h4 ⊢
    rw [Bool.and_eq_true] at h4 ⊢
    refine ⟨h4.1, ?_⟩
    rw [setName_names, if_neg]
    · exact h4.2
    · intro e
      have := h4.1
      unfold inn at this
      simp at this
      omega
  · intro q h
    rw [setName_names] at h ⊢
    by_cases hq : q = p
    · rw [if_pos hq] at h; exact absurd rfl h
    · rw [if_neg hq] at h ⊢; exact hI.nameAt q h
  · intro q r h e
    rw [setName_names] at h e
    by_cases hq : q = p
    · rw [if_pos hq] at h; exact absurd rfl h
    rw [if_neg hq] at h e
    rw [setName_names] at e
    by_cases hr : r = p
    · rw [if_pos hr] at e
      exact absurd e (key_ne_nil (hI.nameAt q h).2)
    · rw [if_neg hr] at e
      exact hI.keys q r h e
theorem inv_leave {R : Room} (hI : Inv R) (p : Nat) : Inv (leave R p).2 := by
  have h1 := inv_leave1 hI p 9
  refine inv_noname (inv_leave2 h1 p 9) p ?_ ?_
  · intro m h
    rw [leave2_src] at h ⊢
    by_cases hc : m < 9 ∧ ((leave1 p R 9).2.src m).there = true ∧ ((leave1 p R 9).2.src m).own = p
    · rw [if_pos hc] at h; cases h
    · rw [if_neg hc] at h ⊢
      intro e
      exact hc ⟨(h1.srcAt m h).2.1, h, e⟩
  · intro m
    rw [Bool.eq_false_iff]
    intro h
    have h2 := ((leave2_there h1 p 9 m p).1 h).1
    have h3 := h1.subAt m p h2
    rw [leave1_there] at h2
    simp at h2
    omega
end Go.Proofs.Rm
namespace Go.Proofs.Rm
open Go.Proofs.Lab (may key)
structure Ok (R : Room) (o : Op) : Prop where
  kind : 2 ≤ o.kind ∧ o.kind ≤ 12
  peer : 1 ≤ o.peer ∧ o.peer < 9
  join : o.kind = 2 → joins R o = 0
  there : o.kind ≠ 2 → joined R o.peer = true
  src : 4 ≤ o.kind → 1 ≤ o.source ∧ o.source < 9
  pub : o.kind = 4 → publishes R o = 0
  is : 5 ≤ o.kind → (R.src o.source.toNat).there = true
  abt : 5 ≤ o.kind → about R o = 0
theorem inn_iff' (n k : Int) : inn n k = true ↔ 1 ≤ n ∧ n < k := by unfold inn; simp
theorem wrong_ok {R : Room} {o : Op} (h : wrong R o = 0) : Ok R o := by
  unfold wrong at h
  by_cases h1 : o.kind < 2 ∨ 12 < o.kind
  · rw [if_pos h1] at h; exact absurd h (by decide)
  rw [if_neg h1] at h
  by_cases h2 : inn o.peer 9 = true
  rotate_left
  · simp [h2] at h
  simp only [h2, Bool.not_true, Bool.false_eq_true, if_false] at h
  have hp := (inn_iff' _ _).1 h2
  by_cases h3 : o.kind = 2
  · rw [if_pos h3] at h
    exact ⟨by omega, hp, fun _ => h, fun e => absurd h3 e, by omega, by omega, by omega, by omega⟩
  rw [if_neg h3] at h
  by_cases h4 : joined R o.peer = true
  rotate_left
  · simp [h4] at h
  simp only [h4, Bool.not_true, Bool.false_eq_true, if_false] at h
  by_cases h5 : o.kind = 3
  · exact ⟨by omega, hp, by omega, fun _ => h4, by omega, by omega, by omega, by omega⟩
  rw [if_neg h5] at h
  by_cases h6 : inn o.source 9 = true
  rotate_left
  · simp [h6] at h
  simp only [h6, Bool.not_true, Bool.false_eq_true, if_false] at h
  have hs := (inn_iff' _ _).1 h6
  by_cases h7 : o.kind = 4
  · rw [if_pos h7] at h
    exact ⟨by omega, hp, by omega, fun _ => h4, fun _ => hs, fun _ => h, by omega, by omega⟩
  rw [if_neg h7] at h
  by_cases h8 : (R.src o.source.toNat).there = true
  rotate_left
  · simp [h8] at h
  simp only [h8, Bool.not_true, Bool.false_eq_true, if_false] at h
  exact ⟨by omega, hp, by omega, fun _ => h4, fun _ => hs, by omega, fun _ => h8, fun _ => h⟩
theorem layer_ok {R : Room} {o : Op} (h : layer R o = 0) : 0 ≤ o.layer ∧ o.layer < (R.src o.source.toNat).ss.length := by
  unfold layer at h
  by_cases h1 : o.layer < 0 ∨ ((R.src o.source.toNat).ss.length : Int) ≤ o.layer
  · rw [if_pos h1] at h; exact absurd h (by decide)
  · omega
theorem about_own {R : Room} {o : Op} (h : about R o = 0) (hk : o.kind = 5 ∨ o.kind = 8 ∨ o.kind = 9) : (R.src o.source.toNat).own = o.peer ∧ (o.kind = 8 → (R.src o.source.toNat).muted = false) ∧ (o.kind = 9 → (R.src o.source.toNat).muted = true) := by
  unfold about at h
  dsimp only at h
  rw [if_pos hk] at h
  by_cases h1 : (R.src o.source.toNat).own = o.peer
  rotate_left
  · rw [if_pos h1] at h; exact absurd h (by decide)
  rw [if_neg (by simpa using h1)] at h
  refine ⟨h1, ?_, ?_⟩
  · intro h8
    cases hm : (R.src o.source.toNat).muted
    · rfl
    · rw [if_pos ⟨h8, hm⟩] at h; exact absurd h (by decide)
  · intro h9
    rw [if_neg (by omega)] at h
    cases hm : (R.src o.source.toNat).muted
    · rw [if_pos ⟨h9, hm⟩] at h; exact absurd h (by decide)
    · rfl
theorem about_sub {R : Room} {o : Op} (h : about R o = 0) (hk : o.kind = 6) : (R.src o.source.toNat).own ≠ o.peer ∧ (R.sub o.source.toNat o.peer.toNat).there = false ∧ layer R o = 0 := by
  unfold about at h
  dsimp only at h
  rw [if_neg (by omega), if_pos hk] at h
  by_cases h1 : (R.src o.source.toNat).own = o.peer
  · rw [if_pos h1] at h; exact absurd h (by decide)
  rw [if_neg h1] at h
  cases ht : (R.sub o.source.toNat o.peer.toNat).there
  · rw [ht] at h; exact ⟨h1, rfl, h⟩
  · rw [ht] at h; simp at h
theorem about_hear {R : Room} {o : Op} (h : about R o = 0) (hk : o.kind = 7 ∨ 10 ≤ o.kind) :
    (R.sub o.source.toNat o.peer.toNat).there = true ∧ (o.kind = 10 → (R.sub o.source.toNat o.peer.toNat).paused = false) ∧ (o.kind = 11 → (R.sub o.source.toNat o.peer.toNat).paused = true) ∧ (o.kind = 12 → layer R o = 0 ∧ (R.sub o.source.toNat o.peer.toNat).want ≠ o.layer) := by
  unfold about at h
  dsimp only at h
  rw [if_neg (by omega), if_neg (by omega)] at h
  unfold heard at h
  dsimp only at h
  cases ht : (R.sub o.source.toNat o.peer.toNat).there
  · rw [ht] at h; simp at h
  rw [ht] at h
  simp only [Bool.not_true, Bool.false_eq_true, if_false] at h
  refine ⟨rfl, ?_, ?_, ?_⟩
  · intro h10
    cases hm : (R.sub o.source.toNat o.peer.toNat).paused
    · rfl
    · rw [if_pos ⟨h10, hm⟩] at h; exact absurd h (by decide)
  · intro h11
    rw [if_neg (by omega)] at h
    cases hm : (R.sub o.source.toNat o.peer.toNat).paused
    · rw [if_pos ⟨h11, hm⟩] at h; exact absurd h (by decide)
    · rfl
  · intro h12
    rw [if_neg (by omega), if_neg (by omega), if_neg (by omega)] at h
    by_cases hl : layer R o = 0
    · rw [if_neg (by omega)] at h
      refine ⟨hl, fun e => ?_⟩
      rw [if_pos e] at h; exact absurd h (by decide)
    · rw [if_pos hl] at h; exact absurd h hl
theorem index_mem (l : List Int) (x : Int) : 0 ≤ index l x ↔ x ∈ l := by
  unfold index
  cases h : l.findIdx? (fun y => y == x) with
  | none =>
    have := List.findIdx?_eq_none_iff.1 h
    constructor
    · intro h; exact absurd h (by decide)
    · intro hx; have := this x hx; simp at this
  | some i =>
    obtain ⟨hi, h1, _⟩ := List.findIdx?_eq_some_iff_getElem.1 h
    have h1 : l[i] = x := by simpa using h1
    exact ⟨fun _ => by rw [← h1]; exact List.getElem_mem hi, fun _ => Int.natCast_nonneg _⟩
theorem ofGo_none (R : Room) (x : Int) : ∀ k n, (ofGo R x k n).2.2 = false ↔ ∀ m, n ≤ m → m < n + k → (R.src m).there = true → x ∉ (R.src m).ss
  | 0, n => by simp [ofGo]; omega
  | k + 1, n => by
    unfold ofGo
    by_cases hc : ((R.src n).there && decide (0 ≤ index (R.src n).ss x)) = true
    · rw [if_pos hc]
      rw [Bool.and_eq_true, decide_eq_true_eq, index_mem] at hc
      constructor
      · intro h; cases h
      · intro h; exact absurd hc.2 (h n (Nat.le_refl _) (by omega) hc.1)
    · rw [if_neg hc, ofGo_none R x k (n + 1)]
      rw [Bool.and_eq_true, decide_eq_true_eq, index_mem] at hc
      constructor
      · intro h m h1 h2 h3 h4
        by_cases e : m = n
        · subst e; exact hc ⟨h3, h4⟩
        · exact h m (by omega) (by omega) h3 h4
      · intro h m h1 h2; exact h m (by omega) (by omega)
theorem of_none {R : Room} {x : Int} : (of R x).2.2 = false ↔ ∀ m, m < 9 → (R.src m).there = true → x ∉ (R.src m).ss := by
  unfold of
  rw [ofGo_none]
  exact ⟨fun h m hm => h m (Nat.zero_le _) (by omega), fun h m _ hm => h m (by omega)⟩
theorem ofGo_some (R : Room) (x : Int) : ∀ k n, (ofGo R x k n).2.2 = true → ∃ m : Nat, n ≤ m ∧ m < n + k ∧ (R.src m).there = true ∧ x ∈ (R.src m).ss ∧ ofGo R x k n = ((m : Int), index (R.src m).ss x, true)
  | 0, n, h => by simp [ofGo] at h
  | k + 1, n, h => by
    unfold ofGo at h ⊢
    by_cases hc : ((R.src n).there && decide (0 ≤ index (R.src n).ss x)) = true
    · rw [if_pos hc] at h ⊢
      rw [Bool.and_eq_true, decide_eq_true_eq, index_mem] at hc
      exact ⟨n, Nat.le_refl _, by omega, hc.1, hc.2, rfl⟩
    · rw [if_neg hc] at h ⊢
      obtain ⟨m, h1, h2, h3⟩ := ofGo_some R x k (n + 1) h
      exact ⟨m, by omega, by omega, h3⟩
theorem of_some {R : Room} {x : Int} (h : (of R x).2.2 = true) : ∃ m : Nat, m < 9 ∧ (R.src m).there = true ∧ x ∈ (R.src m).ss ∧ of R x = ((m : Int), index (R.src m).ss x, true) := by
  obtain ⟨m, _, h2, h3⟩ := ofGo_some R x 9 0 h
  exact ⟨m, by omega, h3⟩
theorem nodup_of_twice (l : List Int) (h : ∀ i, i < l.length → (l.take i).contains (l.getD i 0) = false) : l.Nodup := by
  unfold List.Nodup
  rw [List.pairwise_iff_getElem]
  intro i j hi hj hij e
  have := h j hj
  rw [List.getD_eq_getElem?_getD, List.getElem?_eq_getElem hj, Option.getD_some] at this
  rw [← e] at this
  have hm : l[i] ∈ l.take j := by
    rw [List.mem_iff_getElem]
    exact ⟨i, by rw [List.length_take]; omega, by rw [List.getElem_take]⟩
  rw [List.contains_iff_mem.2 hm] at this
  cases this
theorem pub_ok {R : Room} {o : Op} (h : publishes R o = 0) : 1 ≤ o.ssrcs.length ∧ o.ssrcs.length ≤ 3 ∧ (∀ s ∈ o.ssrcs, 2 ≤ s ∧ s < 3221225472) ∧ (R.src o.source.toNat).there = false ∧ o.ssrcs.Nodup ∧ ∀ m x, m < 9 → (R.src m).there = true → x ∈ o.ssrcs → x ∉ (R.src m).ss := by
  unfold publishes at h
  by_cases h1 : o.ssrcs.length < 1 ∨ 3 < o.ssrcs.length
  · rw [if_pos h1] at h; exact absurd h (by decide)
  rw [if_neg h1] at h
  by_cases h2 : o.ssrcs.any (fun s => decide (s < 2) || decide (3221225472 ≤ s)) = true
  · rw [if_pos h2] at h; exact absurd h (by decide)
  rw [if_neg h2] at h
  by_cases h3 : (R.src o.source.toNat).there = true
  · rw [if_pos h3] at h; exact absurd h (by decide)
  rw [if_neg h3] at h
  by_cases h4 : (List.range o.ssrcs.length).any (twice R o.ssrcs) = true
  · rw [if_pos h4] at h; exact absurd h (by decide)
  have h5 : ∀ i, i < o.ssrcs.length → (of R (o.ssrcs.getD i 0)).2.2 = false ∧ (o.ssrcs.take i).contains (o.ssrcs.getD i 0) = false := by
    intro i hi
    have : ¬ twice R o.ssrcs i = true := fun e => h4 (List.any_eq_true.2 ⟨i, by simpa using hi, e⟩)
    unfold twice at this
    rw [Bool.or_eq_true] at this
    exact ⟨Bool.eq_false_iff.2 fun e => this (Or.inl e), Bool.eq_false_iff.2 fun e => this (Or.inr e)⟩
  refine ⟨by omega, by omega, ?_, by simpa using h3, nodup_of_twice _ fun i hi => (h5 i hi).2, ?_⟩
  · intro s hs
    have : ¬ (decide (s < 2) || decide (3221225472 ≤ s)) = true := fun e => h2 (List.any_eq_true.2 ⟨s, hs, e⟩)
    simp at this; omega
  · intro m x hm ht hx
    obtain ⟨i, hi, rfl⟩ := List.getElem_of_mem hx
    have := (h5 i hi).1
    rw [List.getD_eq_getElem?_getD, List.getElem?_eq_getElem hi, Option.getD_some, of_none] at this
    exact this m hm ht
theorem join_ok {R : Room} {o : Op} (h : joins R o = 0) : joined R o.peer = false ∧ may o.name = true ∧ ∀ q, q < 9 → R.names q ≠ [] → key (R.names q) ≠ key o.name := by
  unfold joins at h
  cases h1 : joined R o.peer
  rotate_left
  · rw [h1] at h; simp at h
  rw [h1] at h
  cases h2 : may o.name
  · rw [h2] at h; simp at h
  rw [h2] at h
  simp only [Bool.false_eq_true, if_false, Bool.not_true] at h
  by_cases h3 : (List.range 9).any (sameKey R o) = true
  · rw [if_pos h3] at h; exact absurd h (by decide)
  refine ⟨rfl, rfl, fun q hq hn e => h3 (List.any_eq_true.2 ⟨q, by simpa using hq, ?_⟩)⟩
  unfold sameKey
  simp [hn, e]
theorem may_ne {l : List UInt8} (h : may l = true) : l ≠ [] := by rintro rfl; cases h
theorem inv_empty : Inv empty := by
  refine ⟨⟨rfl, rfl⟩, ?_, ?_, ?_, ?_, ?_⟩
  · intro n p h; cases h
  · intro n h; cases h
  · intro n m x h; cases h
  · intro p h; exact absurd rfl h
  · intro p q h; exact absurd rfl h
theorem inv_join {R : Room} (hI : Inv R) {p : Nat} {nm : List UInt8} (hp : 1 ≤ p ∧ p < 9) (h0 : R.names p = []) (hm : may nm = true) (hk : ∀ q, q < 9 → R.names q ≠ [] → key (R.names q) ≠ key nm) : Inv (R.setName p nm) := by
  have hjoin : ∀ q, joined R q = true → joined (R.setName p nm) q = true := by
    intro q h
    unfold joined at h ⊢
    rw [Bool.and_eq_true] at h ⊢
    refine ⟨h.1, ?_⟩
    rw [setName_names]
    split
    · have := may_ne hm
      simp [this]
    · exact h.2
  refine ⟨⟨?_, hI.none0.2⟩, ?_, ?_, hI.apart, ?_, ?_⟩
  · rw [setName_names, if_neg (by omega)]; exact hI.none0.1
  · intro n q h
    have := hI.subAt n q h
    have hq : q ≠ p := by rintro rfl; exact this.2.2.2.2.2.1 h0
    rw [setName_names, if_neg hq]
    exact this
  · intro n h
    obtain ⟨h1, h2, h3, h4, h5⟩ := hI.srcAt n h
    exact ⟨h1, h2, h3, hjoin _ h4, h5⟩
  · intro q h
    rw [setName_names] at h ⊢
    by_cases hq : q = p
    · rw [if_pos hq]; exact ⟨by omega, hm⟩
    · rw [if_neg hq] at h ⊢; exact hI.nameAt q h
  · intro q r h e
    rw [setName_names] at h
    rw [setName_names, setName_names] at e
    by_cases hq : q = p
    · rw [if_pos hq] at e
      by_cases hr : r = p
      · omega
      · rw [if_neg hr] at e
        by_cases hn : R.names r = []
        · rw [hn] at e; exact absurd e (key_ne_nil hm)
        · exact absurd e.symm (hk r (hI.nameAt r hn).1 hn)
    · rw [if_neg hq] at h e
      by_cases hr : r = p
      · rw [if_pos hr] at e
        exact absurd e (hk q (hI.nameAt q h).1 h)
      · rw [if_neg hr] at e; exact hI.keys q r h e
theorem inv_publish {R : Room} (hI : Inv R) {n p : Nat} {sv : Value} {ss : List Int} (hn : 1 ≤ n ∧ n < 9) (hp : joined R p = true) (h0 : (R.src n).there = false) (h1 : 1 ≤ ss.length) (h3 : ss.length ≤ 3) (hr : ∀ s ∈ ss, 2 ≤ s ∧ s < 3221225472) (hd : ss.Nodup) (hx : ∀ m x, m < 9 → (R.src m).there = true → x ∈ ss → x ∉ (R.src m).ss) :
    Inv (R.setSrc n ⟨true, n, p, sv, ss, false⟩) := by
  refine ⟨⟨hI.none0.1, ?_⟩, ?_, ?_, ?_, hI.nameAt, hI.keys⟩
  · rw [setSrc_src, if_neg (by omega)]; exact hI.none0.2
  · intro m q h
    have := hI.subAt m q h
    have hm : m ≠ n := by rintro rfl; rw [h0] at this; exact absurd this.2.2.2.2.1 (by decide)
    rw [setSrc_src, if_neg hm]
    exact this
  · intro m h
    rw [setSrc_src] at h ⊢
    by_cases hm : m = n
    · rw [if_pos hm]
      exact ⟨by omega, by omega, by rw [hm], hp, h1, h3, hd, hr⟩
    · rw [if_neg hm] at h ⊢; exact hI.srcAt m h
  · intro m k x a b c d
    rw [setSrc_src] at a b c d
    by_cases hm : m = n
    · by_cases hk : k = n
      · omega
      · rw [if_neg hk] at b d; rw [if_pos hm] at c
        exact absurd d (hx k x (hI.srcAt k b).2.1 b c)
    · rw [if_neg hm] at a c
      by_cases hk : k = n
      · rw [if_pos hk] at d
        exact absurd c (hx m x (hI.srcAt m a).2.1 a d)
      · rw [if_neg hk] at b d; exact hI.apart m k x a b c d
theorem inv_sub {R : Room} (hI : Inv R) {n p : Nat} {x : Sub} (h : x.there = true → 1 ≤ n ∧ n < 9 ∧ 1 ≤ p ∧ p < 9 ∧ (R.src n).there = true ∧ R.names p ≠ [] ∧ (R.src n).own ≠ p ∧ 0 ≤ x.want ∧ x.want < (R.src n).ss.length) : Inv (R.setSub n p x) := by
  refine ⟨hI.none0, ?_, hI.srcAt, hI.apart, hI.nameAt, hI.keys⟩
  intro m q ht
  rw [setSub_sub] at ht ⊢
  by_cases h1 : m = n ∧ q = p
  · rw [if_pos h1] at ht ⊢
    rw [h1.1, h1.2]
    exact h ht
  · rw [if_neg h1] at ht ⊢; exact hI.subAt m q ht
theorem inv_muted {R : Room} (hI : Inv R) (n : Nat) (on : Bool) : Inv (R.setSrc n { R.src n with muted := on }) := by
  have key : ∀ m, ((R.setSrc n { R.src n with muted := on }).src m).there = (R.src m).there ∧ ((R.setSrc n { R.src n with muted := on }).src m).ss = (R.src m).ss ∧ ((R.setSrc n { R.src n with muted := on }).src m).own = (R.src m).own ∧ ((R.setSrc n { R.src n with muted := on }).src m).num = (R.src m).num := by
    intro m
    rw [setSrc_src]
    split
    · rename_i h; subst h; exact ⟨rfl, rfl, rfl, rfl⟩
    · exact ⟨rfl, rfl, rfl, rfl⟩
  refine ⟨⟨hI.none0.1, ?_⟩, ?_, ?_, ?_, hI.nameAt, hI.keys⟩
  · rw [(key 0).1]; exact hI.none0.2
  · intro m q h
    rw [(key m).1, (key m).2.1, (key m).2.2.1]
    exact hI.subAt m q h
  · intro m h
    rw [(key m).1] at h
    rw [(key m).2.1, (key m).2.2.1, (key m).2.2.2]
    exact hI.srcAt m h
  · intro m k x a b c d
    rw [(key m).1] at a; rw [(key k).1] at b; rw [(key m).2.1] at c; rw [(key k).2.1] at d
    exact hI.apart m k x a b c d
set_option maxHeartbeats 1000000 in
theorem inv_turns {R : Room} {o : Op} (hI : Inv R) (ok : Ok R o) (sv : Value) : Inv (turns R o sv).2 := by
  obtain ⟨kd, p, n, q, nm, ss⟩ := o
  obtain ⟨hk, hp, hj, ht, hs, hpub, his, habt⟩ := ok
  dsimp only at *
  obtain ⟨p, rfl⟩ := Int.eq_ofNat_of_zero_le (show 0 ≤ p by omega)
  by_cases k2 : kd = 2
  · subst k2
    obtain ⟨h1, h2, h3⟩ := join_ok (hj rfl)
    show Inv (R.setName p nm)
    refine inv_join hI (p := p) (by omega) ?_ h2 h3
    rw [Bool.eq_false_iff, ne_eq, joined_nat] at h1
    exact Classical.not_not.1 fun e => h1 ⟨by omega, by omega, e⟩
  have hjp := joined_nat.1 (ht k2)
  by_cases k3 : kd = 3
  · subst k3; show Inv (leave R p).2; exact inv_leave hI p
  obtain ⟨n, rfl⟩ := Int.eq_ofNat_of_zero_le (show 0 ≤ n by have := hs (by omega); omega)
  have hn := hs (by omega)
  by_cases k4 : kd = 4
  · subst k4
    obtain ⟨h1, h2, h3, h4, h5, h6⟩ := pub_ok (hpub rfl)
    show Inv (R.setSrc n ⟨true, n, p, sv, ss, false⟩)
    exact inv_publish hI (by omega) (ht k2) h4 h1 h2 h3 h5 h6
  have his := his (by omega)
  have his' : (R.src n).there = true := by rw [Int.toNat_natCast] at his; exact his
  have habt := habt (by omega)
  have hbase : (R.sub n p).there = true → 1 ≤ n ∧ n < 9 ∧ 1 ≤ p ∧ p < 9 ∧ (R.src n).there = true ∧ R.names p ≠ [] ∧ (R.src n).own ≠ p ∧ 0 ≤ (R.sub n p).want ∧ (R.sub n p).want < (R.src n).ss.length := hI.subAt n p
  by_cases k5 : kd = 5
  · subst k5; show Inv (gone R n).2; exact inv_gone hI n
  by_cases k6 : kd = 6
  · subst k6
    obtain ⟨h1, h2, h3⟩ := about_sub habt rfl
    have h4 := layer_ok h3
    show Inv (R.setSub n p ⟨true, false, q⟩)
    exact inv_sub hI fun _ => ⟨by omega, by omega, by omega, by omega, his', hjp.2.2, h1, h4.1, h4.2⟩
  by_cases k7 : kd = 7
  · subst k7; show Inv (R.setSub n p noSub); exact inv_end hI n p
  by_cases k8 : kd = 8
  · subst k8; show Inv (R.setSrc n { R.src n with muted := true }); exact inv_muted hI n true
  by_cases k9 : kd = 9
  · subst k9; show Inv (R.setSrc n { R.src n with muted := false }); exact inv_muted hI n false
  obtain ⟨h1, _, _, h4⟩ := about_hear habt (by right; show 10 ≤ kd; omega)
  have hb := hbase h1
  by_cases k10 : kd = 10
  · subst k10; show Inv (R.setSub n p { R.sub n p with paused := true }); exact inv_sub hI fun _ => hb
  by_cases k11 : kd = 11
  · subst k11; show Inv (R.setSub n p { R.sub n p with paused := false }); exact inv_sub hI fun _ => hb
  have k12 : kd = 12 := by omega
  subst k12
  have h5 := layer_ok (h4 rfl).1
  show Inv (R.setSub n p { R.sub n p with want := q })
  exact inv_sub hI fun _ => ⟨hb.1, hb.2.1, hb.2.2.1, hb.2.2.2.1, hb.2.2.2.2.1, hb.2.2.2.2.2.1, hb.2.2.2.2.2.2.1, h5.1, h5.2⟩
theorem inv_doo {R : Room} (hI : Inv R) (o : Op) (sv : Value) : Inv (doo R o sv).1.2 := by
  unfold doo
  by_cases h : wrong R o = 0
  · rw [if_neg (by simpa using h)]; exact inv_turns hI (wrong_ok h) sv
  · rw [if_pos h]; exact hI
theorem inv_goneOp {R : Room} (hI : Inv R) (p x : Int) : Inv (goneOp R p x).1.2 := by
  unfold goneOp
  split
  · exact hI
  · exact inv_gone hI _
end Go.Proofs.Rm
