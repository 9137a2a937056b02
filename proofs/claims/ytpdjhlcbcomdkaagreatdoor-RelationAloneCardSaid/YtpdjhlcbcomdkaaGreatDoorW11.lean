/- Several texts in one: The walks of package room, each function once: New, Gone. The tables as plain data, and in memory. The walk of package room's Table. The frame of every law: from 'the call returns true and what was there stays' to the row's own post; what a slice of bools reads as. Over any program. The argument of a law that is a slice of operations, opened: it reads as a list of operations. The walks of the reference's comparisons: SameTurns, SameSource, SameTable. The walks of the reference's comparisons: SameSource. The walks of the reference's comparisons: SameTable. The laws' first part: the operations of 'start', and what 'shown' asks. The walk of the law RoomKeeps, out of the contracts. The walk of the law RoomGone, out of the contracts. The walk of door.media. -/
import Derived.Deep.RegionLaw
import Derived.Below
import Derived.ChangeSame
import Derived.WideKeyArgs
import Derived.ChangeArms
import Derived.ChangeSlices
import Derived.WalkKit
import Derived.ProofKit
import Derived.OpenShut
import Derived.Carry
import Derived.Deep.Slices
import Derived.SizedLaws
import Derived.Laws.StructEq
import Derived.StillTailTactics
import Derived.Deep.RegionHeld3
import Derived.Test.YtpdjhlcbcomdkaaGreatDoorW01
import Derived.Test.YtpdjhlcbcomdkaaGreatDoorW02
import Derived.Test.YtpdjhlcbcomdkaaGreatDoorW04
import Derived.Test.YtpdjhlcbcomdkaaGreatDoorW07
import Derived.Test.YtpdjhlcbcomdkaaGreatDoorW08
import Derived.Test.YtpdjhlcbcomdkaaGreatDoorW09
import Derived.Test.YtpdjhlcbcomdkaaGreatDoorW10
set_option linter.unusedVariables false
set_option linter.unusedSimpArgs false
namespace Go.Proofs.Rm
open Go.RowKit Go.Proofs.Heap Go.Proofs.Mem
theorem zeros_at : ∀ j, j < 297 → (((List.range 297).map (roomCell empty)).toArray)[j]? = some (roomCell empty j) := by
  intro j hj
  simp [hj]
set_option maxRecDepth 100000 in
set_option maxHeartbeats 2000000 in
theorem New_any (w : World) : Calls Tryz.prog 69 #[] w fun e w' => e = .returned (.pointer (some ⟨w.heap.size, 0, none⟩)) ∧ RoomAt w' w.heap.size empty ∧ Below w.heap.size w w' := by
  go_enter Tryz.func69, Tryz.ntmps69
  go_wp2
  go_ret
  have HZ : Tryz.zeroCells152 = ((List.range 297).map (roomCell empty)).toArray := by kernel_rfl
  refine ⟨rfl, ⟨⟨_, heap_new _ _, by rw [HZ]; simp, fun j hj => by rw [HZ]; exact zeros_at j hj⟩, fun n _ => Row.nil _ _⟩, below_alloc _ _⟩
theorem ofGo_lt (R : Room) (x : Int) : ∀ k n : Nat, n + k ≤ 9 → 0 ≤ (ofGo R x k n).1 ∧ (ofGo R x k n).1 < 9
  | 0, _, _ => by simp [ofGo]
  | k + 1, n, h => by
    unfold ofGo
    split
    · dsimp only; omega
    · exact ofGo_lt R x k (n + 1) (by omega)
theorem of_lt (R : Room) (x : Int) : 0 ≤ (of R x).1 ∧ (of R x).1 < 9 := ofGo_lt R x 9 0 (by omega)
set_option maxHeartbeats 2000000 in
theorem Gone_any (b : Nat) (R : Room) (p x : Int) (w : World) (hR : RoomAt w b R) :
    Calls Tryz.prog 132 #[.pointer (some ⟨b, 0, none⟩), .int .i64 p, .int .u32 x] w fun e w' =>
      (∃ v, e = .returned (.tuple #[v, .int .i64 (goneOp R p x).2]) ∧ TurnRow w' v (goneOp R p x).1.1) ∧ RoomAt w' b (goneOp R p x).1.2 ∧ Fr w.heap.size (· = b) w w' := by
  have hb := hR.lt
  have CO := Lib.hid (Of_any b R x w hR)
  have hlt := of_lt R x
  have HG : Hid (goneOp R p x = if !(of R x).2.2 || !joined R p || decide ((R.src (of R x).1.toNat).own ≠ p) then (([], R), 8) else (gone R (of R x).1.toNat, 0)) := rfl
  have HR : Hid (∀ w1, Below w.heap.size w w1 → RoomAt w1 b R) := fun w1 h => hR.below h
  clear hR
  generalize of R x = o at *
  obtain ⟨o1, o2, o3⟩ := o
  dsimp only at *
  obtain ⟨n, rfl⟩ := Int.eq_ofNat_of_zero_le hlt.1
  rw [Int.toNat_natCast] at HG
  have hn : n < 9 := by omega
  cases o3
  · have HF : Hid (goneOp R p x = (([], R), 8)) := by show _ = _; rw [HG.out]; rfl
    go_enter Tryz.func132, Tryz.ntmps132
    go_wp2_with (go_at_call 127; refine CO.out.mono ?_; rintro e w1 ⟨rfl, hb1⟩)
    go_ret2
    rw [HF.out]
    exact ⟨⟨_, rfl, Row.nil _ _⟩, HR.out _ hb1, Fr.of_below _ hb1⟩
  have CJ : Hid (∀ w1, Below w.heap.size w w1 → _) := fun w1 h => Joined_any b R p w1 (HR.out w1 h)
  have CG : Hid (∀ w1, Below w.heap.size w w1 → _) := fun w1 h => gone_any b R n w1 (HR.out w1 h) hn
  have HSC : Hid (∀ w1, Below w.heap.size w w1 → w1.cell? ⟨b, 9 + n * 5 + 1 + 1, none⟩ = some (.int .i64 (R.src n).own)) := fun w1 h => ((HR.out w1 h).srcc hn).2.2.1
  cases hj : joined R p
  · have HF : Hid (goneOp R p x = (([], R), 8)) := by show _ = _; rw [HG.out, hj]; rfl
    rw [hj] at CJ
    clear hj
    go_enter Tryz.func132, Tryz.ntmps132
    go_wp2_with (first | (go_at_call 127; refine CO.out.mono ?_; rintro e w1 ⟨rfl, hb1⟩) | (go_at_call 80; refine (CJ.out _ hb1).mono ?_; rintro e w2 ⟨rfl, rfl⟩))
    go_ret2
    rw [HF.out]
    exact ⟨⟨_, rfl, Row.nil _ _⟩, HR.out _ hb1, Fr.of_below _ hb1⟩
  rw [hj] at CJ HG
  clear hj
  by_cases ho : (R.src n).own = p
  · have HF : Hid (goneOp R p x = (gone R n, 0)) := by show _ = _; rw [HG.out]; simp [ho]
    rw [ho] at HSC
    clear ho HG
    generalize gone R n = G at *
    go_enter Tryz.func132, Tryz.ntmps132
    go_wp2_with (first | (go_at_call 127; refine CO.out.mono ?_; rintro e w1 ⟨rfl, hb1⟩; have hsc := HSC.out _ hb1) | (go_at_call 80; refine (CJ.out _ hb1).mono ?_; rintro e w2 ⟨rfl, rfl⟩) | (go_at_call 137; refine (CG.out _ hb1).mono ?_; rintro e w2 ⟨⟨tv, rfl, htr⟩, hroom, hfr⟩))
    go_ret2
    rw [HF.out]
    exact ⟨⟨_, rfl, htr⟩, hroom, (Fr.of_below _ hb1).trans (hfr.mono hb1.size (fun _ _ h => h))⟩
  · have HF : Hid (goneOp R p x = (([], R), 8)) := by show _ = _; rw [HG.out]; simp [ho]
    have hbq : ((R.src n).own != p) = true := by rw [bne_iff_ne]; exact ho
    clear ho HG
    go_enter Tryz.func132, Tryz.ntmps132
    go_wp2_with (first | (go_at_call 127; refine CO.out.mono ?_; rintro e w1 ⟨rfl, hb1⟩; have hsc := HSC.out _ hb1) | (go_at_call 80; refine (CJ.out _ hb1).mono ?_; rintro e w2 ⟨rfl, rfl⟩))
    go_ret2
    rw [HF.out]
    exact ⟨⟨_, rfl, Row.nil _ _⟩, HR.out _ hb1, Fr.of_below _ hb1⟩
end Go.Proofs.Rm
namespace Go.Proofs.Rm
open Go.RowKit Go.Proofs.Heap Go.Proofs.Mem
end Go.Proofs.Rm
namespace Go.Proofs.Rm
open Go.RowKit Go.Proofs.Heap Go.Proofs.Mem
section
end
end Go.Proofs.Rm
namespace Go.Proofs.Frame
open Go.RowKit Go.WideShapes Go.ChangeShapes
section
variable {H : Type} {enc : TypeId × Value → H} {P : Program}
/-- Arguments that were read read as they did, whatever happened above them. -/
theorem trodAll_stays (hl : laidOutB P = true) {W W' : World} {sp' : Nat → Bool} (hb : Below W.heap.size W W') : ∀ {ts : List TypeId} {vs : List Value} {ds : List (DataW H)} {ps : List MemPlace},
    (∀ t ∈ ts, P.readableRec t = true ∧ t < P.types.size) → DataW.TrodAll enc P W 0 (fun _ => true) true ts vs ds ps → (∀ p ∈ ps, p.block < W.heap.size) → (∀ p ∈ ps, sp' p.block = true) →
    DataW.TrodAll enc P W' 0 sp' true ts vs ds ps
  | [], [], [], _, _, h, _, _ => h
  | t :: ts, v :: vs, d :: ds, ps, ht, h, hlt, hsp => by
    obtain ⟨p, q, h1, h2, rfl⟩ := h
    refine ⟨p, q, ?_, ?_, rfl⟩
    · exact WideElems.Trod_stays hl (ht t (List.mem_cons_self ..)).1 (ht t (List.mem_cons_self ..)).2 h1 (fun x hx => hb.same (hlt x (List.mem_append.2 (Or.inl hx)))) (fun x hx => hsp x (List.mem_append.2 (Or.inl hx)))
    · exact trodAll_stays hl hb (fun t' h' => ht t' (List.mem_cons_of_mem _ h')) h2 (fun x hx => hlt x (List.mem_append.2 (Or.inr hx))) (fun x hx => hsp x (List.mem_append.2 (Or.inr hx)))
  | [], [], _ :: _, _, _, h, _, _ => h.elim
  | [], _ :: _, _, _, _, h, _, _ => h.elim
  | _ :: _, [], _, _, _, h, _, _ => h.elim
  | _ :: _, _ :: _, [], _, _, h, _, _ => h.elim
/-- A law's row: it returned true, and what was there stays. -/
theorem law_post {f : Func} {s : ChangeSpec} {apart fresh handsOn again : Bool} {W W' : World} {args : Array Value} {ds gs : List (DataW H)} {before : List MemPlace} {tb : TypeId}
    (hW : DataW.Whole enc P f.params.toList s.vars apart W args.toList ds gs before) (hl : laidOutB P = true) (ht : ∀ t ∈ f.params.toList, P.readableRec t = true ∧ t < P.types.size)
    (hv : s.vars = []) (hs : s.fn H (ds ++ gs) = { results := [.lit (.bool true)], args := ds }) (hres : f.resultTypes = #[tb]) (hbool : P.underlying tb = some .bool)
    (hb : Below W.heap.size W W') :
    s.post enc P f apart fresh handsOn again W args (.bool true) W' := by
  have hlt : ∀ p ∈ before, p.block < W.heap.size := fun p hp => hW.lt p hp
  have hold : ∀ p ∈ before, (fun b => decide (b < W.heap.size)) p.block = true := fun p hp => by simpa using hlt p hp
  have hW0 := hW
  obtain ⟨p, q, hA, hV, hpq, hz, hn⟩ := hW
  rw [hv] at hV
  obtain ⟨rfl, rfl⟩ := trodVars_none hV
  rw [List.append_nil] at hpq
  subst hpq
  have hargs : ∀ sp : Nat → Bool, (∀ p ∈ before, sp p.block = true) → DataW.TrodAll enc P W' 0 sp true f.params.toList args.toList (s.fn H (ds ++ [])).args before := by
    intro sp hsp
    rw [hs]
    exact trodAll_stays hl hb ht hA hlt hsp
  have hr : ∀ (b : Nat) (sp : Nat → Bool) (hd : Bool), DataW.TrodAll enc P W' b sp hd f.resultTypes.toList ((Value.bool true).resultList f.resultTypes.size) (s.fn H (ds ++ [])).results [] := by
    intro b sp hd
    rw [hs, hres]
    exact trodAll_cons_mk (shut_bool hbool _) trodAll_mk0
  have hvars : ∀ sp : Nat → Bool, (∀ p ∈ before, sp p.block = true) → DataW.TrodVars enc P W' sp s.vars (s.fn H (ds ++ [])).vars [] := by
    intro sp _
    rw [hs, hv]
    rfl
  have hok : ∀ (j : Nat) (t : TypeId) (r : Value), f.resultTypes[j]? = some t → ((Value.bool true).resultList f.resultTypes.size)[j]? = some r → Value.okWide P W' .any 0 t r := by
    exact ok_one hres rfl (okWide_bool_mk hbool _)
  refine ⟨ds, [], before, [], before, [], hW0, hr _ _ _, hargs _ hold, hvars _ hold, World.keptBut_mono (fun p hp => ⟨hp, ?_⟩) (hb.frame (· ∈ before)), fun _ => ?_⟩
  · simpa using hp
  · refine ⟨hok, _, _, ([] ++ before) ++ [], ⟨[] ++ before, [], trodAll_append (hargs _ (fun _ _ => rfl)) (hr _ _ _), hvars _ (fun _ _ => rfl), rfl, ?_, ?_⟩, ?_⟩
    · intro b off hp
      have hin : MemPlace.cell b off ∈ before := by simpa using hp
      rw [hb.frozen (hlt _ hin)]
      exact hz b off hin
    · intro ha
      simpa using hn ha
    · intro p hp _
      simpa using hp
theorem cells_slice {r : Reach} {b0 : Nat} {t e : TypeId} {W : World} {v : Value} (ht : P.underlying t = some (.slice e)) (h : Value.okWide P W r b0 t v) : v.cells = #[v] := by
  obtain ⟨a, l, c, rfl⟩ := okWide_slice ht h
  rfl
end
end Go.Proofs.Frame
namespace Go.Proofs.Rm
open Go.RowKit Go.WideShapes Go.ChangeShapes Go.Proofs.Heap Go.Proofs.Mem Go.Deep
/-- An operation, its two slices' values beside it. -/
structure OpV where
  o : Op
  sa : Option Addr
  sc : Nat
  ba : Option Addr
  bl : Nat
  bc : Nat
def opvCells (x : OpV) : List Value := [.int .i64 x.o.kind, .int .i64 x.o.peer, .int .i64 x.o.source, .int .i64 x.o.layer, .string (str x.o.name), .slice x.sa x.o.ssrcs.length x.sc, .slice x.ba x.bl x.bc]
section
variable {H : Type} {enc : TypeId × Value → H} {W : World} {base : Nat} {sp : Nat → Bool} {held : Bool}
theorem spot_none {w : World} {a : Addr} {v : Value} (h : w.cell? a = some v) : a = ⟨a.block, a.off, none⟩ := by
  obtain ⟨b, o, s⟩ := a
  cases s with
  | none => rfl
  | some x => simp [World.cell?] at h; split at h <;> simp_all
theorem add_none {a : Addr} (h : a = ⟨a.block, a.off, none⟩) (j : Nat) : a.add j = ⟨a.block, a.off + j, none⟩ := by
  unfold Addr.add
  split
  · rename_i h0; subst h0; exact h
  · rw [h]
theorem trod_u32s {fuel : Nat} {v : Value} {x : DataW H × List MemPlace} (h : DataW.trod enc Tryz.prog W base sp held fuel 29 [v] = some x) : ∃ (l : List Int) (a : Option Addr) (c : Nat), v = .slice a l.length c ∧ RRow W (.slice a l.length c) l.length (u32s l) := by
  rcases open_slice1 Tryz.underlying29 (by kernel_rfl) h with ⟨hc, _⟩ | ⟨a, len, cap, m, n, V, D, Pl, hcs, hb, hl, hm, hmm, _, hx⟩
  · exact ⟨[], none, 0, by simpa using hc, RRow.nil _⟩
  · have hlm : len ≤ m := by rw [hmm]; split <;> omega
    have hv : v = .slice (some a) len cap := by simpa using hcs
    have key : ∀ i, i < len → ∃ z, W.cell? (a.add i) = some (.int .u32 z) ∧ V i = .int .u32 z := by
      intro i hi
      obtain ⟨h1, h2⟩ := hx i (by omega)
      obtain ⟨z, hz, _⟩ := DataW.trod_int Tryz.underlying66 h2
      have hz : V i = .int .u32 z := by simpa using hz
      exact ⟨z, by rw [h1, hz], hz⟩
    let l : List Int := (List.range len).map fun i => match V i with | .int _ z => z | _ => 0
    have hll : l.length = len := by simp [l]
    refine ⟨l, some a, cap, by rw [hll]; exact hv, some a, cap, rfl, by rw [hll]; exact hl, hm, (fun h => by cases h), ?_⟩
    by_cases h0 : len = 0
    · exact Or.inl (List.eq_nil_of_length_eq_zero (by rw [u32s_length, hll]; exact h0))
    · obtain ⟨z0, hz0, _⟩ := key 0 (by omega)
      have hz0' : W.cell? a = some (.int .u32 z0) := by unfold Addr.add at hz0; simpa using hz0
      have ha := spot_none hz0'
      refine Or.inr ⟨a.block, a.off, by rw [← ha], World.block_lt_of_cell? W a hz0', fun j hj => ?_⟩
      rw [u32s_length, hll] at hj
      obtain ⟨z, hz, hV⟩ := key j hj
      rw [← add_none ha, hz]
      simp [u32s, l, hj, hV]
theorem seven {α : Type} {l : List α} (h : l.length = 7) : ∃ c0 c1 c2 c3 c4 c5 c6, l = [c0, c1, c2, c3, c4, c5, c6] := by
  obtain _ | ⟨c0, l⟩ := l
  · simp at h
  obtain _ | ⟨c1, l⟩ := l
  · simp at h
  obtain _ | ⟨c2, l⟩ := l
  · simp at h
  obtain _ | ⟨c3, l⟩ := l
  · simp at h
  obtain _ | ⟨c4, l⟩ := l
  · simp at h
  obtain _ | ⟨c5, l⟩ := l
  · simp at h
  obtain _ | ⟨c6, l⟩ := l
  · simp at h
  obtain _ | ⟨c7, l⟩ := l
  · exact ⟨_, _, _, _, _, _, _, rfl⟩
  · simp at h
theorem weights_all {P : Program} {e : TypeId} : ∀ {l : List (DataW H)} {d : DataW H}, d ∈ l → ∀ n ∈ d.weights P e, n ∈ DataW.weightsAll P e l
  | d0 :: l, d, hd, n, hn => by
    simp only [DataW.weightsAll, List.mem_append]
    rcases List.mem_cons.1 hd with rfl | hd
    · exact Or.inl hn
    · exact Or.inr (weights_all hd n hn)
  | [], _, hd, _, _ => by simp at hd
end
end Go.Proofs.Rm
namespace Go.Proofs.Rm
open Go.RowKit Go.Proofs.Heap Go.Proofs.Mem
end Go.Proofs.Rm
namespace Go.Proofs.Rm
open Go.RowKit Go.Proofs.Heap Go.Proofs.Mem
end Go.Proofs.Rm
namespace Go.Proofs.Rm
open Go.RowKit Go.Proofs.Heap Go.Proofs.Mem
end Go.Proofs.Rm
namespace Go.Proofs.Rm
open Go.RowKit Go.Proofs.Heap Go.Proofs.Mem
open Go.Proofs.Lab (may key Tabs)
theorem row_atR {α : Type} (f : α → List Value) (k : Nat) (hk : ∀ x, (f x).length = k) (hk0 : 0 < k) {w : World} {v : Value} {n : Nat} {l : List α} (h : RRow w v n (l.flatMap f)) (hl : 0 < l.length) :
    ∃ g off cap, v = .slice (some ⟨g, off, none⟩) n cap ∧ n ≤ cap ∧ cap ≤ maxLen ∧ g < w.heap.size ∧ ∀ (i : Nat) (x : α), l[i]? = some x → ∀ j, j < k → w.cell? ⟨g, off + i * k + j, none⟩ = (f x)[j]? := by
  have hfl := flat_length f k hk l
  obtain ⟨g, off, cap, h1, h2, h3, h4, h5⟩ := h.open (by rw [hfl]; exact Nat.mul_pos hl hk0)
  refine ⟨g, off, cap, h1, h2, h3, h4, fun i x hx j hj => ?_⟩
  have hi : i < l.length := (List.getElem?_eq_some_iff.1 hx).1
  have hlt : i * k + j < l.length * k := by
    have h6 : (i + 1) * k ≤ l.length * k := Nat.mul_le_mul_right _ hi
    rw [Nat.succ_mul] at h6
    omega
  rw [Nat.add_assoc, h5 _ (by rw [hfl]; exact hlt)]
  exact flat_at f k hk l i j x hx hj
/-- Of a room that keeps what is not there empty, every list of SSRCs is short. -/
structure Slim (R : Room) : Prop where
  short : ∀ n, (R.src n).ss.length ≤ 1000000
theorem slim_setSrc {R : Room} (h : Slim R) (n : Nat) (x : Src) (hx : x.ss.length ≤ 1000000) : Slim (R.setSrc n x) := ⟨fun m => by rw [setSrc_src]; split; exact hx; exact h.short m⟩
theorem slim_gone {R : Room} (h : Slim R) (n : Nat) : Slim (gone R n).2 := ⟨fun m => by rw [gone_src]; split; exact Nat.zero_le _; exact h.short m⟩
theorem slim_leave {R : Room} (h : Slim R) (p : Nat) : Slim (leave R p).2 := by
  have h1 : Slim (leave1 p R 9).2 := ⟨fun m => by rw [(leave1_names R p 9).2]; exact h.short m⟩
  exact ⟨fun m => by show ((leave2 (leave1 p R 9).2 p 9).2.src m).ss.length ≤ _; rw [leave2_src]; split; exact Nat.zero_le _; exact h1.short m⟩
theorem slim_turns {R : Room} {o : Op} (h : Slim R) (ok : Ok R o) (sv : Value) : Slim (turns R o sv).2 := by
  unfold turns
  dsimp only
  by_cases k2 : o.kind = 2
  · rw [if_pos k2]; exact ⟨h.short⟩
  rw [if_neg k2]
  by_cases k3 : o.kind = 3
  · rw [if_pos k3]; exact slim_leave h _
  rw [if_neg k3]
  by_cases k4 : o.kind = 4
  · rw [if_pos k4]; exact slim_setSrc h _ _ (by have := (pub_ok (ok.pub k4)).2.1; show o.ssrcs.length ≤ _; omega)
  rw [if_neg k4]
  by_cases k5 : o.kind = 5
  · rw [if_pos k5]; exact slim_gone h _
  rw [if_neg k5]
  by_cases k6 : o.kind = 6
  · rw [if_pos k6]; exact ⟨h.short⟩
  rw [if_neg k6]
  by_cases k7 : o.kind = 7
  · rw [if_pos k7]; exact ⟨h.short⟩
  rw [if_neg k7]
  by_cases k8 : o.kind = 8
  · rw [if_pos k8]; exact slim_setSrc h _ _ (h.short _)
  rw [if_neg k8]
  by_cases k9 : o.kind = 9
  · rw [if_pos k9]; exact slim_setSrc h _ _ (h.short _)
  rw [if_neg k9]
  split
  · exact ⟨h.short⟩
  split
  · exact ⟨h.short⟩
  split
  · exact ⟨h.short⟩
  · exact h
theorem slim_doo {R : Room} (h : Slim R) (o : Op) (sv : Value) : Slim (doo R o sv).1.2 := by
  unfold doo
  by_cases h0 : wrong R o = 0
  · rw [if_neg (by simpa using h0)]; exact slim_turns h (wrong_ok h0) sv
  · rw [if_pos h0]; exact h
theorem slim_empty : Slim empty := ⟨fun _ => Nat.zero_le _⟩
theorem slim_goneOp {R : Room} (h : Slim R) (p x : Int) : Slim (goneOp R p x).1.2 := by
  unfold goneOp
  split
  · exact h
  · exact slim_gone h _
end Go.Proofs.Rm
namespace Go.Proofs.Rm
open Go.RowKit Go.Proofs.Heap Go.Proofs.Mem
open Go.Proofs.Lab (may key Tabs)
end Go.Proofs.Rm
namespace Go.Proofs.Rm
open Go.RowKit Go.Proofs.Heap Go.Proofs.Mem
open Go.Proofs.Lab (may key Tabs)
/-- What 'Source' leaves, whatever the number. -/
theorem Source_any (b : Nat) (R : Room) (n : Nat) (w : World) (hR : RoomAt w b R) (hI : Inv R) (hl : ∀ n, (R.src n).ss.length ≤ 1000000) :
    Calls Tryz.prog 81 #[.pointer (some ⟨b, 0, none⟩), .int .i64 n] w fun e w' =>
      (∃ (nm ow : Int) (a : Option Addr) (k c : Nat) (mu has : Bool), e = .returned (.tuple #[.agg #[.int .i64 nm, .int .i64 ow, .slice a k c, .bool mu], .bool has]) ∧ has = (R.src n).there ∧ (has = true → ow = (R.src n).own)) ∧ Below w.heap.size w w' := by
  cases ht : (R.src n).there
  · refine (Source_no b R n w hR ?_).mono ?_
    · rw [Int.toNat_natCast, ht, Bool.and_false]
    · rintro e w' ⟨rfl, hb⟩
      exact ⟨⟨_, _, _, _, _, _, _, rfl, rfl, fun h => by cases h⟩, hb⟩
  · have hs := hI.srcAt n ht
    refine (Source_yes b R n w hR ⟨hs.1, hs.2.1⟩ ht (hl n)).mono ?_
    rintro e w' ⟨⟨v', rfl, ⟨a, c, rfl, _⟩⟩, hb⟩
    exact ⟨⟨_, _, _, _, _, _, _, rfl, rfl, fun _ => rfl⟩, hb⟩
end Go.Proofs.Rm
set_option linter.unusedSimpArgs false
namespace Go.Proofs.By
open Go.RowKit Go.Proofs.Heap
open Go.Proofs.Rm (TurnRow Turn Room RoomAt Inv of of_some of_lt Of_any Source_any)
theorem step_loadrow {P : Program} {ops : Array Oper} {o : Oper} {a : Act} {w : World} {K : Act → World → Prop} {Q : Exit → Act → World → Prop} {E' : Prop} (hgd : o.guard = none) (ty : TypeId) (x : Operand) (ho : o.op = .load ty x)
    (g : Nat) (hx : a.eval x = .pointer (some ⟨g, 0, none⟩)) (t : TypeId) (cs : Array Value) (fr : Nat × Nat) (d : TypeDesc) (hg : w.heap[g]? = some (.cells cs t fr))
    (hu : P.underlying ty = some d) (hd : (match d with | .struct _ | .array _ _ => true | _ => false) = true) (hi : (P.info? ty).map (·.size) = some cs.size)
    (h : K (a.put o.dst (.agg cs)) w) : if Region.wanted o (yielded ops a.tmps) = true then Oper.wp P o a w K Q else E' := by
  have hw : Region.wanted o (yielded ops a.tmps) = true := by simp [Region.wanted, hgd]
  rw [if_pos hw]
  exact wp_load_row ty x ho g hx t cs fr d hg hu hd hi h
theorem tk_size {w : World} {cs : List Value} {T : Taken} (h : TakenIn w cs T) : cs.toArray.size = 22 := by rw [List.size_toArray]; exact h.size
theorem tk_hold {w : World} {cs : List Value} {T : Taken} (h : TakenIn w cs T) : (#[.int .i64 0, .int .i64 0, .int .i64 0, .int .i64 0, .bool false, .int .i64 0, .int .u16 0, .int .u32 0, .int .u32 0, .slice none 0 0, .bool false, .int .u16 0, .slice none 0 0, .slice none 0 0, .int .i64 0, .int .i64 0, .bool false, .bool false, .int .u16 0, .slice none 0 0, .slice none 0 0, .int .i64 0] : Array Value).size = cs.toArray.size := by rw [tk_size h]; rfl
theorem tk_info {w : World} {cs : List Value} {T : Taken} (h : TakenIn w cs T) : (Tryz.prog.info? 100).map (·.size) = some cs.toArray.size := by rw [tk_size h]; kernel_rfl
/-- What is taken does not feel it that a block of such a thing is written over. -/
theorem TakenIn.setRow {w : World} {cs : List Value} {T : Taken} (h : TakenIn w cs T) {g : Nat} {c : Array Value} {f : Nat × Nat} (hg : w.heap[g]? = some (.cells c 100 f)) (c' : Array Value) : TakenIn (w.setRow g c') cs T :=
  h.fr (fr_setRow w g c') (fun k hk => by have hk : k = g := hk; subst hk; exact ⟨_, _, _, hg, by decide, by decide, by decide, by decide, by decide, by decide, by decide⟩)
set_option maxRecDepth 100000 in
set_option maxHeartbeats 2000000 in
theorem media_any (g b : Nat) (R : Room) (ep peer : Int) (P : Pkt) (d : Dsc) (cv ev pv : Value) (w : World) (hD : DoorAt w g b R ep) (hI : Inv R) (hl : ∀ n, (R.src n).ss.length ≤ 1000000) (hP : PktR w P cv ev pv) :
    Calls Tryz.prog 106 #[.pointer (some ⟨g, 0, none⟩), .int .i64 peer, .agg (medCells P d cv ev pv).toArray] w fun e w' => (∃ cs : List Value, e = .returned (.agg cs.toArray) ∧ TakenIn w' cs (mediaT R ep peer P d)) ∧ Below w.heap.size w w' := by
  obtain ⟨⟨ca, cc, rfl⟩, ⟨ea, ec, rfl⟩, ⟨pa, pc, rfl⟩⟩ := hP.form
  obtain ⟨n, O2, O3, hO⟩ : ∃ (n : Nat) (O2 : Int) (O3 : Bool), of R P.ssrc = ((n : Int), O2, O3) := ⟨(of R P.ssrc).1.toNat, (of R P.ssrc).2.1, (of R P.ssrc).2.2, by rw [Int.toNat_of_nonneg (of_lt R P.ssrc).1]⟩
  have HX : Hid (mediaT R ep peer P d = if (O3 && decide ((R.src n).own = peer)) && decide (O2 = d.layer) then { noTaken with adm := ⟨1, (n : Int), ep, 0⟩, pkt := P, dsc := d } else refusedT 5 0) := by
    show mediaT R ep peer P d = _
    unfold mediaT owned
    rw [hO]
    rfl
  have HTH : Hid (O3 = true → (R.src n).there = true) := by
    show _ → _
    intro h3
    obtain ⟨m, _, h1, _, h2⟩ := of_some (R := R) (x := P.ssrc) (by rw [hO]; exact h3)
    rw [hO] at h2
    have h4 : (n : Int) = (m : Int) := congrArg (·.1) h2
    have h4 : n = m := by omega
    rw [h4]; exact h1
  generalize mediaT R ep peer P d = X at *
  have hgl := hD.cells.2.2.2
  have hxb : ((w.alloc (.cells #[.bool P.marker, .int .i64 P.type, .int .u16 P.seq, .int .u32 P.time, .int .u32 P.ssrc, .slice ca P.csrc.length cc, .bool P.hasExt, .int .u16 P.profile, .slice ea P.ext.length ec, .slice pa P.payload.length pc, .int .i64 P.pad, .int .i64 d.layer, .bool d.key, .bool d.start, .int .u16 d.frame] 97)).alloc (.cells #[.int .i64 0, .int .i64 0, .int .i64 0, .int .i64 0, .bool false, .int .i64 0, .int .u16 0, .int .u32 0, .int .u32 0, .slice none 0 0, .bool false, .int .u16 0, .slice none 0 0, .slice none 0 0, .int .i64 0, .int .i64 0, .bool false, .bool false, .int .u16 0, .slice none 0 0, .slice none 0 0, .int .i64 0] 100)).heap[w.heap.size]? = some (.cells #[.bool P.marker, .int .i64 P.type, .int .u16 P.seq, .int .u32 P.time, .int .u32 P.ssrc, .slice ca P.csrc.length cc, .bool P.hasExt, .int .u16 P.profile, .slice ea P.ext.length ec, .slice pa P.payload.length pc, .int .i64 P.pad, .int .i64 d.layer, .bool d.key, .bool d.start, .int .u16 d.frame] 97 (0, 0)) := by
    rw [(below_alloc _ _).block _ (by show _ < (w.heap.push _).size; rw [Array.size_push]; exact Nat.lt_succ_self _)]
    exact heap_new w _
  have hz : ((w.alloc (.cells #[.bool P.marker, .int .i64 P.type, .int .u16 P.seq, .int .u32 P.time, .int .u32 P.ssrc, .slice ca P.csrc.length cc, .bool P.hasExt, .int .u16 P.profile, .slice ea P.ext.length ec, .slice pa P.payload.length pc, .int .i64 P.pad, .int .i64 d.layer, .bool d.key, .bool d.start, .int .u16 d.frame] 97)).alloc (.cells #[.int .i64 0, .int .i64 0, .int .i64 0, .int .i64 0, .bool false, .int .i64 0, .int .u16 0, .int .u32 0, .int .u32 0, .slice none 0 0, .bool false, .int .u16 0, .slice none 0 0, .slice none 0 0, .int .i64 0, .int .i64 0, .bool false, .bool false, .int .u16 0, .slice none 0 0, .slice none 0 0, .int .i64 0] 100)).heap[w.heap.size + 1]? = some (.cells #[.int .i64 0, .int .i64 0, .int .i64 0, .int .i64 0, .bool false, .int .i64 0, .int .u16 0, .int .u32 0, .int .u32 0, .slice none 0 0, .bool false, .int .u16 0, .slice none 0 0, .slice none 0 0, .int .i64 0, .int .i64 0, .bool false, .bool false, .int .u16 0, .slice none 0 0, .slice none 0 0, .int .i64 0] 100 (0, 0)) := by
    have h := heap_new (w.alloc (.cells #[.bool P.marker, .int .i64 P.type, .int .u16 P.seq, .int .u32 P.time, .int .u32 P.ssrc, .slice ca P.csrc.length cc, .bool P.hasExt, .int .u16 P.profile, .slice ea P.ext.length ec, .slice pa P.payload.length pc, .int .i64 P.pad, .int .i64 d.layer, .bool d.key, .bool d.start, .int .u16 d.frame] 97)) (.cells #[.int .i64 0, .int .i64 0, .int .i64 0, .int .i64 0, .bool false, .int .i64 0, .int .u16 0, .int .u32 0, .int .u32 0, .slice none 0 0, .bool false, .int .u16 0, .slice none 0 0, .slice none 0 0, .int .i64 0, .int .i64 0, .bool false, .bool false, .int .u16 0, .slice none 0 0, .slice none 0 0, .int .i64 0] 100)
    have e : (w.alloc (.cells #[.bool P.marker, .int .i64 P.type, .int .u16 P.seq, .int .u32 P.time, .int .u32 P.ssrc, .slice ca P.csrc.length cc, .bool P.hasExt, .int .u16 P.profile, .slice ea P.ext.length ec, .slice pa P.payload.length pc, .int .i64 P.pad, .int .i64 d.layer, .bool d.key, .bool d.start, .int .u16 d.frame] 97)).heap.size = w.heap.size + 1 := by show (w.heap.push _).size = _; rw [Array.size_push]
    rw [e] at h
    exact h
  have hbw : Below w.heap.size w ((w.alloc (.cells #[.bool P.marker, .int .i64 P.type, .int .u16 P.seq, .int .u32 P.time, .int .u32 P.ssrc, .slice ca P.csrc.length cc, .bool P.hasExt, .int .u16 P.profile, .slice ea P.ext.length ec, .slice pa P.payload.length pc, .int .i64 P.pad, .int .i64 d.layer, .bool d.key, .bool d.start, .int .u16 d.frame] 97)).alloc (.cells #[.int .i64 0, .int .i64 0, .int .i64 0, .int .i64 0, .bool false, .int .i64 0, .int .u16 0, .int .u32 0, .int .u32 0, .slice none 0 0, .bool false, .int .u16 0, .slice none 0 0, .slice none 0 0, .int .i64 0, .int .i64 0, .bool false, .bool false, .int .u16 0, .slice none 0 0, .slice none 0 0, .int .i64 0] 100)) := bel_alloc (below_alloc w _) (Nat.le_refl _) _
  have HD1 : Hid (DoorAt ((w.alloc (.cells #[.bool P.marker, .int .i64 P.type, .int .u16 P.seq, .int .u32 P.time, .int .u32 P.ssrc, .slice ca P.csrc.length cc, .bool P.hasExt, .int .u16 P.profile, .slice ea P.ext.length ec, .slice pa P.payload.length pc, .int .i64 P.pad, .int .i64 d.layer, .bool d.key, .bool d.start, .int .u16 d.frame] 97)).alloc (.cells #[.int .i64 0, .int .i64 0, .int .i64 0, .int .i64 0, .bool false, .int .i64 0, .int .u16 0, .int .u32 0, .int .u32 0, .slice none 0 0, .bool false, .int .u16 0, .slice none 0 0, .slice none 0 0, .int .i64 0, .int .i64 0, .bool false, .bool false, .int .u16 0, .slice none 0 0, .slice none 0 0, .int .i64 0] 100)) g b R ep) := hD.below hbw
  have HP1 : Hid (PktR ((w.alloc (.cells #[.bool P.marker, .int .i64 P.type, .int .u16 P.seq, .int .u32 P.time, .int .u32 P.ssrc, .slice ca P.csrc.length cc, .bool P.hasExt, .int .u16 P.profile, .slice ea P.ext.length ec, .slice pa P.payload.length pc, .int .i64 P.pad, .int .i64 d.layer, .bool d.key, .bool d.start, .int .u16 d.frame] 97)).alloc (.cells #[.int .i64 0, .int .i64 0, .int .i64 0, .int .i64 0, .bool false, .int .i64 0, .int .u16 0, .int .u32 0, .int .u32 0, .slice none 0 0, .bool false, .int .u16 0, .slice none 0 0, .slice none 0 0, .int .i64 0, .int .i64 0, .bool false, .bool false, .int .u16 0, .slice none 0 0, .slice none 0 0, .int .i64 0] 100)) P (.slice ca P.csrc.length cc) (.slice ea P.ext.length ec) (.slice pa P.payload.length pc)) := hP.below hbw
  have HXB := Lib.hid hxb
  have HZ := Lib.hid hz
  have HBW := Lib.hid hbw
  clear hD hP hxb hz hbw
  dsimp only [medCells]
  go_enter Tryz.func106, Tryz.ntmps106
  go_upto_region 1 with fail
  generalize ((w.alloc (.cells #[.bool P.marker, .int .i64 P.type, .int .u16 P.seq, .int .u32 P.time, .int .u32 P.ssrc, .slice ca P.csrc.length cc, .bool P.hasExt, .int .u16 P.profile, .slice ea P.ext.length ec, .slice pa P.payload.length pc, .int .i64 P.pad, .int .i64 d.layer, .bool d.key, .bool d.start, .int .u16 d.frame] 97)).alloc (.cells #[.int .i64 0, .int .i64 0, .int .i64 0, .int .i64 0, .bool false, .int .i64 0, .int .u16 0, .int .u32 0, .int .u32 0, .slice none 0 0, .bool false, .int .u16 0, .slice none 0 0, .slice none 0 0, .int .i64 0, .int .i64 0, .bool false, .bool false, .int .u16 0, .slice none 0 0, .slice none 0 0, .int .i64 0] 100)) = w1 at *
  have COF : Hid (Calls Tryz.prog 127 #[.pointer (some ⟨b, 0, none⟩), .int .u32 P.ssrc] w1.drew fun e w' => e = .returned (.tuple #[.int .i64 (n : Int), .int .i64 O2, .bool O3]) ∧ Below w1.heap.size w1 w') := by
    have h := Of_any b R P.ssrc w1.drew (HD1.out.room.below (Below.refl _ _).drew)
    rw [hO] at h
    exact h.mono (fun _ _ ⟨q1, q2⟩ => ⟨q1, (Below.refl _ _).drew.trans q2⟩)
  have KEEP : Hid (∀ w', Below w1.heap.size w1 w' → w'.cell? ⟨g, 0, none⟩ = some (.pointer (some ⟨b, 0, none⟩)) ∧ w'.cell? ⟨w.heap.size, 4, none⟩ = some (.int .u32 P.ssrc) ∧ Below w1.heap.size w1 w') := fun w' h =>
    ⟨(HD1.out.below h).cells.1, by rw [cell_of ((h.block w.heap.size (hp_lt HXB.out)).trans HXB.out) 4]; rfl, h⟩
  clear hO
  refine wp_region_noPanic ?_
  refine wp_region_held_drew (S := (fun w' => w'.cell? ⟨g, 0, none⟩ = some (.pointer (some ⟨b, 0, none⟩)) ∧ w'.cell? ⟨w.heap.size, 4, none⟩ = some (.int .u32 P.ssrc) ∧ Below w1.heap.size w1 w')) (by kernel_rfl) ?_ (fun hHeld0 => ?_)
  · (try dsimp only)
    exact KEEP.out _ (Below.refl _ _).drew
  refine wpAnyH_take (i := 0) (v := ?_) rfl (by kernel_rfl) (by kernel_rfl) (by kernel_rfl) (fun _ _ _ h => h) (Or.inl ⟨by rfl, ?_⟩) (by assumption) ?_
  rotate_left
  · intro w hSw
    (try dsimp only at hSw)
    go_simp
    try with_reducible rfl
  try simp only [List.getElem_toArray, List.getElem_cons_succ, List.getElem_cons_zero, Act.put, List.setIfInBounds_toArray, List.set_cons_zero, List.set_cons_succ]
  refine wpAnyH_take (i := 1) (v := ?_) rfl (by kernel_rfl) (by kernel_rfl) (by kernel_rfl) (fun _ _ _ h => h) (Or.inl ⟨by rfl, ?_⟩) (by assumption) ?_
  rotate_left
  · intro w hSw
    (try dsimp only at hSw)
    go_simp
    try with_reducible rfl
  try simp only [List.getElem_toArray, List.getElem_cons_succ, List.getElem_cons_zero, Act.put, List.setIfInBounds_toArray, List.set_cons_zero, List.set_cons_succ]
  refine wpAnyH_take (i := 2) (v := ?_) rfl (by kernel_rfl) (by kernel_rfl) (by kernel_rfl) (fun _ _ _ h => h) (Or.inl ⟨by rfl, ?_⟩) (by assumption) ?_
  rotate_left
  · intro w hSw
    (try dsimp only at hSw)
    go_simp
    try with_reducible rfl
  try simp only [List.getElem_toArray, List.getElem_cons_succ, List.getElem_cons_zero, Act.put, List.setIfInBounds_toArray, List.set_cons_zero, List.set_cons_succ]
  refine wpAnyH_take (i := 3) (v := ?_) rfl (by kernel_rfl) (by kernel_rfl) (by kernel_rfl) (fun _ _ _ h => h) (Or.inl ⟨by rfl, ?_⟩) (by assumption) ?_
  rotate_left
  · intro w hSw
    (try dsimp only at hSw)
    go_simp
    try with_reducible rfl
  try simp only [List.getElem_toArray, List.getElem_cons_succ, List.getElem_cons_zero, Act.put, List.setIfInBounds_toArray, List.set_cons_zero, List.set_cons_succ]
  refine wpAnyH_take (i := 4) (v := ?_) rfl (by kernel_rfl) (by kernel_rfl) (by kernel_rfl) (fun _ _ _ h => h) (Or.inl ⟨by rfl, ?_⟩) (by assumption) ?_
  rotate_left
  · intro w hSw
    (try dsimp only at hSw)
    go_simp
    try with_reducible rfl
  try simp only [List.getElem_toArray, List.getElem_cons_succ, List.getElem_cons_zero, Act.put, List.setIfInBounds_toArray, List.set_cons_zero, List.set_cons_succ]
  refine wpAnyH_take (i := 5) (v := ?_) rfl (by kernel_rfl) (by kernel_rfl) (by kernel_rfl) (fun _ _ _ h => h) (Or.inl ⟨by rfl, ?_⟩) (by assumption) ?_
  rotate_left
  · intro w hSw
    (try dsimp only at hSw)
    go_simp
    try with_reducible rfl
  try simp only [List.getElem_toArray, List.getElem_cons_succ, List.getElem_cons_zero, Act.put, List.setIfInBounds_toArray, List.set_cons_zero, List.set_cons_succ]
  refine wpAnyH_take (i := 6) (v := ?_) rfl (by kernel_rfl) (by kernel_rfl) (by kernel_rfl) (fun _ _ _ h => h) (Or.inl ⟨by rfl, ?_⟩) (by assumption) ?_
  rotate_left
  · intro w hSw
    (try dsimp only at hSw)
    go_simp
    try with_reducible rfl
  try simp only [List.getElem_toArray, List.getElem_cons_succ, List.getElem_cons_zero, Act.put, List.setIfInBounds_toArray, List.set_cons_zero, List.set_cons_succ]
  refine wpAnyH_ready (rs := [7]) (by kernel_rfl) (by simp) ?_
  refine AllReadyH.cons (i := 7) rfl (fun K hK => ?_) AllReadyH.nil
  go_simp
  refine COF.out.mono ?_
  rintro e w2 ⟨rfl, hb2⟩
  have HB2 := Lib.hid hb2
  clear hb2
  go_wp2_with fail
  refine hK.out _ _ ?_ (fun hHeld1 => ?_)
  · (try dsimp only)
    exact KEEP.out _ HB2.out
  clear hK K
  try simp only [List.getElem_toArray, List.getElem_cons_succ, List.getElem_cons_zero, Act.put, List.setIfInBounds_toArray, List.set_cons_zero, List.set_cons_succ]
  refine wpAnyH_take (i := 8) (v := ?_) rfl (by kernel_rfl) (by kernel_rfl) (by kernel_rfl) (fun _ _ _ h => h) (Or.inl ⟨by rfl, ?_⟩) (by assumption) ?_
  rotate_left
  · intro w hSw
    (try dsimp only at hSw)
    go_simp
    try with_reducible rfl
  try simp only [List.getElem_toArray, List.getElem_cons_succ, List.getElem_cons_zero, Act.put, List.setIfInBounds_toArray, List.set_cons_zero, List.set_cons_succ]
  refine wpAnyH_take (i := 9) (v := ?_) rfl (by kernel_rfl) (by kernel_rfl) (by kernel_rfl) (fun _ _ _ h => h) (Or.inl ⟨by rfl, ?_⟩) (by assumption) ?_
  rotate_left
  · intro w hSw
    (try dsimp only at hSw)
    go_simp
    try with_reducible rfl
  try simp only [List.getElem_toArray, List.getElem_cons_succ, List.getElem_cons_zero, Act.put, List.setIfInBounds_toArray, List.set_cons_zero, List.set_cons_succ]
  refine wpAnyH_take (i := 10) (v := ?_) rfl (by kernel_rfl) (by kernel_rfl) (by kernel_rfl) (fun _ _ _ h => h) (Or.inl ⟨by rfl, ?_⟩) (by assumption) ?_
  rotate_left
  · intro w hSw
    (try dsimp only at hSw)
    go_simp
    try with_reducible rfl
  try simp only [List.getElem_toArray, List.getElem_cons_succ, List.getElem_cons_zero, Act.put, List.setIfInBounds_toArray, List.set_cons_zero, List.set_cons_succ]
  refine wpAnyH_take (i := 11) (v := ?_) rfl (by kernel_rfl) (by kernel_rfl) (by kernel_rfl) (fun _ _ _ h => h) (Or.inl ⟨by rfl, ?_⟩) (by assumption) ?_
  rotate_left
  · intro w hSw
    (try dsimp only at hSw)
    go_simp
    try with_reducible rfl
  try simp only [List.getElem_toArray, List.getElem_cons_succ, List.getElem_cons_zero, Act.put, List.setIfInBounds_toArray, List.set_cons_zero, List.set_cons_succ]
  refine wpAnyH_take (i := 12) (v := ?_) rfl (by kernel_rfl) (by kernel_rfl) (by kernel_rfl) (fun _ _ _ h => h) (Or.inl ⟨by rfl, ?_⟩) (by assumption) ?_
  rotate_left
  · intro w hSw
    (try dsimp only at hSw)
    go_simp
    try with_reducible rfl
  try simp only [List.getElem_toArray, List.getElem_cons_succ, List.getElem_cons_zero, Act.put, List.setIfInBounds_toArray, List.set_cons_zero, List.set_cons_succ]
  refine wpAnyH_take (i := 13) (v := ?_) rfl (by kernel_rfl) (by kernel_rfl) (by kernel_rfl) (fun _ _ _ h => h) (Or.inl ⟨by rfl, ?_⟩) (by assumption) ?_
  rotate_left
  · intro w hSw
    (try dsimp only at hSw)
    go_simp
    try with_reducible rfl
  try simp only [List.getElem_toArray, List.getElem_cons_succ, List.getElem_cons_zero, Act.put, List.setIfInBounds_toArray, List.set_cons_zero, List.set_cons_succ]
  refine wpAnyH_take (i := 14) (v := ?_) rfl (by kernel_rfl) (by kernel_rfl) (by kernel_rfl) (fun _ _ _ h => h) (Or.inl ⟨by rfl, ?_⟩) (by assumption) ?_
  rotate_left
  · intro w hSw
    (try dsimp only at hSw)
    go_simp
    try with_reducible rfl
  try simp only [List.getElem_toArray, List.getElem_cons_succ, List.getElem_cons_zero, Act.put, List.setIfInBounds_toArray, List.set_cons_zero, List.set_cons_succ]
  refine wpAnyH_done (by kernel_rfl) ?_ _
  refine NoPanic.normal ?_
  have CSR : Hid (Calls Tryz.prog 81 #[.pointer (some ⟨b, 0, none⟩), .int .i64 (n : Int)] w2 fun e w' => (∃ (nm ow : Int) (a : Option Addr) (k c : Nat) (mu has : Bool), e = .returned (.tuple #[.agg #[.int .i64 nm, .int .i64 ow, .slice a k c, .bool mu], .bool has]) ∧ has = (R.src n).there ∧ (has = true → ow = (R.src n).own)) ∧ Below w2.heap.size w2 w') := Source_any b R n w2 (HD1.out.room.below HB2.out) hI hl
  have cg2 := (KEEP.out w2 HB2.out).1
  clear hHeld0 hHeld1 COF KEEP
  go_upto_region 3 with (go_at_call 81; refine CSR.out.mono ?_; rintro e w3 ⟨⟨nm, ow, a, k, c, mu, has, rfl, hhas, how⟩, hb3⟩; have HB3 := Lib.hid (HB2.out.trans (hb3.mono HB2.out.size)); have HH := Lib.hid hhas; have HOW := Lib.hid how; clear hb3 hhas how)
  have HB4 : Hid (Below w1.heap.size w1 (w3.alloc (.cells #[.int .i64 nm, .int .i64 ow, .slice a k c, .bool mu] 108))) := bel_alloc HB3.out (Nat.le_refl _) _
  have cl := cell_of ((HB3.out.block w.heap.size (hp_lt HXB.out)).trans HXB.out) 11
  simp only [List.getElem?_toArray, List.getElem?_cons_zero, List.getElem?_cons_succ] at cl
  have hxl : w.heap.size < w3.heap.size := Nat.lt_of_lt_of_le (hp_lt HXB.out) HB3.out.size
  clear CSR HB2 cg2
  cases O3 with
  | false =>
    rw [if_neg (by simp)] at HX
    go_wp2_with (first | (go_at_call 78; refine (refused_any 5 0 _).mono ?_; rintro e w5 ⟨⟨cs, rfl, htk⟩, hb5⟩; have HB5 := Lib.hid (HB4.out.trans (hb5.mono HB4.out.size)); have hz5 := (HB5.out.block (w.heap.size + 1) (hp_lt HZ.out)).trans HZ.out; have hi := tk_info htk; have hold := tk_hold htk; have hone := htk.one; have HTK := Lib.hid htk; clear htk hb5) | (with_reducible refine store_at 100 (.tmp 6) (.tmp 48) rfl ?_; refine store_rowTo2 rfl 100 (.tmp 6) (.tmp 48) rfl rfl (w.heap.size + 1) cs.toArray rfl rfl 100 #[.int .i64 0, .int .i64 0, .int .i64 0, .int .i64 0, .bool false, .int .i64 0, .int .u16 0, .int .u32 0, .int .u32 0, .slice none 0 0, .bool false, .int .u16 0, .slice none 0 0, .slice none 0 0, .int .i64 0, .int .i64 0, .bool false, .bool false, .int .u16 0, .slice none 0 0, .slice none 0 0, .int .i64 0] hz5 hi hold hone ?_))
    refine bodyPost_ret (v := .agg cs.toArray) ?_ rfl ?_
    · exact results_cell_row (by rfl) _ _ (w.heap.size + 1) 100 cs.toArray (0, 0) _ (by rfl) (setRow_heap _ _ _ _ _ _ hz5) Tryz.underlying100 rfl hi
    exact ⟨⟨cs, rfl, by rw [HX.out]; exact HTK.out.setRow hz5 _⟩, below_setRow (HBW.out.trans (HB5.out.mono HBW.out.size)) (Nat.le_succ _) _⟩
  | true =>
    have how : ow = (R.src n).own := HOW.out (by rw [HH.out]; exact HTH.out rfl)
    subst how
    clear HOW HH HTH
    by_cases hp : (R.src n).own = peer
    · by_cases hly : O2 = d.layer
      · subst hp
        subst hly
        rw [if_pos (by simp)] at HX
        go_upto_region 5 with fail
        clear cl hxl
        generalize w3.alloc (.cells #[.int .i64 nm, .int .i64 (R.src n).own, .slice a k c, .bool mu] 108) = w4 at *
        have cg4 := (HD1.out.below HB4.out).cells.2.1
        have hx4 := (HB4.out.block w.heap.size (hp_lt HXB.out)).trans HXB.out
        have hz4 := (HB4.out.block (w.heap.size + 1) (hp_lt HZ.out)).trans HZ.out
        have HP4 := Lib.hid (HP1.out.below HB4.out)
        have hbw4 : Below w.heap.size w w4 := HBW.out.trans (HB4.out.mono HBW.out.size)
        clear HD1 HP1 HXB HZ HB4 HB3 HBW hI hl
        refine wp_region_noPanic ?_
        refine wp_region_held_drew (S := (fun w' => w'.cell? ⟨g, 1, none⟩ = some (.int .i64 ep))) (by kernel_rfl) ?_ (fun hHeld0 => ?_)
        · (try dsimp only)
          exact cg4
        refine wpAnyH_take (i := 0) (v := ?_) rfl (by kernel_rfl) (by kernel_rfl) (by kernel_rfl) (fun _ _ _ h => h) (Or.inl ⟨by rfl, ?_⟩) (by assumption) ?_
        rotate_left
        · intro w hSw
          (try dsimp only at hSw)
          go_simp
          try with_reducible rfl
        try simp only [List.getElem_toArray, List.getElem_cons_succ, List.getElem_cons_zero, Act.put, List.setIfInBounds_toArray, List.set_cons_zero, List.set_cons_succ]
        refine wpAnyH_take (i := 1) (v := ?_) rfl (by kernel_rfl) (by kernel_rfl) (by kernel_rfl) (fun _ _ _ h => h) (Or.inl ⟨by rfl, ?_⟩) (by assumption) ?_
        rotate_left
        · intro w hSw
          (try dsimp only at hSw)
          go_simp
          try with_reducible rfl
        try simp only [List.getElem_toArray, List.getElem_cons_succ, List.getElem_cons_zero, Act.put, List.setIfInBounds_toArray, List.set_cons_zero, List.set_cons_succ]
        refine wpAnyH_take (i := 2) (v := ?_) rfl (by kernel_rfl) (by kernel_rfl) (by kernel_rfl) (fun _ _ _ h => h) (Or.inl ⟨by rfl, ?_⟩) (by assumption) ?_
        rotate_left
        · intro w hSw
          (try dsimp only at hSw)
          go_simp
          try with_reducible rfl
        try simp only [List.getElem_toArray, List.getElem_cons_succ, List.getElem_cons_zero, Act.put, List.setIfInBounds_toArray, List.set_cons_zero, List.set_cons_succ]
        refine wpAnyH_take (i := 3) (v := ?_) rfl (by kernel_rfl) (by kernel_rfl) (by kernel_rfl) (fun _ _ _ h => h) (Or.inl ⟨by rfl, ?_⟩) (by assumption) ?_
        rotate_left
        · intro w hSw
          (try dsimp only at hSw)
          go_simp
          try with_reducible rfl
        try simp only [List.getElem_toArray, List.getElem_cons_succ, List.getElem_cons_zero, Act.put, List.setIfInBounds_toArray, List.set_cons_zero, List.set_cons_succ]
        refine wpAnyH_take (i := 4) (v := ?_) rfl (by kernel_rfl) (by kernel_rfl) (by kernel_rfl) (fun _ _ _ h => h) (Or.inl ⟨by rfl, ?_⟩) (by assumption) ?_
        rotate_left
        · intro w hSw
          (try dsimp only at hSw)
          go_simp
          try with_reducible rfl
        try simp only [List.getElem_toArray, List.getElem_cons_succ, List.getElem_cons_zero, Act.put, List.setIfInBounds_toArray, List.set_cons_zero, List.set_cons_succ]
        refine wpAnyH_take (i := 5) (v := ?_) rfl (by kernel_rfl) (by kernel_rfl) (by kernel_rfl) (fun _ _ _ h => h) (Or.inl ⟨by rfl, ?_⟩) (by assumption) ?_
        rotate_left
        · intro w hSw
          (try dsimp only at hSw)
          go_simp
          try with_reducible rfl
        try simp only [List.getElem_toArray, List.getElem_cons_succ, List.getElem_cons_zero, Act.put, List.setIfInBounds_toArray, List.set_cons_zero, List.set_cons_succ]
        refine wpAnyH_ready (rs := [6]) (by kernel_rfl) (by simp) ?_
        refine AllReadyH.cons (i := 6) rfl (fun K hK => ?_) AllReadyH.nil
        refine step_loadrow (by rfl) 97 (.tmp 5) (by rfl) w.heap.size (by rfl) 97 #[.bool P.marker, .int .i64 P.type, .int .u16 P.seq, .int .u32 P.time, .int .u32 P.ssrc, .slice ca P.csrc.length cc, .bool P.hasExt, .int .u16 P.profile, .slice ea P.ext.length ec, .slice pa P.payload.length pc, .int .i64 P.pad, .int .i64 d.layer, .bool d.key, .bool d.start, .int .u16 d.frame] (0, 0) _ hx4 Tryz.underlying97 rfl (by kernel_rfl) ?_
        refine hK.out _ _ ?_ (fun hHeld1 => ?_)
        · (try dsimp only)
          first | exact cg4 | exact cg5
        clear hK K
        try simp only [List.getElem_toArray, List.getElem_cons_succ, List.getElem_cons_zero, Act.put, List.setIfInBounds_toArray, List.set_cons_zero, List.set_cons_succ]
        refine wpAnyH_take (i := 7) (v := ?_) rfl (by kernel_rfl) (by kernel_rfl) (by kernel_rfl) (fun _ _ _ h => h) (Or.inl ⟨by rfl, ?_⟩) (by assumption) ?_
        rotate_left
        · intro w hSw
          (try dsimp only at hSw)
          go_simp
          try with_reducible rfl
        try simp only [List.getElem_toArray, List.getElem_cons_succ, List.getElem_cons_zero, Act.put, List.setIfInBounds_toArray, List.set_cons_zero, List.set_cons_succ]
        refine wpAnyH_ready (rs := [8]) (by kernel_rfl) (by simp) ?_
        refine AllReadyH.cons (i := 8) rfl (fun K hK => ?_) AllReadyH.nil
        refine step_row (by rfl) 100 (.tmp 6) (.tmp 56) (by rfl) (by rfl) (w.heap.size + 1) #[.int .i64 1, .int .i64 (n : Int), .int .i64 ep, .int .i64 0, .bool P.marker, .int .i64 P.type, .int .u16 P.seq, .int .u32 P.time, .int .u32 P.ssrc, .slice ca P.csrc.length cc, .bool P.hasExt, .int .u16 P.profile, .slice ea P.ext.length ec, .slice pa P.payload.length pc, .int .i64 P.pad, .int .i64 d.layer, .bool d.key, .bool d.start, .int .u16 d.frame, .slice none 0 0, .slice none 0 0, .int .i64 0] (by rfl) (by rfl) 100 _ hz4 (by kernel_rfl) (by kernel_rfl) (by kernel_rfl) ?_
        have cg5 : (w4.setRow (w.heap.size + 1) #[.int .i64 1, .int .i64 (n : Int), .int .i64 ep, .int .i64 0, .bool P.marker, .int .i64 P.type, .int .u16 P.seq, .int .u32 P.time, .int .u32 P.ssrc, .slice ca P.csrc.length cc, .bool P.hasExt, .int .u16 P.profile, .slice ea P.ext.length ec, .slice pa P.payload.length pc, .int .i64 P.pad, .int .i64 d.layer, .bool d.key, .bool d.start, .int .u16 d.frame, .slice none 0 0, .slice none 0 0, .int .i64 0]).cell? ⟨g, 1, none⟩ = some (.int .i64 ep) := by rw [World.cell?_of_block (w := w4) (setRow_other w4 _ g _ (by omega))]; exact cg4
        refine hK.out _ _ ?_ (fun hHeld2 => ?_)
        · (try dsimp only)
          first | exact cg4 | exact cg5
        clear hK K
        try simp only [List.getElem_toArray, List.getElem_cons_succ, List.getElem_cons_zero, Act.put, List.setIfInBounds_toArray, List.set_cons_zero, List.set_cons_succ]
        refine wpAnyH_done (by kernel_rfl) ?_ _
        refine NoPanic.normal ?_
        go_wp2_with fail
        refine bodyPost_ret (v := .agg #[.int .i64 1, .int .i64 (n : Int), .int .i64 ep, .int .i64 0, .bool P.marker, .int .i64 P.type, .int .u16 P.seq, .int .u32 P.time, .int .u32 P.ssrc, .slice ca P.csrc.length cc, .bool P.hasExt, .int .u16 P.profile, .slice ea P.ext.length ec, .slice pa P.payload.length pc, .int .i64 P.pad, .int .i64 d.layer, .bool d.key, .bool d.start, .int .u16 d.frame, .slice none 0 0, .slice none 0 0, .int .i64 0]) ?_ rfl ?_
        · exact results_cell_row (by rfl) _ _ (w.heap.size + 1) 100 #[.int .i64 1, .int .i64 (n : Int), .int .i64 ep, .int .i64 0, .bool P.marker, .int .i64 P.type, .int .u16 P.seq, .int .u32 P.time, .int .u32 P.ssrc, .slice ca P.csrc.length cc, .bool P.hasExt, .int .u16 P.profile, .slice ea P.ext.length ec, .slice pa P.payload.length pc, .int .i64 P.pad, .int .i64 d.layer, .bool d.key, .bool d.start, .int .u16 d.frame, .slice none 0 0, .slice none 0 0, .int .i64 0] (0, 0) _ (by rfl) (setRow_heap w4.drew _ _ _ _ _ hz4) Tryz.underlying100 rfl (by kernel_rfl)
        refine ⟨⟨[.int .i64 1, .int .i64 (n : Int), .int .i64 ep, .int .i64 0, .bool P.marker, .int .i64 P.type, .int .u16 P.seq, .int .u32 P.time, .int .u32 P.ssrc, .slice ca P.csrc.length cc, .bool P.hasExt, .int .u16 P.profile, .slice ea P.ext.length ec, .slice pa P.payload.length pc, .int .i64 P.pad, .int .i64 d.layer, .bool d.key, .bool d.start, .int .u16 d.frame, .slice none 0 0, .slice none 0 0, .int .i64 0], rfl, ?_⟩, below_setRow hbw4.drew (Nat.le_succ _) _⟩
        rw [HX.out]
        have HT : TakenIn w4.drew [.int .i64 1, .int .i64 (n : Int), .int .i64 ep, .int .i64 0, .bool P.marker, .int .i64 P.type, .int .u16 P.seq, .int .u32 P.time, .int .u32 P.ssrc, .slice ca P.csrc.length cc, .bool P.hasExt, .int .u16 P.profile, .slice ea P.ext.length ec, .slice pa P.payload.length pc, .int .i64 P.pad, .int .i64 d.layer, .bool d.key, .bool d.start, .int .u16 d.frame, .slice none 0 0, .slice none 0 0, .int .i64 0] { noTaken with adm := ⟨1, (n : Int), ep, 0⟩, pkt := P, dsc := d } := ⟨_, _, _, _, _, rfl, HP4.out.below (Below.refl _ _).drew, ItmsRow.nil _, Row.nil _ _⟩
        exact HT.setRow hz4 _
      · rw [if_neg (by simp [hly])] at HX
        have hb : (O2 != d.layer) = true := by rw [bne_iff_ne]; exact hly
        have hb2 : (O2 == d.layer) = false := by rw [beq_eq_false_iff_ne]; exact hly
        subst hp
        go_wp2_with (first | (go_at_call 78; refine (refused_any 5 0 _).mono ?_; rintro e w5 ⟨⟨cs, rfl, htk⟩, hb5⟩; have HB5 := Lib.hid (HB4.out.trans (hb5.mono HB4.out.size)); have hz5 := (HB5.out.block (w.heap.size + 1) (hp_lt HZ.out)).trans HZ.out; have hi := tk_info htk; have hold := tk_hold htk; have hone := htk.one; have HTK := Lib.hid htk; clear htk hb5) | (with_reducible refine store_at 100 (.tmp 6) (.tmp 48) rfl ?_; refine store_rowTo2 rfl 100 (.tmp 6) (.tmp 48) rfl rfl (w.heap.size + 1) cs.toArray rfl rfl 100 #[.int .i64 0, .int .i64 0, .int .i64 0, .int .i64 0, .bool false, .int .i64 0, .int .u16 0, .int .u32 0, .int .u32 0, .slice none 0 0, .bool false, .int .u16 0, .slice none 0 0, .slice none 0 0, .int .i64 0, .int .i64 0, .bool false, .bool false, .int .u16 0, .slice none 0 0, .slice none 0 0, .int .i64 0] hz5 hi hold hone ?_))
        refine bodyPost_ret (v := .agg cs.toArray) ?_ rfl ?_
        · exact results_cell_row (by rfl) _ _ (w.heap.size + 1) 100 cs.toArray (0, 0) _ (by rfl) (setRow_heap _ _ _ _ _ _ hz5) Tryz.underlying100 rfl hi
        exact ⟨⟨cs, rfl, by rw [HX.out]; exact HTK.out.setRow hz5 _⟩, below_setRow (HBW.out.trans (HB5.out.mono HBW.out.size)) (Nat.le_succ _) _⟩
    · rw [if_neg (by simp [hp])] at HX
      have hb : ((R.src n).own != peer) = true := by rw [bne_iff_ne]; exact hp
      have hb2 : ((R.src n).own == peer) = false := by rw [beq_eq_false_iff_ne]; exact hp
      go_wp2_with (first | (go_at_call 78; refine (refused_any 5 0 _).mono ?_; rintro e w5 ⟨⟨cs, rfl, htk⟩, hb5⟩; have HB5 := Lib.hid (HB4.out.trans (hb5.mono HB4.out.size)); have hz5 := (HB5.out.block (w.heap.size + 1) (hp_lt HZ.out)).trans HZ.out; have hi := tk_info htk; have hold := tk_hold htk; have hone := htk.one; have HTK := Lib.hid htk; clear htk hb5) | (with_reducible refine store_at 100 (.tmp 6) (.tmp 48) rfl ?_; refine store_rowTo2 rfl 100 (.tmp 6) (.tmp 48) rfl rfl (w.heap.size + 1) cs.toArray rfl rfl 100 #[.int .i64 0, .int .i64 0, .int .i64 0, .int .i64 0, .bool false, .int .i64 0, .int .u16 0, .int .u32 0, .int .u32 0, .slice none 0 0, .bool false, .int .u16 0, .slice none 0 0, .slice none 0 0, .int .i64 0, .int .i64 0, .bool false, .bool false, .int .u16 0, .slice none 0 0, .slice none 0 0, .int .i64 0] hz5 hi hold hone ?_))
      refine bodyPost_ret (v := .agg cs.toArray) ?_ rfl ?_
      · exact results_cell_row (by rfl) _ _ (w.heap.size + 1) 100 cs.toArray (0, 0) _ (by rfl) (setRow_heap _ _ _ _ _ _ hz5) Tryz.underlying100 rfl hi
      exact ⟨⟨cs, rfl, by rw [HX.out]; exact HTK.out.setRow hz5 _⟩, below_setRow (HBW.out.trans (HB5.out.mono HBW.out.size)) (Nat.le_succ _) _⟩
end Go.Proofs.By
