/- Several texts in one: The walks of package room, each function once: turns (all kinds), Do. The walks of package room, each function once: New, Gone. The tables as plain data, and in memory. The walk of package room's Table. -/
import Derived.Deep.RegionLaw
import Derived.Test.YtpdjhlcbcomdkaaGreatDoorK01
import Derived.Test.YtpdjhlcbcomdkaaGreatDoorK02
import Derived.Test.YtpdjhlcbcomdkaaGreatDoorK05
import Derived.Test.YtpdjhlcbcomdkaaGreatDoorK09
import Derived.Test.YtpdjhlcbcomdkaaGreatDoorK10
namespace Go.Proofs.Rm
open Go.RowKit Go.Proofs.Heap Go.Proofs.Mem
open Go.Proofs.Lab (may key Tabs)
theorem turns_any (b : Nat) (R : Room) (o : Op) (sa ba : Option Addr) (sc bl bc : Nat) (w : World) (hR : RoomAt w b R) (hI : Inv R) (ok : Ok R o)
    (hrow : RRow w (.slice sa o.ssrcs.length sc) o.ssrcs.length (u32s o.ssrcs)) :
    Calls Tryz.prog 110 #[.pointer (some ⟨b, 0, none⟩), .agg #[.int .i64 o.kind, .int .i64 o.peer, .int .i64 o.source, .int .i64 o.layer, .string (str o.name), .slice sa o.ssrcs.length sc, .slice ba bl bc]] w (TurnsPost b R o w) := by
  have hok := ok
  obtain ⟨kd, p, n, q, nm, ss⟩ := o
  obtain ⟨hk, hp, hj, ht, hs, hpub, his, habt⟩ := ok
  dsimp only at *
  by_cases k2 : kd = 2
  · subst k2; exact turns_join b R p n q nm ss sa ba _ sc bl bc w hR hp
  by_cases k3 : kd = 3
  · subst k3; exact turns_leave b R p n q nm ss sa ba _ sc bl bc w hR hp
  have hn := hs (by omega)
  by_cases k4 : kd = 4
  · subst k4
    have h2 := (pub_ok (hpub rfl)).2.1
    dsimp only at h2
    exact turns_publish b R p n q nm ss sa ba _ sc bl bc w hR hp hn hrow (by omega)
  have habt := habt (by omega)
  have hb := fun q => hI.subAt n.toNat q
  by_cases k5 : kd = 5
  · subst k5; exact turns_unpublish b R p n q nm ss sa ba _ sc bl bc w hR hn
  by_cases k6 : kd = 6
  · subst k6; exact turns_subscribe b R p n q nm ss sa ba _ sc bl bc w hR hp hn (layer_ok (about_sub habt rfl).2.2)
  by_cases k7 : kd = 7
  · subst k7; exact turns_unsubscribe b R p n q nm ss sa ba _ sc bl bc w hR hp hn
  by_cases k8 : kd = 8
  · subst k8; exact turns_mute b R p n q nm ss sa ba _ sc bl bc w hR hn
  by_cases k9 : kd = 9
  · subst k9; exact turns_unmute b R p n q nm ss sa ba _ sc bl bc w hR hn fun p' _ ht => ⟨(hb p' ht).2.2.2.2.2.2.2.1, (hb p' ht).2.2.2.2.2.2.2.2⟩
  obtain ⟨h1, _, _, h4⟩ := about_hear habt (by right; show 10 ≤ kd; omega)
  dsimp only at h1 h4
  by_cases k10 : kd = 10
  · subst k10; exact turns_pause b R p n q nm ss sa ba _ sc bl bc w hR hp hn
  by_cases k11 : kd = 11
  · subst k11; exact turns_resume b R p n q nm ss sa ba _ sc bl bc w hR hp hn ⟨(hb _ h1).2.2.2.2.2.2.2.1, (hb _ h1).2.2.2.2.2.2.2.2⟩
  obtain rfl : kd = 12 := by omega
  exact turns_switch b R p n q nm ss sa ba _ sc bl bc w hR hp hn (layer_ok (h4 rfl).1)
/-- What 'Do' leaves. -/
def DoPost (b : Nat) (R : Room) (o : Op) (w : World) (e : Ending) (w' : World) : Prop :=
  ∃ v sv, e = .returned (.tuple #[v, .int .i64 (doo R o sv).2]) ∧ TurnRow w' v (doo R o sv).1.1 ∧ RoomAt w' b (doo R o sv).1.2 ∧ Fr w.heap.size (· = b) w w'
theorem doPost_wrong {b : Nat} {R : Room} {o : Op} {w w' : World} {x : Int} (hx : Hid (wrong R o = x)) (hne : x ≠ 0) (h2 : RoomAt w' b R) (h3 : Fr w.heap.size (· = b) w w') : DoPost b R o w (.returned (.tuple #[.slice none 0 0, .int .i64 x])) w' := by
  have h : ∀ sv, doo R o sv = (([], R), x) := fun sv => by unfold doo; rw [hx.out, if_pos hne]
  exact ⟨.slice none 0 0, .slice none 0 0, by rw [h], by rw [h]; exact Row.nil _ _, by rw [h]; exact h2, h3⟩
theorem doPost_right {b : Nat} {R : Room} {o : Op} {w w1 w' : World} {v : Value} (hx : Hid (wrong R o = 0)) (hb : Below w.heap.size w w1) (h : TurnsPost b R o w1 (.returned v) w') : DoPost b R o w (.returned (.tuple #[v, .int .i64 0])) w' := by
  obtain ⟨v', sv, he, h1, h2, h3⟩ := h
  injection he with he
  subst he
  have hd : doo R o sv = (turns R o sv, 0) := by unfold doo; rw [hx.out]; simp
  exact ⟨v, sv, by rw [hd], by rw [hd]; exact h1, by rw [hd]; exact h2, (Fr.of_below _ hb).trans (h3.mono hb.size (fun _ _ h => h))⟩
theorem turnsPost_val {b : Nat} {R : Room} {o : Op} {w w' : World} {e : Ending} (h : TurnsPost b R o w e w') : ∃ v, e = .returned v ∧ TurnsPost b R o w (.returned v) w' := by
  obtain ⟨v, sv, he, h1⟩ := h
  exact ⟨v, he, v, sv, rfl, h1⟩
theorem names_short {R : Room} (hI : Inv R) : ∀ p, (R.names p).length < 9223372036854775807 := by
  intro p
  by_cases h : R.names p = []
  · rw [h]; decide
  · have := Lab.may_len (hI.nameAt p h).2
    omega
set_option maxHeartbeats 2000000 in
theorem Do_any (b : Nat) (R : Room) (o : Op) (sa ba : Option Addr) (sc bl bc : Nat) (w : World) (hR : RoomAt w b R) (hI : Inv R) (hT : Tabs w) (hnm : o.name.length < 9223372036854775807)
    (hrow : RRow w (.slice sa o.ssrcs.length sc) o.ssrcs.length (u32s o.ssrcs)) :
    Calls Tryz.prog 77 #[.pointer (some ⟨b, 0, none⟩), .agg #[.int .i64 o.kind, .int .i64 o.peer, .int .i64 o.source, .int .i64 o.layer, .string (str o.name), .slice sa o.ssrcs.length sc, .slice ba bl bc]] w (DoPost b R o w) := by
  have CW := Lib.hid (fun (w1 : World) (h : Below w.heap.size w w1) => wrong_any b R o sa ba sc bl bc w1 (hR.below h) (Utf8Tabs_below hT h) hnm (names_short hI) (hrow.below h))
  have CT := Lib.hid (fun (w1 : World) (h : Below w.heap.size w w1) (ok : wrong R o = 0) => turns_any b R o sa ba sc bl bc w1 (hR.below h) hI (wrong_ok ok) (hrow.below h))
  have hb := hR.lt
  have HRB : Hid (∀ w1, Below w.heap.size w w1 → RoomAt w1 b R) := fun w1 h => hR.below h
  have HDW := Lib.hid (fun (w' : World) x => @doPost_wrong b R o w w' x)
  have HDR := Lib.hid (fun (w1 w' : World) v => @doPost_right b R o w w1 w' v)
  have HTV := Lib.hid (fun (w1 w' : World) e => @turnsPost_val b R o w1 w' e)
  clear hR hI hT hnm hrow
  obtain ⟨kd, p, n, q, nm, ss⟩ := o
  dsimp only at *
  generalize DoPost b R ⟨kd, p, n, q, nm, ss⟩ w = DP at *
  generalize hwx : wrong R ⟨kd, p, n, q, nm, ss⟩ = x at *
  have HX := Lib.hid hwx
  clear hwx
  by_cases hx : x = 0
  · subst hx
    go_enter Tryz.func77, Tryz.ntmps77
    go_wp2_with fail
    refine (CW.out _ (below_alloc _ _)).mono ?_
    rintro e w1 ⟨rfl, hb1⟩
    have c0 := cell_below (a := ⟨w.heap.size, 0, none⟩) hb1 (v := .int .i64 kd) (by simp)
    have c1 := cell_below (a := ⟨w.heap.size, 1, none⟩) hb1 (v := .int .i64 p) (by simp)
    have c2 := cell_below (a := ⟨w.heap.size, 2, none⟩) hb1 (v := .int .i64 n) (by simp)
    have c3 := cell_below (a := ⟨w.heap.size, 3, none⟩) hb1 (v := .int .i64 q) (by simp)
    have c4 := cell_below (a := ⟨w.heap.size, 4, none⟩) hb1 (v := .string (str nm)) (by simp)
    have c5 := cell_below (a := ⟨w.heap.size, 5, none⟩) hb1 (v := .slice sa ss.length sc) (by simp)
    have c6 := cell_below (a := ⟨w.heap.size, 6, none⟩) hb1 (v := .slice ba bl bc) (by simp)
    have hbl : Below w.heap.size w w1 := (below_alloc _ _).trans (hb1.mono (by simp))
    clear hb1
    go_wp2_with fail
    refine (CT.out _ hbl trivial).mono ?_
    intro e w2 hp
    obtain ⟨tv, rfl, hp⟩ := HTV.out _ _ _ hp
    have HP := Lib.hid hp
    clear hp
    go_wp2_with fail

    exact HDR.out _ _ _ (by first | exact rfl | exact trivial) hbl HP.out
  · have hbq : (x != 0) = true := by rw [bne_iff_ne]; exact hx
    have HXN := Lib.hid hx
    clear hx
    go_enter Tryz.func77, Tryz.ntmps77
    go_wp2_with fail
    refine (CW.out _ (below_alloc _ _)).mono ?_
    rintro e w1 ⟨rfl, hb1⟩
    have hbl : Below w.heap.size w w1 := (below_alloc _ _).trans (hb1.mono (by simp))
    clear hb1
    go_wp2_with fail

    exact HDW.out _ _ (by first | exact rfl | exact trivial) HXN.out (HRB.out _ hbl) (Fr.of_below _ hbl)
end Go.Proofs.Rm
namespace Go.Proofs.Rm
open Go.RowKit Go.Proofs.Heap Go.Proofs.Mem
theorem zeros_at : ∀ j, j < 297 → (((List.range 297).map (roomCell empty)).toArray)[j]? = some (roomCell empty j) := by
  intro j hj
  simp [hj]
set_option maxRecDepth 100000 in
set_option maxHeartbeats 2000000 in
theorem New_any (w : World) : Calls Tryz.prog 69 #[] w fun e w' => e = .returned (.pointer (some ⟨w.heap.size, 0, none⟩)) ∧ RoomAt w' w.heap.size empty ∧ Below w.heap.size w w' := by
  go_enter Tryz.func69, Tryz.ntmps69
  go_wp2
  go_ret
  have HZ : Tryz.zeroCells152 = ((List.range 297).map (roomCell empty)).toArray := by kernel_rfl
  refine ⟨rfl, ⟨⟨_, heap_new _ _, by rw [HZ]; simp, fun j hj => by rw [HZ]; exact zeros_at j hj⟩, fun n _ => Row.nil _ _⟩, below_alloc _ _⟩
theorem ofGo_lt (R : Room) (x : Int) : ∀ k n : Nat, n + k ≤ 9 → 0 ≤ (ofGo R x k n).1 ∧ (ofGo R x k n).1 < 9
  | 0, _, _ => by simp [ofGo]
  | k + 1, n, h => by
    unfold ofGo
    split
    · dsimp only; omega
    · exact ofGo_lt R x k (n + 1) (by omega)
theorem of_lt (R : Room) (x : Int) : 0 ≤ (of R x).1 ∧ (of R x).1 < 9 := ofGo_lt R x 9 0 (by omega)
set_option maxHeartbeats 2000000 in
theorem Gone_any (b : Nat) (R : Room) (p x : Int) (w : World) (hR : RoomAt w b R) :
    Calls Tryz.prog 132 #[.pointer (some ⟨b, 0, none⟩), .int .i64 p, .int .u32 x] w fun e w' =>
      (∃ v, e = .returned (.tuple #[v, .int .i64 (goneOp R p x).2]) ∧ TurnRow w' v (goneOp R p x).1.1) ∧ RoomAt w' b (goneOp R p x).1.2 ∧ Fr w.heap.size (· = b) w w' := by
  have hb := hR.lt
  have CO := Lib.hid (Of_any b R x w hR)
  have hlt := of_lt R x
  have HG : Hid (goneOp R p x = if !(of R x).2.2 || !joined R p || decide ((R.src (of R x).1.toNat).own ≠ p) then (([], R), 8) else (gone R (of R x).1.toNat, 0)) := rfl
  have HR : Hid (∀ w1, Below w.heap.size w w1 → RoomAt w1 b R) := fun w1 h => hR.below h
  clear hR
  generalize of R x = o at *
  obtain ⟨o1, o2, o3⟩ := o
  dsimp only at *
  obtain ⟨n, rfl⟩ := Int.eq_ofNat_of_zero_le hlt.1
  rw [Int.toNat_natCast] at HG
  have hn : n < 9 := by omega
  cases o3
  · have HF : Hid (goneOp R p x = (([], R), 8)) := by show _ = _; rw [HG.out]; rfl
    go_enter Tryz.func132, Tryz.ntmps132
    go_wp2_with (go_at_call 127; refine CO.out.mono ?_; rintro e w1 ⟨rfl, hb1⟩)
    go_ret2
    rw [HF.out]
    exact ⟨⟨_, rfl, Row.nil _ _⟩, HR.out _ hb1, Fr.of_below _ hb1⟩
  have CJ : Hid (∀ w1, Below w.heap.size w w1 → _) := fun w1 h => Joined_any b R p w1 (HR.out w1 h)
  have CG : Hid (∀ w1, Below w.heap.size w w1 → _) := fun w1 h => gone_any b R n w1 (HR.out w1 h) hn
  have HSC : Hid (∀ w1, Below w.heap.size w w1 → w1.cell? ⟨b, 9 + n * 5 + 1 + 1, none⟩ = some (.int .i64 (R.src n).own)) := fun w1 h => ((HR.out w1 h).srcc hn).2.2.1
  cases hj : joined R p
  · have HF : Hid (goneOp R p x = (([], R), 8)) := by show _ = _; rw [HG.out, hj]; rfl
    rw [hj] at CJ
    clear hj
    go_enter Tryz.func132, Tryz.ntmps132
    go_wp2_with (first | (go_at_call 127; refine CO.out.mono ?_; rintro e w1 ⟨rfl, hb1⟩) | (go_at_call 80; refine (CJ.out _ hb1).mono ?_; rintro e w2 ⟨rfl, rfl⟩))
    go_ret2
    rw [HF.out]
    exact ⟨⟨_, rfl, Row.nil _ _⟩, HR.out _ hb1, Fr.of_below _ hb1⟩
  rw [hj] at CJ HG
  clear hj
  by_cases ho : (R.src n).own = p
  · have HF : Hid (goneOp R p x = (gone R n, 0)) := by show _ = _; rw [HG.out]; simp [ho]
    rw [ho] at HSC
    clear ho HG
    generalize gone R n = G at *
    go_enter Tryz.func132, Tryz.ntmps132
    go_wp2_with (first | (go_at_call 127; refine CO.out.mono ?_; rintro e w1 ⟨rfl, hb1⟩; have hsc := HSC.out _ hb1) | (go_at_call 80; refine (CJ.out _ hb1).mono ?_; rintro e w2 ⟨rfl, rfl⟩) | (go_at_call 137; refine (CG.out _ hb1).mono ?_; rintro e w2 ⟨⟨tv, rfl, htr⟩, hroom, hfr⟩))
    go_ret2
    rw [HF.out]
    exact ⟨⟨_, rfl, htr⟩, hroom, (Fr.of_below _ hb1).trans (hfr.mono hb1.size (fun _ _ h => h))⟩
  · have HF : Hid (goneOp R p x = (([], R), 8)) := by show _ = _; rw [HG.out]; simp [ho]
    have hbq : ((R.src n).own != p) = true := by rw [bne_iff_ne]; exact ho
    clear ho HG
    go_enter Tryz.func132, Tryz.ntmps132
    go_wp2_with (first | (go_at_call 127; refine CO.out.mono ?_; rintro e w1 ⟨rfl, hb1⟩; have hsc := HSC.out _ hb1) | (go_at_call 80; refine (CJ.out _ hb1).mono ?_; rintro e w2 ⟨rfl, rfl⟩))
    go_ret2
    rw [HF.out]
    exact ⟨⟨_, rfl, Row.nil _ _⟩, HR.out _ hb1, Fr.of_below _ hb1⟩
end Go.Proofs.Rm
namespace Go.Proofs.Rm
open Go.RowKit Go.Proofs.Heap Go.Proofs.Mem
structure TPeer where
  num : Int
  name : List UInt8
deriving DecidableEq
structure TSrc where
  num : Int
  own : Int
  ss : List Int
  muted : Bool
deriving DecidableEq
structure TSub where
  peer : Int
  source : Int
  want : Int
  paused : Bool
deriving DecidableEq
structure Tab where
  peers : List TPeer
  srcs : List TSrc
  subs : List TSub
deriving DecidableEq
def peerCells (x : TPeer) : List Value := [.int .i64 x.num, .string (str x.name)]
def tsrcCells (x : TSrc × Value) : List Value := [.int .i64 x.1.num, .int .i64 x.1.own, x.2, .bool x.1.muted]
def tsubCells (x : TSub) : List Value := [.int .i64 x.peer, .int .i64 x.source, .int .i64 x.want, .bool x.paused]
/-- The slice values of three rows hold a table. -/
structure TabAt (w : World) (pv sv uv : Value) (T : Tab) : Prop where
  peers : Row w 103 pv T.peers.length (T.peers.flatMap peerCells)
  srcs : ∃ ms : List (TSrc × Value), ms.map Prod.fst = T.srcs ∧ Row w 108 sv ms.length (ms.flatMap tsrcCells) ∧ ∀ m ∈ ms, Row w 66 m.2 m.1.ss.length (u32s m.1.ss)
  subs : Row w 105 uv T.subs.length (T.subs.flatMap tsubCells)
theorem TabAt.fr {B : Nat} {S : Nat → Prop} {w w' : World} {pv sv uv : Value} {T : Tab} (h : TabAt w pv sv uv T) (hf : Fr B S w w') (hB : w.heap.size ≤ B)
    (h1 : ∀ k c fr, S k → w.heap[k]? ≠ some (.cells c 103 fr)) (h2 : ∀ k c fr, S k → w.heap[k]? ≠ some (.cells c 108 fr)) (h3 : ∀ k c fr, S k → w.heap[k]? ≠ some (.cells c 105 fr)) (h4 : ∀ k c fr, S k → w.heap[k]? ≠ some (.cells c 66 fr)) : TabAt w' pv sv uv T := by
  obtain ⟨a, ⟨ms, b1, b2, b3⟩, c⟩ := h
  exact ⟨a.fr hf hB h1, ⟨ms, b1, b2.fr hf hB h2, fun m hm => (b3 m hm).fr hf hB h4⟩, c.fr hf hB h3⟩
theorem TabAt.below {w w' : World} {pv sv uv : Value} {T : Tab} (h : TabAt w pv sv uv T) (hb : Below w.heap.size w w') : TabAt w' pv sv uv T :=
  h.fr (Fr.of_below NoB hb) (Nat.le_refl _) (fun _ _ _ h => h.elim) (fun _ _ _ h => h.elim) (fun _ _ _ h => h.elim) (fun _ _ _ h => h.elim)
theorem elemPeer : Elem Tryz.prog 47 103 2 24 := ⟨Tryz.underlying47, ⟨.agg #[.int .i64 0, .string ⟨#[]⟩], by kernel_rfl, rfl⟩, by decide⟩
theorem elemSrc : Elem Tryz.prog 48 108 4 48 := ⟨Tryz.underlying48, ⟨.agg #[.int .i64 0, .int .i64 0, .slice none 0 0, .bool false], by kernel_rfl, rfl⟩, by decide⟩
theorem elemSub : Elem Tryz.prog 49 105 4 32 := ⟨Tryz.underlying49, ⟨.agg #[.int .i64 0, .int .i64 0, .int .i64 0, .bool false], by kernel_rfl, rfl⟩, by decide⟩
/-- What the room's tables are, up to so many numbers. -/
def tPeers (R : Room) (k : Nat) : List TPeer := ((List.range k).filter fun p : Nat => joined R p).map fun (p : Nat) => ⟨p, R.names p⟩
def hasSrc (R : Room) (n : Nat) : Bool := inn n 9 && (R.src n).there
def tSrcs (R : Room) (k : Nat) : List TSrc := ((List.range k).filter (hasSrc R)).map fun n => ⟨(R.src n).num, (R.src n).own, (R.src n).ss, (R.src n).muted⟩
def tSubs1 (R : Room) (n : Nat) (l : List Nat) : List TSub := l.map fun (p : Nat) => ⟨p, n, (R.sub n p).want, (R.sub n p).paused⟩
def tSubs (R : Room) (k : Nat) : List TSub := (List.range k).flatMap fun n => tSubs1 R n (subs R n)
def table (R : Room) : Tab := ⟨tPeers R 9, tSrcs R 9, tSubs R 9⟩
theorem tPeers_succ (R : Room) (k : Nat) : tPeers R (k + 1) = tPeers R k ++ if joined R k then [⟨k, R.names k⟩] else [] := by
  unfold tPeers
  rw [List.range_succ, List.filter_append, List.map_append]
  congr 1
  cases h : joined R k <;> simp [h]
theorem tSrcs_succ (R : Room) (k : Nat) : tSrcs R (k + 1) = tSrcs R k ++ if hasSrc R k then [⟨(R.src k).num, (R.src k).own, (R.src k).ss, (R.src k).muted⟩] else [] := by
  unfold tSrcs
  rw [List.range_succ, List.filter_append, List.map_append]
  congr 1
  cases h : hasSrc R k <;> simp [h]
theorem tSubs_succ (R : Room) (k : Nat) : tSubs R (k + 1) = tSubs R k ++ tSubs1 R k (subs R k) := by
  unfold tSubs
  rw [List.range_succ, List.flatMap_append]
  simp
theorem tPeers_len (R : Room) (k : Nat) : (tPeers R k).length ≤ k := by
  unfold tPeers
  rw [List.length_map]
  have := List.length_filter_le (fun p : Nat => joined R p) (List.range k)
  rw [List.length_range] at this
  exact this
theorem tSrcs_len (R : Room) (k : Nat) : (tSrcs R k).length ≤ k := by
  unfold tSrcs
  rw [List.length_map]
  have := List.length_filter_le (hasSrc R) (List.range k)
  rw [List.length_range] at this
  exact this
/-- What a walk that fills a table keeps: the table's own block, and the result's. -/
structure TB (w w' : World) (pv sv uv : Value) : Prop where
  bel : Below w.heap.size w w'
  blk : w'.heap[w.heap.size + 1]? = some (.cells #[pv, sv, uv] 51)
  blk0 : w'.heap[w.heap.size]? = some (.cells #[.slice none 0 0, .slice none 0 0, .slice none 0 0] 51)
theorem TB.size {w w' : World} {pv sv uv : Value} (h : TB w w' pv sv uv) : w.heap.size + 1 < w'.heap.size := by
  rcases Nat.lt_or_ge (w.heap.size + 1) w'.heap.size with h1 | h1
  · exact h1
  · have := h.blk
    rw [Array.getElem?_eq_none h1] at this; cases this
theorem TB.below {w w1 w' : World} {pv sv uv : Value} (h : TB w w1 pv sv uv) (hb : Below w1.heap.size w1 w') : TB w w' pv sv uv := by
  have hs := h.size
  exact ⟨h.bel.trans (hb.mono (by omega)), by rw [hb.block _ hs]; exact h.blk, by rw [hb.block _ (by omega)]; exact h.blk0⟩
theorem TB.grown {w w1 w' : World} {pv sv uv : Value} (h : TB w w1 pv sv uv) {e : TypeId} {size : Nat} {v : Value} {m : Nat} {ys : List Value} (ho : w1.ownsRow (w.heap.size + 2) e size v m ys) (hg : w1.grownBy w' v.ownBlock) : TB w w' pv sv uv := by
  have hs := h.size
  have hle := fun k (hk : v.ownBlock = some k) => (show w.heap.size + 2 ≤ k from by
    obtain ⟨_, ho⟩ := ho
    rcases ho with ⟨rfl, _⟩ | ⟨g, cap, cur, rfl, hg, _⟩
    · cases hk
    · have hk : some g = some k := hk
      cases hk; exact hg)
  refine ⟨h.bel.trans ⟨hg.os, hg.tape, hg.output, hg.size, fun k hk => hg.block k (by omega) (fun e => by have := hle k e.symm; omega)⟩, ?_, ?_⟩
  · rw [hg.block _ hs (fun e => by have := hle _ e.symm; omega)]; exact h.blk
  · rw [hg.block _ (by omega) (fun e => by have := hle _ e.symm; omega)]; exact h.blk0
theorem TB.cells {w w' : World} {pv sv uv : Value} (h : TB w w' pv sv uv) : w'.cell? ⟨w.heap.size + 1, 0, none⟩ = some pv ∧ w'.cell? ⟨w.heap.size + 1, 1, none⟩ = some sv ∧ w'.cell? ⟨w.heap.size + 1, 2, none⟩ = some uv := by
  have := h.blk
  refine ⟨?_, ?_, ?_⟩ <;> (simp only [World.cell?, this]; rfl)
theorem TB.frozen {w w' : World} {pv sv uv : Value} (h : TB w w' pv sv uv) (j : Nat) : w'.frozen? ⟨w.heap.size + 1, j, none⟩ = false := by
  have := h.blk
  simp [World.frozen?, this]
theorem TB.set {w w1 : World} {pv sv uv : Value} (h : TB w w1 pv sv uv) (j : Nat) (v : Value) : TB w (w1.setCell ⟨w.heap.size + 1, j, none⟩ v) (if j = 0 then v else pv) (if j = 1 then v else sv) (if j = 2 then v else uv) := by
  refine ⟨h.bel.setCell (by simp) _, ?_, ?_⟩
  · have := h.blk
    simp only [World.setCell, Array.getElem?_modify, this]
    simp
    by_cases h0 : j = 0
    · subst h0; rfl
    by_cases h1 : j = 1
    · subst h1; rfl
    by_cases h2 : j = 2
    · subst h2; rfl
    rw [if_neg h0, if_neg h1, if_neg h2, List.set_eq_of_length_le (by simp; omega)]
  · have := h.blk0
    simp only [World.setCell, Array.getElem?_modify, this]
    simp
end Go.Proofs.Rm
namespace Go.Proofs.Rm
open Go.RowKit Go.Proofs.Heap Go.Proofs.Mem
theorem owns_grown {base base2 : Nat} {e e2 : TypeId} {size size2 : Nat} {v vo : Value} {n m : Nat} {xs ys : List Value} {w w' : World} (h : w.ownsRow base e size v n xs) (ho : w.ownsRow base2 e2 size2 vo m ys) (hg : w.grownBy w' vo.ownBlock) (hne : e ≠ e2) : w'.ownsRow base e size v n xs := by
  obtain ⟨h1, h2⟩ := h
  refine ⟨h1, ?_⟩
  rcases h2 with h2 | ⟨g, cap, cur, hv, hgb, hh, r⟩
  · exact Or.inl h2
  · have hlt : g < w.heap.size := by
      rcases Nat.lt_or_ge g w.heap.size with h | h
      · exact h
      · rw [Array.getElem?_eq_none h] at hh; cases hh
    refine Or.inr ⟨g, cap, cur, hv, hgb, ?_, r⟩
    rw [hg.block g hlt]
    · exact hh
    · intro e1
      obtain ⟨_, ho⟩ := ho
      rcases ho with ⟨rfl, _⟩ | ⟨g2, cap2, cur2, rfl, _, hh2, _⟩
      · cases e1
      · have e1 : some g = some g2 := e1
        cases e1
        rw [hh] at hh2
        exact cells_ne hne hh2
theorem own_form {base : Nat} {e : TypeId} {size : Nat} {v : Value} {n : Nat} {xs : List Value} {w : World} (h : w.ownsRow base e size v n xs) : ∃ a c, v = .slice a n c := by
  obtain ⟨_, h⟩ := h
  rcases h with ⟨rfl, rfl⟩ | ⟨g, cap, cur, rfl, _⟩
  · exact ⟨_, _, rfl⟩
  · exact ⟨_, _, rfl⟩
theorem tSubs_len (R : Room) : ∀ k, (tSubs R k).length ≤ k * 9
  | 0 => Nat.le_refl _
  | k + 1 => by
    rw [tSubs_succ, List.length_append]
    have := tSubs_len R k
    have := subs_len R k
    unfold tSubs1
    rw [List.length_map]
    omega
theorem set3 {w : World} {b : Nat} {u0 u1 u2 v0 v1 v2 : Value} (h0 : w.cell? ⟨b, 0, none⟩ = some u0) (h1 : w.cell? ⟨b, 1, none⟩ = some u1) (h2 : w.cell? ⟨b, 2, none⟩ = some u2) :
    (((w.setCell ⟨b, 0, none⟩ v0).setCell ⟨b, 1, none⟩ v1).setCell ⟨b, 2, none⟩ v2).cell? ⟨b, 0, none⟩ = some v0 ∧ (((w.setCell ⟨b, 0, none⟩ v0).setCell ⟨b, 1, none⟩ v1).setCell ⟨b, 2, none⟩ v2).cell? ⟨b, 1, none⟩ = some v1 ∧ (((w.setCell ⟨b, 0, none⟩ v0).setCell ⟨b, 1, none⟩ v1).setCell ⟨b, 2, none⟩ v2).cell? ⟨b, 2, none⟩ = some v2 := by
  have e01 : (⟨b, 0, none⟩ : Addr) ≠ ⟨b, 1, none⟩ := by simp
  have e02 : (⟨b, 0, none⟩ : Addr) ≠ ⟨b, 2, none⟩ := by simp
  have e12 : (⟨b, 1, none⟩ : Addr) ≠ ⟨b, 2, none⟩ := by simp
  refine ⟨?_, ?_, ?_⟩
  · rw [World.cell?_setCell_other _ _ _ _ (by simp), World.cell?_setCell_other _ _ _ _ (by simp), World.cell?_setCell_same _ _ _ h0]
  · rw [World.cell?_setCell_other _ _ _ _ (by simp), World.cell?_setCell_same (u := u1)]
    rw [World.cell?_setCell_other _ _ _ _ (by simp)]; exact h1
  · rw [World.cell?_setCell_same (u := u2)]
    rw [World.cell?_setCell_other _ _ _ _ (by simp), World.cell?_setCell_other _ _ _ _ (by simp)]; exact h2
/-- What a walk that fills a table keeps. -/
structure TG (w w' : World) (pv sv uv : Value) (P : List TPeer) (ms : List (TSrc × Value)) (us : List TSub) : Prop where
  tb : TB w w' pv sv uv
  pe : w'.ownsRow (w.heap.size + 2) 103 2 pv P.length (P.flatMap peerCells)
  sr : w'.ownsRow (w.heap.size + 2) 108 4 sv ms.length (ms.flatMap tsrcCells)
  rows : ∀ m ∈ ms, Row w' 66 m.2 m.1.ss.length (u32s m.1.ss)
  su : w'.ownsRow (w.heap.size + 2) 105 4 uv us.length (us.flatMap tsubCells)
section
variable {w w1 w2 : World} {pv sv uv : Value} {P : List TPeer} {ms : List (TSrc × Value)} {us : List TSub}
theorem TG.below (h : TG w w1 pv sv uv P ms us) (hb : Below w1.heap.size w1 w2) : TG w w2 pv sv uv P ms us :=
  ⟨h.tb.below hb, owns_below h.pe hb, owns_below h.sr hb, fun m hm => (h.rows m hm).below hb, owns_below h.su hb⟩
theorem TG.alloc (h : TG w w1 pv sv uv P ms us) (o : Obj) : TG w (w1.alloc o) pv sv uv P ms us := h.below (below_alloc _ _)
theorem TG.drew (h : TG w w1 pv sv uv P ms us) : TG w w1.drew pv sv uv P ms us := h.below (Below.refl _ _).drew
theorem tb_typ (h : TB w w1 pv sv uv) {e : TypeId} (he : e ≠ 51) : ∀ k c fr, k = w.heap.size + 1 → w1.heap[k]? ≠ some (.cells c e fr) := by
  intro k c fr hk
  subst hk
  rw [h.blk]
  exact cells_ne (fun h => he h.symm)
theorem TG.set (h : TG w w1 pv sv uv P ms us) (j : Nat) (v : Value) {pv' sv' uv' : Value} (h0 : pv' = if j = 0 then v else pv) (h1 : sv' = if j = 1 then v else sv) (h2 : uv' = if j = 2 then v else uv) {P' : List TPeer} {ms' : List (TSrc × Value)} {us' : List TSub}
    (g0 : w1.ownsRow (w.heap.size + 2) 103 2 pv' P'.length (P'.flatMap peerCells)) (g1 : w1.ownsRow (w.heap.size + 2) 108 4 sv' ms'.length (ms'.flatMap tsrcCells)) (gr : ∀ m ∈ ms', Row w1 66 m.2 m.1.ss.length (u32s m.1.ss))
    (g2 : w1.ownsRow (w.heap.size + 2) 105 4 uv' us'.length (us'.flatMap tsubCells)) : TG w (w1.setCell ⟨w.heap.size + 1, j, none⟩ v) pv' sv' uv' P' ms' us' := by
  have hf : Fr w1.heap.size (· = w.heap.size + 1) w1 (w1.setCell ⟨w.heap.size + 1, j, none⟩ v) := (Fr.refl _ _ _).setAt _ _
  subst h0 h1 h2
  exact ⟨h.tb.set j v, owns_fr g0 hf (fun k hk => by omega), owns_fr g1 hf (fun k hk => by omega), fun m hm => (gr m hm).fr hf (Nat.le_refl _) (tb_typ h.tb (by decide)), owns_fr g2 hf (fun k hk => by omega)⟩
theorem TG.addPeer (h : TG w w1 pv sv uv P ms us) {v : Value} (x : TPeer) (ho : Hid (w2.ownsRow (w.heap.size + 2) 103 2 v (P.length + 1) (P.flatMap peerCells ++ peerCells x))) (hg : Hid (w1.grownBy w2 pv.ownBlock)) :
    TG w (w2.setCell ⟨w.heap.size + 1, 0, none⟩ v) v sv uv (P ++ [x]) ms us := by
  have h2 : TG w w2 pv sv uv [] ms us ∨ True := Or.inr trivial
  have tb2 : TB w w2 pv sv uv := h.tb.grown h.pe hg.out
  have hf : Fr w2.heap.size (· = w.heap.size + 1) w2 (w2.setCell ⟨w.heap.size + 1, 0, none⟩ v) := (Fr.refl _ _ _).setAt _ _
  refine ⟨tb2.set 0 v, ?_, owns_fr (owns_grown h.sr h.pe hg.out (by decide)) hf (fun k hk => by omega), fun m hm => (Row.grown (h.rows m hm) h.pe hg.out (by decide)).fr hf (Nat.le_refl _) (tb_typ tb2 (by decide)), owns_fr (owns_grown h.su h.pe hg.out (by decide)) hf (fun k hk => by omega)⟩
  have := owns_fr ho.out hf (fun k hk => by omega)
  rw [List.length_append, List.flatMap_append]
  simpa using this
theorem TG.addSrc (h : TG w w1 pv sv uv P ms us) {v : Value} (x : TSrc × Value) (hr : Row w1 66 x.2 x.1.ss.length (u32s x.1.ss)) (ho : Hid (w2.ownsRow (w.heap.size + 2) 108 4 v (ms.length + 1) (ms.flatMap tsrcCells ++ tsrcCells x))) (hg : Hid (w1.grownBy w2 sv.ownBlock)) :
    TG w (w2.setCell ⟨w.heap.size + 1, 1, none⟩ v) pv v uv P (ms ++ [x]) us := by
  have tb2 : TB w w2 pv sv uv := h.tb.grown h.sr hg.out
  have hf : Fr w2.heap.size (· = w.heap.size + 1) w2 (w2.setCell ⟨w.heap.size + 1, 1, none⟩ v) := (Fr.refl _ _ _).setAt _ _
  refine ⟨tb2.set 1 v, owns_fr (owns_grown h.pe h.sr hg.out (by decide)) hf (fun k hk => by omega), ?_, ?_, owns_fr (owns_grown h.su h.sr hg.out (by decide)) hf (fun k hk => by omega)⟩
  · have := owns_fr ho.out hf (fun k hk => by omega)
    rw [List.length_append, List.flatMap_append]
    simpa using this
  · intro m hm
    have hm' : Row w1 66 m.2 m.1.ss.length (u32s m.1.ss) := by
      rcases List.mem_append.1 hm with hm | hm
      · exact h.rows m hm
      · rw [List.mem_singleton] at hm; subst hm; exact hr
    exact (Row.grown hm' h.sr hg.out (by decide)).fr hf (Nat.le_refl _) (tb_typ tb2 (by decide))
theorem TG.addSub (h : TG w w1 pv sv uv P ms us) {v : Value} (x : TSub) (ho : Hid (w2.ownsRow (w.heap.size + 2) 105 4 v (us.length + 1) (us.flatMap tsubCells ++ tsubCells x))) (hg : Hid (w1.grownBy w2 uv.ownBlock)) :
    TG w (w2.setCell ⟨w.heap.size + 1, 2, none⟩ v) pv sv v P ms (us ++ [x]) := by
  have tb2 : TB w w2 pv sv uv := h.tb.grown h.su hg.out
  have hf : Fr w2.heap.size (· = w.heap.size + 1) w2 (w2.setCell ⟨w.heap.size + 1, 2, none⟩ v) := (Fr.refl _ _ _).setAt _ _
  refine ⟨tb2.set 2 v, owns_fr (owns_grown h.pe h.su hg.out (by decide)) hf (fun k hk => by omega), owns_fr (owns_grown h.sr h.su hg.out (by decide)) hf (fun k hk => by omega), fun m hm => (Row.grown (h.rows m hm) h.su hg.out (by decide)).fr hf (Nat.le_refl _) (tb_typ tb2 (by decide)), ?_⟩
  have := owns_fr ho.out hf (fun k hk => by omega)
  rw [List.length_append, List.flatMap_append]
  simpa using this
theorem TG.grownTB_p (h : TG w w1 pv sv uv P ms us) (hg : Hid (w1.grownBy w2 pv.ownBlock)) : TB w w2 pv sv uv := h.tb.grown h.pe hg.out
theorem TG.grownTB_s (h : TG w w1 pv sv uv P ms us) (hg : Hid (w1.grownBy w2 sv.ownBlock)) : TB w w2 pv sv uv := h.tb.grown h.sr hg.out
theorem TG.grownTB_u (h : TG w w1 pv sv uv P ms us) (hg : Hid (w1.grownBy w2 uv.ownBlock)) : TB w w2 pv sv uv := h.tb.grown h.su hg.out
end
theorem peer_one (x : TPeer) : ∀ u ∈ peerCells x, u.oneCell' = true := by
  intro u hu
  simp only [peerCells, List.mem_cons, List.mem_nil_iff, or_false] at hu
  rcases hu with rfl | rfl <;> rfl
theorem tsub_one (x : TSub) : ∀ u ∈ tsubCells x, u.oneCell' = true := by
  intro u hu
  simp only [tsubCells, List.mem_cons, List.mem_nil_iff, or_false] at hu
  rcases hu with rfl | rfl | rfl | rfl <;> rfl
theorem tsrc_one (x : TSrc) (a : Option Addr) (n c : Nat) : ∀ u ∈ tsrcCells (x, .slice a n c), u.oneCell' = true := by
  intro u hu
  simp only [tsrcCells, List.mem_cons, List.mem_nil_iff, or_false] at hu
  rcases hu with rfl | rfl | rfl | rfl <;> rfl
set_option maxRecDepth 100000 in
set_option maxHeartbeats 4000000 in
theorem Table_any (b : Nat) (R : Room) (w : World) (hR : RoomAt w b R) (hl : ∀ n, (R.src n).ss.length ≤ 1000000) :
    Calls Tryz.prog 47 #[.pointer (some ⟨b, 0, none⟩)] w fun e w' => (∃ pv sv uv, e = .returned (.agg #[pv, sv, uv]) ∧ TabAt w' pv sv uv (table R)) ∧ Below w.heap.size w w' := by
  have hb := hR.lt
  have HR : Hid (∀ w', Below w.heap.size w w' → RoomAt w' b R) := fun w' h => hR.below h
  have HLS : Hid (∀ n, (R.src n).ss.length ≤ 1000000) := hl
  clear hR hl
  go_enter Tryz.func47, Tryz.ntmps47
  go_wp2
  go_loopw [12] (fun i w' => ∃ k : Nat, k ≤ 9 ∧ i = .int .i64 k ∧ ∃ pv, TG w w' pv (.slice none 0 0) (.slice none 0 0) (tPeers R k) [] []) (fun i _ => 9 - (intOf i).toNat)
  case atStart => exact ⟨0, by omega, rfl, _, ⟨⟨((Below.refl _ _).alloc (Nat.le_refl _) _).alloc (by simp) _, (two_new w _ _).2, (two_new w _ _).1⟩, World.ownsRow_nil _ _ _ _, World.ownsRow_nil _ _ _ _, fun m hm => by simp at hm, World.ownsRow_nil _ _ _ _⟩⟩
  case round =>
    obtain ⟨k, hk, rfl, pv, htg⟩ := hrel
    have HTG := Lib.hid htg
    have hsz := htg.tb.size
    have HROOM := Lib.hid (HR.out _ htg.tb.bel)
    clear htg
    by_cases hk9 : k < 9
    · have HS := Lib.hid (tPeers_succ R k)
      have HGL := tPeers_len R k
      have CJ := Lib.hid (Joined_any b R k wr HROOM.out)
      have cn := HROOM.out.namec hk9
      have cp := HTG.out.tb.cells.1
      have fp := HTG.out.tb.frozen 0
      generalize tPeers R k = G at *
      cases hj : joined R k
      · have HF : Hid (tPeers R (k + 1) = G) := by show _ = _; rw [HS.out, hj]; simp
        rw [hj] at CJ
        clear hj
        go_wp2_with (go_at_call 80; refine CJ.out.mono ?_; rintro e w1 ⟨rfl, rfl⟩)
        go_roundw
        case rel => exact ⟨k + 1, by omega, by go_num, pv, by rw [HF.out]; exact HTG.out⟩
        case measure => simp [intOf]; omega
      · have HF : Hid (tPeers R (k + 1) = G ++ [⟨k, R.names k⟩]) := by show _ = _; rw [HS.out, hj]; simp
        rw [hj] at CJ
        clear hj
        go_wp2_with (go_at_call 80; refine CJ.out.mono ?_; rintro e w1 ⟨rfl, rfl⟩)
        go_region_law (first | (refine step_app (by rfl) (.tmp 19) (.tmp 28) 47 (by rfl) (w.heap.size + 2) elemPeer _ G.length (G.flatMap peerCells) (by rfl) ?_ _ 1 (peerCells ⟨k, R.names k⟩) (by rfl) ?_ (by rfl) (peer_one _) (by omega) (by omega) ?_ ?_; (refine TG.pe (sv := .slice none 0 0) (uv := .slice none 0 0) (P := G) (ms := []) (us := []) ?_; (repeat (first | exact HTG.out | refine TG.drew ?_ | refine TG.alloc ?_ _))); (repeat (first | exact row_new' _ _ 1 _ (peerCells ⟨k, R.names k⟩) (by decide) rfl | refine Row.drew ?_)); (simp; omega); intro v' w3 HO HG; have tb3 := TG.grownTB_p (w := w) (sv := .slice none 0 0) (uv := .slice none 0 0) (P := G) (ms := []) (us := []) (by (repeat (first | exact HTG.out | refine TG.drew ?_ | refine TG.alloc ?_ _))) HG; have c3 := tb3.cells.1; have f3 := tb3.frozen 0; obtain ⟨va, vc, hv⟩ := own_form HO.out; subst hv))
        all_goals
          go_wp2
          refine ⟨⟨k + 1, by omega, by go_num, _, by rw [HF.out]; exact TG.addPeer (w1 := _) (by repeat (first | exact HTG.out | refine TG.drew ?_ | refine TG.alloc ?_ _)) ⟨k, R.names k⟩ HO HG⟩, by simp [intOf]; omega⟩
    · obtain rfl : k = 9 := by omega
      have HTAB : Hid (table R = ⟨tPeers R 9, tSrcs R 9, tSubs R 9⟩) := rfl
      generalize tPeers R 9 = PP at *
      obtain ⟨wo, rfl⟩ : ∃ wo : World, wo = wr := ⟨_, rfl⟩
      clear HROOM
      go_wp2
      go_loopw [32] (fun i w' => ∃ k : Nat, k ≤ 9 ∧ i = .int .i64 k ∧ ∃ sv uv ms, TG w w' pv sv uv PP ms (tSubs R k) ∧ Hid (ms.map Prod.fst = tSrcs R k)) (fun i _ => 9 - (intOf i).toNat)
      case atStart => exact ⟨0, by omega, rfl, _, _, [], HTG.out, rfl⟩
      case round =>
        clear HTG hsz
        obtain ⟨k, hk, rfl, sv, uv, ms, htg, HMS⟩ := hrel
        have HTG := Lib.hid htg
        have hsz := htg.tb.size
        have HROOM := Lib.hid (HR.out _ htg.tb.bel)
        clear htg
        by_cases hk9 : k < 9
        · have HSS := Lib.hid (tSrcs_succ R k)
          have HML : ms.length ≤ 9 := by have h1 := congrArg List.length HMS.out; rw [List.length_map] at h1; have h2 := tSrcs_len R k; omega
          have HSL := tSubs_len R k
          cases hh : hasSrc R k
          · have hh' : (inn (k : Int) 9 && (R.src ((k : Int)).toNat).there) = false := hh
            have CN := Lib.hid (Source_no b R k wr HROOM.out hh')
            have HM2 : Hid (ms.map Prod.fst = tSrcs R (k + 1)) := by show _ = _; rw [HSS.out, hh, HMS.out]; simp
            clear hh hh'
            obtain ⟨sv2, hsv2⟩ : ∃ sv2, sv2 = sv := ⟨_, rfl⟩
            subst hsv2
            obtain ⟨ms2, hms2⟩ : ∃ ms2, ms2 = ms := ⟨_, rfl⟩
            subst hms2
            go_wp2_with fail
            refine CN.out.mono ?_
            rintro e w2 ⟨rfl, hb2⟩
            have HTG2 := Lib.hid ((HTG.out.below hb2).alloc (.cells #[.int .i64 0, .int .i64 0, .slice none 0 0, .bool false] 108))
            clear hb2
            have HL := subs_len R k
            have HMEM : Hid (∀ j, j < (subs R k).length → (subs R k).getD j 0 < 9 ∧ hears R ((subs R k).getD j 0 : Nat) k = true) := fun j h => by
              refine ⟨subs_mem h, ?_⟩
              rw [List.getD_eq_getElem?_getD, List.getElem?_eq_getElem h]
              exact (List.mem_filter.1 (List.getElem_mem h)).2
            have HTS := Lib.hid (tSubs_succ R k)
            have HUL : Hid (∀ m, (tSubs1 R k ((subs R k).take m)).length ≤ 9) := fun m => by unfold tSubs1; rw [List.length_map, List.length_take]; omega
            have HUS : Hid (∀ j, j < (subs R k).length → tSubs1 R k ((subs R k).take (j + 1)) = tSubs1 R k ((subs R k).take j) ++ [⟨((subs R k).getD j 0 : Nat), k, (R.sub k ((subs R k).getD j 0)).want, (R.sub k ((subs R k).getD j 0)).paused⟩]) := fun j h => by
              unfold tSubs1; rw [take_snoc h, List.map_append]; rfl
            have CSB : Hid (∀ (p : Nat) w1, hears R p k = true → Below w.heap.size w w1 → Calls Tryz.prog 83 #[.pointer (some ⟨b, 0, none⟩), .int .i64 p, .int .i64 k] w1 fun e w' => e = .returned (.tuple #[.agg #[.int .i64 p, .int .i64 k, .int .i64 (R.sub k p).want, .bool (R.sub k p).paused], .bool true]) ∧ Below w1.heap.size w1 w') := fun p w1 hh h => by
              have cs := Sub_any b R p k w1 (HR.out w1 h)
              rw [hh, if_pos rfl, Int.toNat_natCast, Int.toNat_natCast] at cs
              exact cs
            go_wp2_with fail
            refine (Subs_any b R k _ (HR.out _ HTG2.out.tb.bel)).mono ?_
            rintro e w3 ⟨⟨lv, rfl, hrow⟩, hb3⟩
            have HTG3 := Lib.hid (HTG2.out.below hb3)
            have HROW := Lib.hid hrow
            obtain ⟨la, lcap, rfl, hx⟩ := hrow
            clear hx hb3
            generalize subs R k = L at *
            go_wp2_with fail
            go_loopw [52] (fun i w' => ∃ j : Nat, j ≤ L.length ∧ i = .int .i64 j ∧ ∃ uv', TG w w' pv sv2 uv' PP ms2 (tSubs R k ++ tSubs1 R k (L.take j)) ∧ Row w' 3 (.slice la L.length lcap) L.length (ints L)) (fun i _ => L.length - (intOf i).toNat)
            case atStart => exact ⟨0, by omega, rfl, uv, by rw [List.take_zero]; show TG _ _ _ _ _ _ _ (tSubs R k ++ []); rw [List.append_nil]; exact HTG3.out, HROW.out⟩
            case round =>
              clear HTG HTG2 HTG3 HROW HROOM
              obtain ⟨j, hj, rfl, uv', htg, hrow⟩ := hrel
              have HTG := Lib.hid htg
              have hsz := htg.tb.size
              have hbel := Lib.hid htg.tb.bel
              have HROW := Lib.hid hrow
              clear htg
              by_cases hjl : j < L.length
              · obtain ⟨g, off, cap, e1, hg, hcells⟩ := int_open hrow (by omega)
                cases e1
                have hc := hcells j hjl
                have HM := Lib.hid (HMEM.out j hjl)
                have HU := Lib.hid (HUS.out j hjl)
                have hul := HUL.out j
                have hul2 := HSL
                clear hcells hrow
                generalize L.getD j 0 = p at *
                have CS := Lib.hid (fun w1 (h : Below w.heap.size w w1) => CSB.out p w1 HM.out.2 h)
                generalize (R.sub k p).want = wa at *
                generalize (R.sub k p).paused = pa at *
                have hlen : (tSubs R k ++ tSubs1 R k (L.take j)).length ≤ 90 := by rw [List.length_append]; omega
                generalize hUU : tSubs R k ++ tSubs1 R k (L.take j) = UU at *
                have HUU := Lib.hid hUU
                clear hUU
                go_wp2_with (first | (go_at_call 83; refine (CS.out _ hbel.out).mono ?_; rintro e w4 ⟨rfl, hb4⟩; have HTG4 := Lib.hid (HTG.out.below hb4); have hs4 := HTG4.out.tb.size; have c4 := HTG4.out.tb.cells.2.2; have f4 := HTG4.out.tb.frozen 2; have HROW4 := Lib.hid (HROW.out.below hb4); clear hb4) | (at_builtin; refine wpList_app rfl (.tmp 64) (.tmp 66) 49 rfl (w.heap.size + 2) elemSub _ UU.length (UU.flatMap tsubCells) rfl (by exact ((HTG4.out.alloc _).alloc _).su) _ 1 (tsubCells ⟨p, k, wa, pa⟩) rfl (by exact row_new' _ _ 1 _ (tsubCells ⟨p, k, wa, pa⟩) (by decide) (by simp)) rfl (tsub_one _) (by omega) (by omega) (by simp; omega) (fun v' w5 HO HG => ?_); have tb5 := TG.grownTB_u (w := w) (pv := pv) (sv := sv2) (P := PP) (ms := ms2) (us := UU) (by repeat (first | exact HTG4.out | refine TG.drew ?_ | refine TG.alloc ?_ _)) HG; have c5 := tb5.cells.2.2; have f5 := tb5.frozen 2; obtain ⟨va, vc, hv⟩ := own_form HO.out; subst hv))
                go_roundw
                case rel =>
                  have htg4 := (HTG4.out.alloc (.cells #[.int .i64 p, .int .i64 k, .int .i64 wa, .bool pa] 105)).alloc (.cells #[.int .i64 p, .int .i64 k, .int .i64 wa, .bool pa] 105)
                  refine ⟨j + 1, by omega, by go_num, .slice va (UU.length + 1) vc, ?_, ?_⟩
                  · rw [HU.out, ← List.append_assoc, HUU.out]
                    exact htg4.addSub ⟨p, k, wa, pa⟩ HO HG
                  · exact (Row.grown ((HROW4.out.below (below_alloc _ _)).below (below_alloc _ _)) htg4.su HG.out (by decide)).fr ((Fr.refl _ (· = w.heap.size + 1) _).setAt _ _) (Nat.le_refl _) (tb_typ tb5 (by decide))
                case measure => simp [intOf]; omega
              · have hkk : j = L.length := by omega
                have hT : L.take j = L := by rw [hkk, List.take_length]
                rw [hT] at HTG
                clear hT hrow
                go_wp2
                go_roundw
                case rel =>
                  repeat apply Exists.intro
                  refine ⟨?_, rfl⟩
                  exact ⟨k + 1, by omega, by go_num, sv2, uv', ms2, by rw [HTS.out]; exact HTG.out, HM2.out⟩
                case measure => simp [intOf]; omega
          · have hhs : inn (k : Int) 9 = true ∧ (R.src k).there = true := by unfold hasSrc at hh; rw [Bool.and_eq_true] at hh; exact hh
            have hk1 := inn_nat.1 hhs.1
            have CY := Lib.hid (Source_yes b R k wr HROOM.out ⟨hk1.1, hk9⟩ hhs.2 (HLS.out k))
            have HSS2 : Hid (tSrcs R (k + 1) = tSrcs R k ++ [⟨(R.src k).num, (R.src k).own, (R.src k).ss, (R.src k).muted⟩]) := by show _ = _; rw [HSS.out, hh]; simp
            clear hh hhs hk1 HSS
            generalize (R.src k).num = u1 at *
            generalize (R.src k).own = u2 at *
            generalize (R.src k).ss = u3 at *
            generalize (R.src k).muted = u4 at *
            go_wp2_with fail
            refine CY.out.mono ?_
            rintro e w2 ⟨⟨cv, rfl, hcr⟩, hb2⟩
            have HCR := Lib.hid hcr
            obtain ⟨ca, cc, rfl, hx⟩ := hcr
            clear hx
            have HTGb := Lib.hid (HTG.out.below hb2)
            have hs2 := HTGb.out.tb.size
            have cb := HTGb.out.tb.cells.2.1
            have fb := HTGb.out.tb.frozen 1
            clear hb2
            go_wp2_with (at_builtin; refine wpList_app rfl (.tmp 43) (.tmp 45) 48 rfl (w.heap.size + 2) elemSrc _ ms.length (ms.flatMap tsrcCells) rfl (by exact ((HTGb.out.alloc _).alloc _).sr) _ 1 (tsrcCells (⟨u1, u2, u3, u4⟩, .slice ca u3.length cc)) rfl (by exact row_new' _ _ 1 _ (tsrcCells (⟨u1, u2, u3, u4⟩, .slice ca u3.length cc)) (by decide) (by simp)) rfl (tsrc_one _ _ _ _) (by omega) (by omega) (by simp; omega) (fun v' w5 HO HG => ?_); have tb5 := TG.grownTB_s (w := w) (pv := pv) (uv := uv) (P := PP) (ms := ms) (us := tSubs R k) (by repeat (first | exact HTGb.out | refine TG.drew ?_ | refine TG.alloc ?_ _)) HG; have c5 := tb5.cells.2.1; have f5 := tb5.frozen 1; obtain ⟨va, vc, hv⟩ := own_form HO.out; subst hv)
            have htg4 := (HTGb.out.alloc (.cells #[.int .i64 u1, .int .i64 u2, .slice ca u3.length cc, .bool u4] 108)).alloc (.cells #[.int .i64 u1, .int .i64 u2, .slice ca u3.length cc, .bool u4] 108)
            have HTG2 := Lib.hid (htg4.addSrc (⟨u1, u2, u3, u4⟩, .slice ca u3.length cc) ((HCR.out.below (below_alloc _ _)).below (below_alloc _ _)) HO HG)
            have HM2 : Hid ((ms ++ [((⟨u1, u2, u3, u4⟩ : TSrc), Value.slice ca u3.length cc)]).map Prod.fst = tSrcs R (k + 1)) := by show _ = _; rw [List.map_append, HMS.out, HSS2.out]; rfl
            clear htg4 c5 f5 cb fb
            generalize ms ++ [((⟨u1, u2, u3, u4⟩ : TSrc), Value.slice ca u3.length cc)] = ms2 at *
            generalize hsv2 : Value.slice va (ms.length + 1) vc = sv2 at HTG2
            clear hsv2
            have HL := subs_len R k
            have HMEM : Hid (∀ j, j < (subs R k).length → (subs R k).getD j 0 < 9 ∧ hears R ((subs R k).getD j 0 : Nat) k = true) := fun j h => by
              refine ⟨subs_mem h, ?_⟩
              rw [List.getD_eq_getElem?_getD, List.getElem?_eq_getElem h]
              exact (List.mem_filter.1 (List.getElem_mem h)).2
            have HTS := Lib.hid (tSubs_succ R k)
            have HUL : Hid (∀ m, (tSubs1 R k ((subs R k).take m)).length ≤ 9) := fun m => by unfold tSubs1; rw [List.length_map, List.length_take]; omega
            have HUS : Hid (∀ j, j < (subs R k).length → tSubs1 R k ((subs R k).take (j + 1)) = tSubs1 R k ((subs R k).take j) ++ [⟨((subs R k).getD j 0 : Nat), k, (R.sub k ((subs R k).getD j 0)).want, (R.sub k ((subs R k).getD j 0)).paused⟩]) := fun j h => by
              unfold tSubs1; rw [take_snoc h, List.map_append]; rfl
            have CSB : Hid (∀ (p : Nat) w1, hears R p k = true → Below w.heap.size w w1 → Calls Tryz.prog 83 #[.pointer (some ⟨b, 0, none⟩), .int .i64 p, .int .i64 k] w1 fun e w' => e = .returned (.tuple #[.agg #[.int .i64 p, .int .i64 k, .int .i64 (R.sub k p).want, .bool (R.sub k p).paused], .bool true]) ∧ Below w1.heap.size w1 w') := fun p w1 hh h => by
              have cs := Sub_any b R p k w1 (HR.out w1 h)
              rw [hh, if_pos rfl, Int.toNat_natCast, Int.toNat_natCast] at cs
              exact cs
            go_wp2_with fail
            refine (Subs_any b R k _ (HR.out _ HTG2.out.tb.bel)).mono ?_
            rintro e w3 ⟨⟨lv, rfl, hrow⟩, hb3⟩
            have HTG3 := Lib.hid (HTG2.out.below hb3)
            have HROW := Lib.hid hrow
            obtain ⟨la, lcap, rfl, hx⟩ := hrow
            clear hx hb3
            generalize subs R k = L at *
            go_wp2_with fail
            go_loopw [52] (fun i w' => ∃ j : Nat, j ≤ L.length ∧ i = .int .i64 j ∧ ∃ uv', TG w w' pv sv2 uv' PP ms2 (tSubs R k ++ tSubs1 R k (L.take j)) ∧ Row w' 3 (.slice la L.length lcap) L.length (ints L)) (fun i _ => L.length - (intOf i).toNat)
            case atStart => exact ⟨0, by omega, rfl, uv, by rw [List.take_zero]; show TG _ _ _ _ _ _ _ (tSubs R k ++ []); rw [List.append_nil]; exact HTG3.out, HROW.out⟩
            case round =>
              clear HTG HTG2 HTG3 HROW HROOM
              obtain ⟨j, hj, rfl, uv', htg, hrow⟩ := hrel
              have HTG := Lib.hid htg
              have hsz := htg.tb.size
              have hbel := Lib.hid htg.tb.bel
              have HROW := Lib.hid hrow
              clear htg
              by_cases hjl : j < L.length
              · obtain ⟨g, off, cap, e1, hg, hcells⟩ := int_open hrow (by omega)
                cases e1
                have hc := hcells j hjl
                have HM := Lib.hid (HMEM.out j hjl)
                have HU := Lib.hid (HUS.out j hjl)
                have hul := HUL.out j
                have hul2 := HSL
                clear hcells hrow
                generalize L.getD j 0 = p at *
                have CS := Lib.hid (fun w1 (h : Below w.heap.size w w1) => CSB.out p w1 HM.out.2 h)
                generalize (R.sub k p).want = wa at *
                generalize (R.sub k p).paused = pa at *
                have hlen : (tSubs R k ++ tSubs1 R k (L.take j)).length ≤ 90 := by rw [List.length_append]; omega
                generalize hUU : tSubs R k ++ tSubs1 R k (L.take j) = UU at *
                have HUU := Lib.hid hUU
                clear hUU
                go_wp2_with (first | (go_at_call 83; refine (CS.out _ hbel.out).mono ?_; rintro e w4 ⟨rfl, hb4⟩; have HTG4 := Lib.hid (HTG.out.below hb4); have hs4 := HTG4.out.tb.size; have c4 := HTG4.out.tb.cells.2.2; have f4 := HTG4.out.tb.frozen 2; have HROW4 := Lib.hid (HROW.out.below hb4); clear hb4) | (at_builtin; refine wpList_app rfl (.tmp 64) (.tmp 66) 49 rfl (w.heap.size + 2) elemSub _ UU.length (UU.flatMap tsubCells) rfl (by exact ((HTG4.out.alloc _).alloc _).su) _ 1 (tsubCells ⟨p, k, wa, pa⟩) rfl (by exact row_new' _ _ 1 _ (tsubCells ⟨p, k, wa, pa⟩) (by decide) (by simp)) rfl (tsub_one _) (by omega) (by omega) (by simp; omega) (fun v' w5 HO HG => ?_); have tb5 := TG.grownTB_u (w := w) (pv := pv) (sv := sv2) (P := PP) (ms := ms2) (us := UU) (by repeat (first | exact HTG4.out | refine TG.drew ?_ | refine TG.alloc ?_ _)) HG; have c5 := tb5.cells.2.2; have f5 := tb5.frozen 2; obtain ⟨va, vc, hv⟩ := own_form HO.out; subst hv))
                go_roundw
                case rel =>
                  have htg4 := (HTG4.out.alloc (.cells #[.int .i64 p, .int .i64 k, .int .i64 wa, .bool pa] 105)).alloc (.cells #[.int .i64 p, .int .i64 k, .int .i64 wa, .bool pa] 105)
                  refine ⟨j + 1, by omega, by go_num, .slice va (UU.length + 1) vc, ?_, ?_⟩
                  · rw [HU.out, ← List.append_assoc, HUU.out]
                    exact htg4.addSub ⟨p, k, wa, pa⟩ HO HG
                  · exact (Row.grown ((HROW4.out.below (below_alloc _ _)).below (below_alloc _ _)) htg4.su HG.out (by decide)).fr ((Fr.refl _ (· = w.heap.size + 1) _).setAt _ _) (Nat.le_refl _) (tb_typ tb5 (by decide))
                case measure => simp [intOf]; omega
              · have hkk : j = L.length := by omega
                have hT : L.take j = L := by rw [hkk, List.take_length]
                rw [hT] at HTG
                clear hT hrow
                go_wp2
                go_roundw
                case rel =>
                  repeat apply Exists.intro
                  refine ⟨?_, rfl⟩
                  exact ⟨k + 1, by omega, by go_num, sv2, uv', ms2, by rw [HTS.out]; exact HTG.out, HM2.out⟩
                case measure => simp [intOf]; omega
        · obtain rfl : k = 9 := by omega
          have c0 := HTG.out.tb.cells
          obtain ⟨pa, pc, hp⟩ := own_form HTG.out.pe
          obtain ⟨sa, sc, hs⟩ := own_form HTG.out.sr
          obtain ⟨ua, uc, hu⟩ := own_form HTG.out.su
          subst hp hs hu
          obtain ⟨c1, c2, c3⟩ := c0
          have hb0 := HTG.out.tb.blk0
          have d0 : ∀ j, j < 3 → wr.cell? ⟨w.heap.size, j, none⟩ = some (.slice none 0 0) ∧ wr.frozen? ⟨w.heap.size, j, none⟩ = false := by
            intro j hj
            have : j = 0 ∨ j = 1 ∨ j = 2 := by omega
            rcases this with rfl | rfl | rfl <;> exact ⟨by simp only [World.cell?, hb0]; rfl, by simp [World.frozen?, hb0]⟩
          obtain ⟨d1, e1⟩ := d0 0 (by omega)
          obtain ⟨d2, e2⟩ := d0 1 (by omega)
          obtain ⟨d3, e3⟩ := d0 2 (by omega)
          clear d0 hb0
          have R3 := Lib.hid (set3 (v0 := .slice pa PP.length pc) (v1 := .slice sa ms.length sc) (v2 := .slice ua (tSubs R 9).length uc) d1 d2 d3)
          go_wp2
          obtain ⟨r0, r1, r2⟩ := R3.out
          refine bodyPost_ret (v := .agg #[.slice pa PP.length pc, .slice sa ms.length sc, .slice ua (tSubs R 9).length uc]) (by simp [results, Tryz.results47, go_sem, r0, r1, r2]) rfl ⟨⟨_, _, _, rfl, ?_⟩, ?_⟩
          · have hf : Fr wr.heap.size (· = w.heap.size) wr (((wr.setCell ⟨w.heap.size, 0, none⟩ (.slice pa PP.length pc)).setCell ⟨w.heap.size, 1, none⟩ (.slice sa ms.length sc)).setCell ⟨w.heap.size, 2, none⟩ (.slice ua (tSubs R 9).length uc)) := (((Fr.refl _ _ _).setAt _ _).setAt _ _).setAt _ _
            have ht : ∀ e, e ≠ 51 → ∀ k c fr, k = w.heap.size → wr.heap[k]? ≠ some (.cells c e fr) := by
              intro e he k c fr hk
              subst hk
              rw [HTG.out.tb.blk0]
              exact cells_ne (fun h => he h.symm)
            rw [HTAB.out]
            exact TabAt.fr ⟨Row.of_owns HTG.out.pe, ⟨ms, HMS.out, Row.of_owns HTG.out.sr, HTG.out.rows⟩, Row.of_owns HTG.out.su⟩ hf (Nat.le_refl _) (ht _ (by decide)) (ht _ (by decide)) (ht _ (by decide)) (ht _ (by decide))
          · exact ((HTG.out.tb.bel.setCell (by simp) _).setCell (by simp) _).setCell (by simp) _
end Go.Proofs.Rm
