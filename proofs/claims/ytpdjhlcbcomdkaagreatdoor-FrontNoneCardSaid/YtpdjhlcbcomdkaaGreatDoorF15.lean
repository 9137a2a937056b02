/- Several texts in one: The walks of package room, each function once: turns (all kinds), Do. The walks of package room, each function once: New, Gone. The tables as plain data, and in memory. -/
import Derived.Test.YtpdjhlcbcomdkaaGreatDoorF05
import Derived.Test.YtpdjhlcbcomdkaaGreatDoorF12
import Derived.Test.YtpdjhlcbcomdkaaGreatDoorF13
import Derived.Test.YtpdjhlcbcomdkaaGreatDoorF14
namespace Go.Proofs.Rm
open Go.RowKit Go.Proofs.Heap Go.Proofs.Mem
open Go.Proofs.Lab (may key Tabs)
theorem turns_any (b : Nat) (R : Room) (o : Op) (sa ba : Option Addr) (sc bl bc : Nat) (w : World) (hR : RoomAt w b R) (hI : Inv R) (ok : Ok R o)
    (hrow : RRow w (.slice sa o.ssrcs.length sc) o.ssrcs.length (u32s o.ssrcs)) :
    Calls Tryz.prog 110 #[.pointer (some ⟨b, 0, none⟩), .agg #[.int .i64 o.kind, .int .i64 o.peer, .int .i64 o.source, .int .i64 o.layer, .string (str o.name), .slice sa o.ssrcs.length sc, .slice ba bl bc]] w (TurnsPost b R o w) := by
  have hok := ok
  obtain ⟨kd, p, n, q, nm, ss⟩ := o
  obtain ⟨hk, hp, hj, ht, hs, hpub, his, habt⟩ := ok
  dsimp only at *
  by_cases k2 : kd = 2
  · subst k2; exact turns_join b R p n q nm ss sa ba _ sc bl bc w hR hp
  by_cases k3 : kd = 3
  · subst k3; exact turns_leave b R p n q nm ss sa ba _ sc bl bc w hR hp
  have hn := hs (by omega)
  by_cases k4 : kd = 4
  · subst k4
    have h2 := (pub_ok (hpub rfl)).2.1
    dsimp only at h2
    exact turns_publish b R p n q nm ss sa ba _ sc bl bc w hR hp hn hrow (by omega)
  have habt := habt (by omega)
  have hb := fun q => hI.subAt n.toNat q
  by_cases k5 : kd = 5
  · subst k5; exact turns_unpublish b R p n q nm ss sa ba _ sc bl bc w hR hn
  by_cases k6 : kd = 6
  · subst k6; exact turns_subscribe b R p n q nm ss sa ba _ sc bl bc w hR hp hn (layer_ok (about_sub habt rfl).2.2)
  by_cases k7 : kd = 7
  · subst k7; exact turns_unsubscribe b R p n q nm ss sa ba _ sc bl bc w hR hp hn
  by_cases k8 : kd = 8
  · subst k8; exact turns_mute b R p n q nm ss sa ba _ sc bl bc w hR hn
  by_cases k9 : kd = 9
  · subst k9; exact turns_unmute b R p n q nm ss sa ba _ sc bl bc w hR hn fun p' _ ht => ⟨(hb p' ht).2.2.2.2.2.2.2.1, (hb p' ht).2.2.2.2.2.2.2.2⟩
  obtain ⟨h1, _, _, h4⟩ := about_hear habt (by right; show 10 ≤ kd; omega)
  dsimp only at h1 h4
  by_cases k10 : kd = 10
  · subst k10; exact turns_pause b R p n q nm ss sa ba _ sc bl bc w hR hp hn
  by_cases k11 : kd = 11
  · subst k11; exact turns_resume b R p n q nm ss sa ba _ sc bl bc w hR hp hn ⟨(hb _ h1).2.2.2.2.2.2.2.1, (hb _ h1).2.2.2.2.2.2.2.2⟩
  obtain rfl : kd = 12 := by omega
  exact turns_switch b R p n q nm ss sa ba _ sc bl bc w hR hp hn (layer_ok (h4 rfl).1)
/-- What 'Do' leaves. -/
def DoPost (b : Nat) (R : Room) (o : Op) (w : World) (e : Ending) (w' : World) : Prop :=
  ∃ v sv, e = .returned (.tuple #[v, .int .i64 (doo R o sv).2]) ∧ TurnRow w' v (doo R o sv).1.1 ∧ RoomAt w' b (doo R o sv).1.2 ∧ Fr w.heap.size (· = b) w w'
theorem doPost_wrong {b : Nat} {R : Room} {o : Op} {w w' : World} {x : Int} (hx : Hid (wrong R o = x)) (hne : x ≠ 0) (h2 : RoomAt w' b R) (h3 : Fr w.heap.size (· = b) w w') : DoPost b R o w (.returned (.tuple #[.slice none 0 0, .int .i64 x])) w' := by
  have h : ∀ sv, doo R o sv = (([], R), x) := fun sv => by unfold doo; rw [hx.out, if_pos hne]
  exact ⟨.slice none 0 0, .slice none 0 0, by rw [h], by rw [h]; exact Row.nil _ _, by rw [h]; exact h2, h3⟩
theorem doPost_right {b : Nat} {R : Room} {o : Op} {w w1 w' : World} {v : Value} (hx : Hid (wrong R o = 0)) (hb : Below w.heap.size w w1) (h : TurnsPost b R o w1 (.returned v) w') : DoPost b R o w (.returned (.tuple #[v, .int .i64 0])) w' := by
  obtain ⟨v', sv, he, h1, h2, h3⟩ := h
  injection he with he
  subst he
  have hd : doo R o sv = (turns R o sv, 0) := by unfold doo; rw [hx.out]; simp
  exact ⟨v, sv, by rw [hd], by rw [hd]; exact h1, by rw [hd]; exact h2, (Fr.of_below _ hb).trans (h3.mono hb.size (fun _ _ h => h))⟩
theorem turnsPost_val {b : Nat} {R : Room} {o : Op} {w w' : World} {e : Ending} (h : TurnsPost b R o w e w') : ∃ v, e = .returned v ∧ TurnsPost b R o w (.returned v) w' := by
  obtain ⟨v, sv, he, h1⟩ := h
  exact ⟨v, he, v, sv, rfl, h1⟩
theorem names_short {R : Room} (hI : Inv R) : ∀ p, (R.names p).length < 9223372036854775807 := by
  intro p
  by_cases h : R.names p = []
  · rw [h]; decide
  · have := Lab.may_len (hI.nameAt p h).2
    omega
set_option maxHeartbeats 2000000 in
theorem Do_any (b : Nat) (R : Room) (o : Op) (sa ba : Option Addr) (sc bl bc : Nat) (w : World) (hR : RoomAt w b R) (hI : Inv R) (hT : Tabs w) (hnm : o.name.length < 9223372036854775807)
    (hrow : RRow w (.slice sa o.ssrcs.length sc) o.ssrcs.length (u32s o.ssrcs)) :
    Calls Tryz.prog 77 #[.pointer (some ⟨b, 0, none⟩), .agg #[.int .i64 o.kind, .int .i64 o.peer, .int .i64 o.source, .int .i64 o.layer, .string (str o.name), .slice sa o.ssrcs.length sc, .slice ba bl bc]] w (DoPost b R o w) := by
  have CW := Lib.hid (fun (w1 : World) (h : Below w.heap.size w w1) => wrong_any b R o sa ba sc bl bc w1 (hR.below h) (Utf8Tabs_below hT h) hnm (names_short hI) (hrow.below h))
  have CT := Lib.hid (fun (w1 : World) (h : Below w.heap.size w w1) (ok : wrong R o = 0) => turns_any b R o sa ba sc bl bc w1 (hR.below h) hI (wrong_ok ok) (hrow.below h))
  have hb := hR.lt
  have HRB : Hid (∀ w1, Below w.heap.size w w1 → RoomAt w1 b R) := fun w1 h => hR.below h
  have HDW := Lib.hid (fun (w' : World) x => @doPost_wrong b R o w w' x)
  have HDR := Lib.hid (fun (w1 w' : World) v => @doPost_right b R o w w1 w' v)
  have HTV := Lib.hid (fun (w1 w' : World) e => @turnsPost_val b R o w1 w' e)
  clear hR hI hT hnm hrow
  obtain ⟨kd, p, n, q, nm, ss⟩ := o
  dsimp only at *
  generalize DoPost b R ⟨kd, p, n, q, nm, ss⟩ w = DP at *
  generalize hwx : wrong R ⟨kd, p, n, q, nm, ss⟩ = x at *
  have HX := Lib.hid hwx
  clear hwx
  by_cases hx : x = 0
  · subst hx
    go_enter Tryz.func77, Tryz.ntmps77
    go_wp2_with fail
    refine (CW.out _ (below_alloc _ _)).mono ?_
    rintro e w1 ⟨rfl, hb1⟩
    have c0 := cell_below (a := ⟨w.heap.size, 0, none⟩) hb1 (v := .int .i64 kd) (by simp)
    have c1 := cell_below (a := ⟨w.heap.size, 1, none⟩) hb1 (v := .int .i64 p) (by simp)
    have c2 := cell_below (a := ⟨w.heap.size, 2, none⟩) hb1 (v := .int .i64 n) (by simp)
    have c3 := cell_below (a := ⟨w.heap.size, 3, none⟩) hb1 (v := .int .i64 q) (by simp)
    have c4 := cell_below (a := ⟨w.heap.size, 4, none⟩) hb1 (v := .string (str nm)) (by simp)
    have c5 := cell_below (a := ⟨w.heap.size, 5, none⟩) hb1 (v := .slice sa ss.length sc) (by simp)
    have c6 := cell_below (a := ⟨w.heap.size, 6, none⟩) hb1 (v := .slice ba bl bc) (by simp)
    have hbl : Below w.heap.size w w1 := (below_alloc _ _).trans (hb1.mono (by simp))
    clear hb1
    go_wp2_with fail
    refine (CT.out _ hbl trivial).mono ?_
    intro e w2 hp
    obtain ⟨tv, rfl, hp⟩ := HTV.out _ _ _ hp
    have HP := Lib.hid hp
    clear hp
    go_wp2_with fail

    exact HDR.out _ _ _ (by first | exact rfl | exact trivial) hbl HP.out
  · have hbq : (x != 0) = true := by rw [bne_iff_ne]; exact hx
    have HXN := Lib.hid hx
    clear hx
    go_enter Tryz.func77, Tryz.ntmps77
    go_wp2_with fail
    refine (CW.out _ (below_alloc _ _)).mono ?_
    rintro e w1 ⟨rfl, hb1⟩
    have hbl : Below w.heap.size w w1 := (below_alloc _ _).trans (hb1.mono (by simp))
    clear hb1
    go_wp2_with fail

    exact HDW.out _ _ (by first | exact rfl | exact trivial) HXN.out (HRB.out _ hbl) (Fr.of_below _ hbl)
end Go.Proofs.Rm
namespace Go.Proofs.Rm
open Go.RowKit Go.Proofs.Heap Go.Proofs.Mem
theorem zeros_at : ∀ j, j < 297 → (((List.range 297).map (roomCell empty)).toArray)[j]? = some (roomCell empty j) := by
  intro j hj
  simp [hj]
set_option maxRecDepth 100000 in
set_option maxHeartbeats 2000000 in
theorem New_any (w : World) : Calls Tryz.prog 69 #[] w fun e w' => e = .returned (.pointer (some ⟨w.heap.size, 0, none⟩)) ∧ RoomAt w' w.heap.size empty ∧ Below w.heap.size w w' := by
  go_enter Tryz.func69, Tryz.ntmps69
  go_wp2
  go_ret
  have HZ : Tryz.zeroCells152 = ((List.range 297).map (roomCell empty)).toArray := by kernel_rfl
  refine ⟨rfl, ⟨⟨_, heap_new _ _, by rw [HZ]; simp, fun j hj => by rw [HZ]; exact zeros_at j hj⟩, fun n _ => Row.nil _ _⟩, below_alloc _ _⟩
theorem ofGo_lt (R : Room) (x : Int) : ∀ k n : Nat, n + k ≤ 9 → 0 ≤ (ofGo R x k n).1 ∧ (ofGo R x k n).1 < 9
  | 0, _, _ => by simp [ofGo]
  | k + 1, n, h => by
    unfold ofGo
    split
    · dsimp only; omega
    · exact ofGo_lt R x k (n + 1) (by omega)
theorem of_lt (R : Room) (x : Int) : 0 ≤ (of R x).1 ∧ (of R x).1 < 9 := ofGo_lt R x 9 0 (by omega)
set_option maxHeartbeats 2000000 in
theorem Gone_any (b : Nat) (R : Room) (p x : Int) (w : World) (hR : RoomAt w b R) :
    Calls Tryz.prog 132 #[.pointer (some ⟨b, 0, none⟩), .int .i64 p, .int .u32 x] w fun e w' =>
      (∃ v, e = .returned (.tuple #[v, .int .i64 (goneOp R p x).2]) ∧ TurnRow w' v (goneOp R p x).1.1) ∧ RoomAt w' b (goneOp R p x).1.2 ∧ Fr w.heap.size (· = b) w w' := by
  have hb := hR.lt
  have CO := Lib.hid (Of_any b R x w hR)
  have hlt := of_lt R x
  have HG : Hid (goneOp R p x = if !(of R x).2.2 || !joined R p || decide ((R.src (of R x).1.toNat).own ≠ p) then (([], R), 8) else (gone R (of R x).1.toNat, 0)) := rfl
  have HR : Hid (∀ w1, Below w.heap.size w w1 → RoomAt w1 b R) := fun w1 h => hR.below h
  clear hR
  generalize of R x = o at *
  obtain ⟨o1, o2, o3⟩ := o
  dsimp only at *
  obtain ⟨n, rfl⟩ := Int.eq_ofNat_of_zero_le hlt.1
  rw [Int.toNat_natCast] at HG
  have hn : n < 9 := by omega
  cases o3
  · have HF : Hid (goneOp R p x = (([], R), 8)) := by show _ = _; rw [HG.out]; rfl
    go_enter Tryz.func132, Tryz.ntmps132
    go_wp2_with (go_at_call 127; refine CO.out.mono ?_; rintro e w1 ⟨rfl, hb1⟩)
    go_ret2
    rw [HF.out]
    exact ⟨⟨_, rfl, Row.nil _ _⟩, HR.out _ hb1, Fr.of_below _ hb1⟩
  have CJ : Hid (∀ w1, Below w.heap.size w w1 → _) := fun w1 h => Joined_any b R p w1 (HR.out w1 h)
  have CG : Hid (∀ w1, Below w.heap.size w w1 → _) := fun w1 h => gone_any b R n w1 (HR.out w1 h) hn
  have HSC : Hid (∀ w1, Below w.heap.size w w1 → w1.cell? ⟨b, 9 + n * 5 + 1 + 1, none⟩ = some (.int .i64 (R.src n).own)) := fun w1 h => ((HR.out w1 h).srcc hn).2.2.1
  cases hj : joined R p
  · have HF : Hid (goneOp R p x = (([], R), 8)) := by show _ = _; rw [HG.out, hj]; rfl
    rw [hj] at CJ
    clear hj
    go_enter Tryz.func132, Tryz.ntmps132
    go_wp2_with (first | (go_at_call 127; refine CO.out.mono ?_; rintro e w1 ⟨rfl, hb1⟩) | (go_at_call 80; refine (CJ.out _ hb1).mono ?_; rintro e w2 ⟨rfl, rfl⟩))
    go_ret2
    rw [HF.out]
    exact ⟨⟨_, rfl, Row.nil _ _⟩, HR.out _ hb1, Fr.of_below _ hb1⟩
  rw [hj] at CJ HG
  clear hj
  by_cases ho : (R.src n).own = p
  · have HF : Hid (goneOp R p x = (gone R n, 0)) := by show _ = _; rw [HG.out]; simp [ho]
    rw [ho] at HSC
    clear ho HG
    generalize gone R n = G at *
    go_enter Tryz.func132, Tryz.ntmps132
    go_wp2_with (first | (go_at_call 127; refine CO.out.mono ?_; rintro e w1 ⟨rfl, hb1⟩; have hsc := HSC.out _ hb1) | (go_at_call 80; refine (CJ.out _ hb1).mono ?_; rintro e w2 ⟨rfl, rfl⟩) | (go_at_call 137; refine (CG.out _ hb1).mono ?_; rintro e w2 ⟨⟨tv, rfl, htr⟩, hroom, hfr⟩))
    go_ret2
    rw [HF.out]
    exact ⟨⟨_, rfl, htr⟩, hroom, (Fr.of_below _ hb1).trans (hfr.mono hb1.size (fun _ _ h => h))⟩
  · have HF : Hid (goneOp R p x = (([], R), 8)) := by show _ = _; rw [HG.out]; simp [ho]
    have hbq : ((R.src n).own != p) = true := by rw [bne_iff_ne]; exact ho
    clear ho HG
    go_enter Tryz.func132, Tryz.ntmps132
    go_wp2_with (first | (go_at_call 127; refine CO.out.mono ?_; rintro e w1 ⟨rfl, hb1⟩; have hsc := HSC.out _ hb1) | (go_at_call 80; refine (CJ.out _ hb1).mono ?_; rintro e w2 ⟨rfl, rfl⟩))
    go_ret2
    rw [HF.out]
    exact ⟨⟨_, rfl, Row.nil _ _⟩, HR.out _ hb1, Fr.of_below _ hb1⟩
end Go.Proofs.Rm
namespace Go.Proofs.Rm
open Go.RowKit Go.Proofs.Heap Go.Proofs.Mem
structure TPeer where
  num : Int
  name : List UInt8
deriving DecidableEq
structure TSrc where
  num : Int
  own : Int
  ss : List Int
  muted : Bool
deriving DecidableEq
structure TSub where
  peer : Int
  source : Int
  want : Int
  paused : Bool
deriving DecidableEq
structure Tab where
  peers : List TPeer
  srcs : List TSrc
  subs : List TSub
deriving DecidableEq
def peerCells (x : TPeer) : List Value := [.int .i64 x.num, .string (str x.name)]
def tsrcCells (x : TSrc × Value) : List Value := [.int .i64 x.1.num, .int .i64 x.1.own, x.2, .bool x.1.muted]
def tsubCells (x : TSub) : List Value := [.int .i64 x.peer, .int .i64 x.source, .int .i64 x.want, .bool x.paused]
/-- The slice values of three rows hold a table. -/
structure TabAt (w : World) (pv sv uv : Value) (T : Tab) : Prop where
  peers : Row w 103 pv T.peers.length (T.peers.flatMap peerCells)
  srcs : ∃ ms : List (TSrc × Value), ms.map Prod.fst = T.srcs ∧ Row w 108 sv ms.length (ms.flatMap tsrcCells) ∧ ∀ m ∈ ms, Row w 66 m.2 m.1.ss.length (u32s m.1.ss)
  subs : Row w 105 uv T.subs.length (T.subs.flatMap tsubCells)
theorem TabAt.fr {B : Nat} {S : Nat → Prop} {w w' : World} {pv sv uv : Value} {T : Tab} (h : TabAt w pv sv uv T) (hf : Fr B S w w') (hB : w.heap.size ≤ B)
    (h1 : ∀ k c fr, S k → w.heap[k]? ≠ some (.cells c 103 fr)) (h2 : ∀ k c fr, S k → w.heap[k]? ≠ some (.cells c 108 fr)) (h3 : ∀ k c fr, S k → w.heap[k]? ≠ some (.cells c 105 fr)) (h4 : ∀ k c fr, S k → w.heap[k]? ≠ some (.cells c 66 fr)) : TabAt w' pv sv uv T := by
  obtain ⟨a, ⟨ms, b1, b2, b3⟩, c⟩ := h
  exact ⟨a.fr hf hB h1, ⟨ms, b1, b2.fr hf hB h2, fun m hm => (b3 m hm).fr hf hB h4⟩, c.fr hf hB h3⟩
theorem TabAt.below {w w' : World} {pv sv uv : Value} {T : Tab} (h : TabAt w pv sv uv T) (hb : Below w.heap.size w w') : TabAt w' pv sv uv T :=
  h.fr (Fr.of_below NoB hb) (Nat.le_refl _) (fun _ _ _ h => h.elim) (fun _ _ _ h => h.elim) (fun _ _ _ h => h.elim) (fun _ _ _ h => h.elim)
theorem elemPeer : Elem Tryz.prog 47 103 2 24 := ⟨Tryz.underlying47, ⟨.agg #[.int .i64 0, .string ⟨#[]⟩], by kernel_rfl, rfl⟩, by decide⟩
theorem elemSrc : Elem Tryz.prog 48 108 4 48 := ⟨Tryz.underlying48, ⟨.agg #[.int .i64 0, .int .i64 0, .slice none 0 0, .bool false], by kernel_rfl, rfl⟩, by decide⟩
theorem elemSub : Elem Tryz.prog 49 105 4 32 := ⟨Tryz.underlying49, ⟨.agg #[.int .i64 0, .int .i64 0, .int .i64 0, .bool false], by kernel_rfl, rfl⟩, by decide⟩
/-- What the room's tables are, up to so many numbers. -/
def tPeers (R : Room) (k : Nat) : List TPeer := ((List.range k).filter fun p : Nat => joined R p).map fun (p : Nat) => ⟨p, R.names p⟩
def hasSrc (R : Room) (n : Nat) : Bool := inn n 9 && (R.src n).there
def tSrcs (R : Room) (k : Nat) : List TSrc := ((List.range k).filter (hasSrc R)).map fun n => ⟨(R.src n).num, (R.src n).own, (R.src n).ss, (R.src n).muted⟩
def tSubs1 (R : Room) (n : Nat) (l : List Nat) : List TSub := l.map fun (p : Nat) => ⟨p, n, (R.sub n p).want, (R.sub n p).paused⟩
def tSubs (R : Room) (k : Nat) : List TSub := (List.range k).flatMap fun n => tSubs1 R n (subs R n)
def table (R : Room) : Tab := ⟨tPeers R 9, tSrcs R 9, tSubs R 9⟩
theorem tPeers_succ (R : Room) (k : Nat) : tPeers R (k + 1) = tPeers R k ++ if joined R k then [⟨k, R.names k⟩] else [] := by
  unfold tPeers
  rw [List.range_succ, List.filter_append, List.map_append]
  congr 1
  cases h : joined R k <;> simp [h]
theorem tSrcs_succ (R : Room) (k : Nat) : tSrcs R (k + 1) = tSrcs R k ++ if hasSrc R k then [⟨(R.src k).num, (R.src k).own, (R.src k).ss, (R.src k).muted⟩] else [] := by
  unfold tSrcs
  rw [List.range_succ, List.filter_append, List.map_append]
  congr 1
  cases h : hasSrc R k <;> simp [h]
theorem tSubs_succ (R : Room) (k : Nat) : tSubs R (k + 1) = tSubs R k ++ tSubs1 R k (subs R k) := by
  unfold tSubs
  rw [List.range_succ, List.flatMap_append]
  simp
theorem tPeers_len (R : Room) (k : Nat) : (tPeers R k).length ≤ k := by
  unfold tPeers
  rw [List.length_map]
  have := List.length_filter_le (fun p : Nat => joined R p) (List.range k)
  rw [List.length_range] at this
  exact this
theorem tSrcs_len (R : Room) (k : Nat) : (tSrcs R k).length ≤ k := by
  unfold tSrcs
  rw [List.length_map]
  have := List.length_filter_le (hasSrc R) (List.range k)
  rw [List.length_range] at this
  exact this
/-- What a walk that fills a table keeps: the table's own block, and the result's. -/
structure TB (w w' : World) (pv sv uv : Value) : Prop where
  bel : Below w.heap.size w w'
  blk : w'.heap[w.heap.size + 1]? = some (.cells #[pv, sv, uv] 51)
  blk0 : w'.heap[w.heap.size]? = some (.cells #[.slice none 0 0, .slice none 0 0, .slice none 0 0] 51)
theorem TB.size {w w' : World} {pv sv uv : Value} (h : TB w w' pv sv uv) : w.heap.size + 1 < w'.heap.size := by
  rcases Nat.lt_or_ge (w.heap.size + 1) w'.heap.size with h1 | h1
  · exact h1
  · have := h.blk
    rw [Array.getElem?_eq_none h1] at this; cases this
theorem TB.below {w w1 w' : World} {pv sv uv : Value} (h : TB w w1 pv sv uv) (hb : Below w1.heap.size w1 w') : TB w w' pv sv uv := by
  have hs := h.size
  exact ⟨h.bel.trans (hb.mono (by omega)), by rw [hb.block _ hs]; exact h.blk, by rw [hb.block _ (by omega)]; exact h.blk0⟩
theorem TB.grown {w w1 w' : World} {pv sv uv : Value} (h : TB w w1 pv sv uv) {e : TypeId} {size : Nat} {v : Value} {m : Nat} {ys : List Value} (ho : w1.ownsRow (w.heap.size + 2) e size v m ys) (hg : w1.grownBy w' v.ownBlock) : TB w w' pv sv uv := by
  have hs := h.size
  have hle := fun k (hk : v.ownBlock = some k) => (show w.heap.size + 2 ≤ k from by
    obtain ⟨_, ho⟩ := ho
    rcases ho with ⟨rfl, _⟩ | ⟨g, cap, cur, rfl, hg, _⟩
    · cases hk
    · have hk : some g = some k := hk
      cases hk; exact hg)
  refine ⟨h.bel.trans ⟨hg.os, hg.tape, hg.output, hg.size, fun k hk => hg.block k (by omega) (fun e => by have := hle k e.symm; omega)⟩, ?_, ?_⟩
  · rw [hg.block _ hs (fun e => by have := hle _ e.symm; omega)]; exact h.blk
  · rw [hg.block _ (by omega) (fun e => by have := hle _ e.symm; omega)]; exact h.blk0
theorem TB.cells {w w' : World} {pv sv uv : Value} (h : TB w w' pv sv uv) : w'.cell? ⟨w.heap.size + 1, 0, none⟩ = some pv ∧ w'.cell? ⟨w.heap.size + 1, 1, none⟩ = some sv ∧ w'.cell? ⟨w.heap.size + 1, 2, none⟩ = some uv := by
  have := h.blk
  refine ⟨?_, ?_, ?_⟩ <;> (simp only [World.cell?, this]; rfl)
theorem TB.frozen {w w' : World} {pv sv uv : Value} (h : TB w w' pv sv uv) (j : Nat) : w'.frozen? ⟨w.heap.size + 1, j, none⟩ = false := by
  have := h.blk
  simp [World.frozen?, this]
theorem TB.set {w w1 : World} {pv sv uv : Value} (h : TB w w1 pv sv uv) (j : Nat) (v : Value) : TB w (w1.setCell ⟨w.heap.size + 1, j, none⟩ v) (if j = 0 then v else pv) (if j = 1 then v else sv) (if j = 2 then v else uv) := by
  refine ⟨h.bel.setCell (by simp) _, ?_, ?_⟩
  · have := h.blk
    simp only [World.setCell, Array.getElem?_modify, this]
    simp
    by_cases h0 : j = 0
    · subst h0; rfl
    by_cases h1 : j = 1
    · subst h1; rfl
    by_cases h2 : j = 2
    · subst h2; rfl
    rw [if_neg h0, if_neg h1, if_neg h2, List.set_eq_of_length_le (by simp; omega)]
  · have := h.blk0
    simp only [World.setCell, Array.getElem?_modify, this]
    simp
end Go.Proofs.Rm
