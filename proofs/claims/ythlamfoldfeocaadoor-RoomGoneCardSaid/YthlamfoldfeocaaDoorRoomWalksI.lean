/- The walks of package room, each function once: turns (all kinds), Do. -/
import Derived.Test.YthlamfoldfeocaaDoorRoomWalksD
import Derived.Test.YthlamfoldfeocaaDoorRoomWalksF1
import Derived.Test.YthlamfoldfeocaaDoorRoomWalksF2
import Derived.Test.YthlamfoldfeocaaDoorRoomWalksF3
import Derived.Test.YthlamfoldfeocaaDoorRoomPlain2
namespace Go.Proofs.Rm
open Go.RowKit Go.Proofs.Heap Go.Proofs.Mem
open Go.Proofs.Lab (may key Tabs)
theorem turns_any (b : Nat) (R : Room) (o : Op) (sa ba : Option Addr) (sc bl bc : Nat) (w : World) (hR : RoomAt w b R) (hI : Inv R) (ok : Ok R o)
    (hrow : RRow w (.slice sa o.ssrcs.length sc) o.ssrcs.length (u32s o.ssrcs)) :
    Calls Tryd.prog 35 #[.pointer (some ⟨b, 0, none⟩), .agg #[.int .i64 o.kind, .int .i64 o.peer, .int .i64 o.source, .int .i64 o.layer, .string (str o.name), .slice sa o.ssrcs.length sc, .slice ba bl bc]] w (TurnsPost b R o w) := by
  have hok := ok
  obtain ⟨kd, p, n, q, nm, ss⟩ := o
  obtain ⟨hk, hp, hj, ht, hs, hpub, his, habt⟩ := ok
  dsimp only at *
  by_cases k2 : kd = 2
  · subst k2; exact turns_join b R p n q nm ss sa ba _ sc bl bc w hR hp
  by_cases k3 : kd = 3
  · subst k3; exact turns_leave b R p n q nm ss sa ba _ sc bl bc w hR hp
  have hn := hs (by omega)
  by_cases k4 : kd = 4
  · subst k4
    have h2 := (pub_ok (hpub rfl)).2.1
    dsimp only at h2
    exact turns_publish b R p n q nm ss sa ba _ sc bl bc w hR hp hn hrow (by omega)
  have habt := habt (by omega)
  have hb := fun q => hI.subAt n.toNat q
  by_cases k5 : kd = 5
  · subst k5; exact turns_unpublish b R p n q nm ss sa ba _ sc bl bc w hR hn
  by_cases k6 : kd = 6
  · subst k6; exact turns_subscribe b R p n q nm ss sa ba _ sc bl bc w hR hp hn (layer_ok (about_sub habt rfl).2.2)
  by_cases k7 : kd = 7
  · subst k7; exact turns_unsubscribe b R p n q nm ss sa ba _ sc bl bc w hR hp hn
  by_cases k8 : kd = 8
  · subst k8; exact turns_mute b R p n q nm ss sa ba _ sc bl bc w hR hn
  by_cases k9 : kd = 9
  · subst k9; exact turns_unmute b R p n q nm ss sa ba _ sc bl bc w hR hn fun p' _ ht => ⟨(hb p' ht).2.2.2.2.2.2.2.1, (hb p' ht).2.2.2.2.2.2.2.2⟩
  obtain ⟨h1, _, _, h4⟩ := about_hear habt (by right; show 10 ≤ kd; omega)
  dsimp only at h1 h4
  by_cases k10 : kd = 10
  · subst k10; exact turns_pause b R p n q nm ss sa ba _ sc bl bc w hR hp hn
  by_cases k11 : kd = 11
  · subst k11; exact turns_resume b R p n q nm ss sa ba _ sc bl bc w hR hp hn ⟨(hb _ h1).2.2.2.2.2.2.2.1, (hb _ h1).2.2.2.2.2.2.2.2⟩
  obtain rfl : kd = 12 := by omega
  exact turns_switch b R p n q nm ss sa ba _ sc bl bc w hR hp hn (layer_ok (h4 rfl).1)
/-- What 'Do' leaves. -/
def DoPost (b : Nat) (R : Room) (o : Op) (w : World) (e : Ending) (w' : World) : Prop :=
  ∃ v sv, e = .returned (.tuple #[v, .int .i64 (doo R o sv).2]) ∧ TurnRow w' v (doo R o sv).1.1 ∧ RoomAt w' b (doo R o sv).1.2 ∧ Fr w.heap.size (· = b) w w'
theorem doPost_wrong {b : Nat} {R : Room} {o : Op} {w w' : World} {x : Int} (hx : Hid (wrong R o = x)) (hne : x ≠ 0) (h2 : RoomAt w' b R) (h3 : Fr w.heap.size (· = b) w w') : DoPost b R o w (.returned (.tuple #[.slice none 0 0, .int .i64 x])) w' := by
  have h : ∀ sv, doo R o sv = (([], R), x) := fun sv => by unfold doo; rw [hx.out, if_pos hne]
  exact ⟨.slice none 0 0, .slice none 0 0, by rw [h], by rw [h]; exact Row.nil _ _, by rw [h]; exact h2, h3⟩
theorem doPost_right {b : Nat} {R : Room} {o : Op} {w w1 w' : World} {v : Value} (hx : Hid (wrong R o = 0)) (hb : Below w.heap.size w w1) (h : TurnsPost b R o w1 (.returned v) w') : DoPost b R o w (.returned (.tuple #[v, .int .i64 0])) w' := by
  obtain ⟨v', sv, he, h1, h2, h3⟩ := h
  injection he with he
  subst he
  have hd : doo R o sv = (turns R o sv, 0) := by unfold doo; rw [hx.out]; simp
  exact ⟨v, sv, by rw [hd], by rw [hd]; exact h1, by rw [hd]; exact h2, (Fr.of_below _ hb).trans (h3.mono hb.size (fun _ _ h => h))⟩
theorem turnsPost_val {b : Nat} {R : Room} {o : Op} {w w' : World} {e : Ending} (h : TurnsPost b R o w e w') : ∃ v, e = .returned v ∧ TurnsPost b R o w (.returned v) w' := by
  obtain ⟨v, sv, he, h1⟩ := h
  exact ⟨v, he, v, sv, rfl, h1⟩
theorem names_short {R : Room} (hI : Inv R) : ∀ p, (R.names p).length < 9223372036854775807 := by
  intro p
  by_cases h : R.names p = []
  · rw [h]; decide
  · have := Lab.may_len (hI.nameAt p h).2
    omega
set_option maxHeartbeats 2000000 in
theorem Do_any (b : Nat) (R : Room) (o : Op) (sa ba : Option Addr) (sc bl bc : Nat) (w : World) (hR : RoomAt w b R) (hI : Inv R) (hT : Tabs w) (hnm : o.name.length < 9223372036854775807)
    (hrow : RRow w (.slice sa o.ssrcs.length sc) o.ssrcs.length (u32s o.ssrcs)) :
    Calls Tryd.prog 12 #[.pointer (some ⟨b, 0, none⟩), .agg #[.int .i64 o.kind, .int .i64 o.peer, .int .i64 o.source, .int .i64 o.layer, .string (str o.name), .slice sa o.ssrcs.length sc, .slice ba bl bc]] w (DoPost b R o w) := by
  have CW := Lib.hid (fun (w1 : World) (h : Below w.heap.size w w1) => wrong_any b R o sa ba sc bl bc w1 (hR.below h) (Utf8Tabs_below hT h) hnm (names_short hI) (hrow.below h))
  have CT := Lib.hid (fun (w1 : World) (h : Below w.heap.size w w1) (ok : wrong R o = 0) => turns_any b R o sa ba sc bl bc w1 (hR.below h) hI (wrong_ok ok) (hrow.below h))
  have hb := hR.lt
  have HRB : Hid (∀ w1, Below w.heap.size w w1 → RoomAt w1 b R) := fun w1 h => hR.below h
  have HDW := Lib.hid (fun (w' : World) x => @doPost_wrong b R o w w' x)
  have HDR := Lib.hid (fun (w1 w' : World) v => @doPost_right b R o w w1 w' v)
  have HTV := Lib.hid (fun (w1 w' : World) e => @turnsPost_val b R o w1 w' e)
  clear hR hI hT hnm hrow
  obtain ⟨kd, p, n, q, nm, ss⟩ := o
  dsimp only at *
  generalize DoPost b R ⟨kd, p, n, q, nm, ss⟩ w = DP at *
  generalize hwx : wrong R ⟨kd, p, n, q, nm, ss⟩ = x at *
  have HX := Lib.hid hwx
  clear hwx
  by_cases hx : x = 0
  · subst hx
    go_enter Tryd.func12, Tryd.ntmps12
    go_wp2_with fail
    refine (CW.out _ (below_alloc _ _)).mono ?_
    rintro e w1 ⟨rfl, hb1⟩
    have c0 := cell_below (a := ⟨w.heap.size, 0, none⟩) hb1 (v := .int .i64 kd) (by simp)
    have c1 := cell_below (a := ⟨w.heap.size, 1, none⟩) hb1 (v := .int .i64 p) (by simp)
    have c2 := cell_below (a := ⟨w.heap.size, 2, none⟩) hb1 (v := .int .i64 n) (by simp)
    have c3 := cell_below (a := ⟨w.heap.size, 3, none⟩) hb1 (v := .int .i64 q) (by simp)
    have c4 := cell_below (a := ⟨w.heap.size, 4, none⟩) hb1 (v := .string (str nm)) (by simp)
    have c5 := cell_below (a := ⟨w.heap.size, 5, none⟩) hb1 (v := .slice sa ss.length sc) (by simp)
    have c6 := cell_below (a := ⟨w.heap.size, 6, none⟩) hb1 (v := .slice ba bl bc) (by simp)
    have hbl : Below w.heap.size w w1 := (below_alloc _ _).trans (hb1.mono (by simp))
    clear hb1
    go_wp2_with fail
    refine (CT.out _ hbl trivial).mono ?_
    intro e w2 hp
    obtain ⟨tv, rfl, hp⟩ := HTV.out _ _ _ hp
    have HP := Lib.hid hp
    clear hp
    go_wp2_with fail

    exact HDR.out _ _ _ (by first | exact rfl | exact trivial) hbl HP.out
  · have hbq : (x != 0) = true := by rw [bne_iff_ne]; exact hx
    have HXN := Lib.hid hx
    clear hx
    go_enter Tryd.func12, Tryd.ntmps12
    go_wp2_with fail
    refine (CW.out _ (below_alloc _ _)).mono ?_
    rintro e w1 ⟨rfl, hb1⟩
    have hbl : Below w.heap.size w w1 := (below_alloc _ _).trans (hb1.mono (by simp))
    clear hb1
    go_wp2_with fail

    exact HDW.out _ _ (by first | exact rfl | exact trivial) HXN.out (HRB.out _ hbl) (Fr.of_below _ hbl)
end Go.Proofs.Rm
