/- Several texts in one: The room and the reference's room stay the same: all operations, farewells, the tables. No program in sight. The walks of package room, each function once: wrong, Gone, New. The walks of package room, each function once: turns (publish). The walks of package room, each function once: turns (resume). The walks of package room, each function once: turns (switch). The walks of package room, each function once: turns (all kinds), Do. -/
import Derived.Test.YthlamfoldfeocaaDoorP03
import Derived.Test.YthlamfoldfeocaaDoorP04
import Derived.Test.YthlamfoldfeocaaDoorP08
import Derived.Test.YthlamfoldfeocaaDoorP13
import Derived.Test.YthlamfoldfeocaaDoorP18
namespace Go.Proofs.Rm
open Go.Proofs.Lab (may key)
open Go.Proofs.Assoc
theorem hears_has {R : Room} (hI : Inv R) {p n : Nat} (hh : hears R p n = true) : hasI R n = true := by
  obtain ⟨_, _, c, d, e⟩ := hears_nat.1 hh
  exact hasI_nat.2 ⟨c, d, (hI.subAt n p e).2.2.2.2.1⟩
theorem changed_eq {T : Tab} {R : Room} (h : Sim T R) {p n : Nat} {kd la : Int} {nm : List UInt8} {ss : List Int} (hh : hears R p n = true) (k : Int) :
    T.changed ⟨kd, p, n, la, nm, ss⟩ k = (if k = 4 then ⟨p, n, (R.sub n p).want, true⟩ else if k = 5 then ⟨p, n, (R.sub n p).want, false⟩ else ⟨p, n, la, (R.sub n p).paused⟩) := by
  unfold Tab.changed
  dsimp only
  rw [h.subD hh]
  unfold subOf
  rw [Int.toNat_natCast, Int.toNat_natCast]
theorem Sim.change {T : Tab} {R : Room} (h : Sim T R) (hI : Inv R) {p n : Nat} {kd la : Int} {nm : List UInt8} {ss : List Int} (hh : hears R p n = true) (k : Int) (x : Sub) (hx : x.there = true) (hc : T.changed ⟨kd, p, n, la, nm, ss⟩ k = ⟨p, n, x.want, x.paused⟩) :
    (T.change ⟨kd, p, n, la, nm, ss⟩ k).1 = ⟨k, p, n, if k = 8 then la else 0, 0⟩ :: Rm.waits (R.setSub n p x) p n ∧ Sim (T.change ⟨kd, p, n, la, nm, ss⟩ k).2 (R.setSub n p x) := by
  have h1 := h.setSub hh x hx
  have hs := hears_has hI hh
  have hs1 : hasI (R.setSub n p x) n = true := hs
  have hh1 : hears (R.setSub n p x) p n = true := by
    rw [hears_nat] at hh ⊢
    exact ⟨hh.1, hh.2.1, hh.2.2.1, hh.2.2.2.1, by rw [sub_setSub]; exact hx⟩
  have hso : subOf (R.setSub n p x) p n = ⟨p, n, x.want, x.paused⟩ := by unfold subOf; rw [Int.toNat_natCast, Int.toNat_natCast, sub_setSub]
  have hw := h1.waits hs1 hh1 (t := ⟨k, p, n, if k = 8 then la else 0, 0⟩)
  rw [hso] at hw
  unfold Tab.change
  dsimp only
  rw [hc]
  exact ⟨hw, h1⟩
set_option maxHeartbeats 1000000 in
theorem Sim.turns {T : Tab} {R : Room} (h : Sim T R) (hI : Inv R) {o : Op} (ok : Ok R o) (sv : Value) : (T.turns o).1 = (turns R o sv).1 ∧ Sim (T.turns o).2 (turns R o sv).2 := by
  obtain ⟨kd, p, n, la, nm, ss⟩ := o
  obtain ⟨hk, hp, hj, ht, hs, hpub, his, habt⟩ := ok
  dsimp only at *
  obtain ⟨p, rfl⟩ := Int.eq_ofNat_of_zero_le (show 0 ≤ p by omega)
  by_cases k2 : kd = 2
  · subst k2
    obtain ⟨h1, h2, h3⟩ := join_ok (hj rfl)
    rw [show T.turns ⟨2, p, n, la, nm, ss⟩ = ([], T.addPeer ⟨p, nm⟩) from rfl, show Rm.turns R ⟨2, p, n, la, nm, ss⟩ sv = ([], R.setName p nm) by simp [Rm.turns]]
    exact ⟨rfl, h.addPeer (p := p) (by omega) h1 nm (may_ne h2)⟩
  have hj1 := ht k2
  by_cases k3 : kd = 3
  · subst k3
    rw [show T.turns ⟨3, p, n, la, nm, ss⟩ = T.leave p from rfl, show Rm.turns R ⟨3, p, n, la, nm, ss⟩ sv = Rm.leave R p by simp [Rm.turns]]
    exact h.leave hI hj1
  obtain ⟨n, rfl⟩ := Int.eq_ofNat_of_zero_le (show 0 ≤ n by have := hs (by omega); omega)
  have hn := hs (by omega)
  by_cases k4 : kd = 4
  · subst k4
    obtain ⟨_, _, _, h4, _, _⟩ := pub_ok (hpub rfl)
    have hno : hasI R n = false := by
      rw [Bool.eq_false_iff, ne_eq, hasI_iff]
      rintro ⟨_, _, c⟩
      dsimp only at h4
      rw [h4] at c; cases c
    rw [show T.turns ⟨4, p, n, la, nm, ss⟩ = ([], T.addSrc ⟨n, p, ss, false⟩) from rfl, show Rm.turns R ⟨4, p, n, la, nm, ss⟩ sv = ([], R.setSrc n ⟨true, n, p, sv, ss, false⟩) by simp [Rm.turns]]
    exact ⟨rfl, h.addSrc (n := n) (by omega) hno ⟨true, n, p, sv, ss, false⟩ rfl⟩
  have hth := his (by omega)
  have hab := habt (by omega)
  rw [Int.toNat_natCast] at hth
  have hsI : hasI R n = true := hasI_nat.2 ⟨by omega, by omega, hth⟩
  by_cases k5 : kd = 5
  · subst k5
    rw [show T.turns ⟨5, p, n, la, nm, ss⟩ = T.endSource n from rfl, show Rm.turns R ⟨5, p, n, la, nm, ss⟩ sv = Rm.gone R n by simp [Rm.turns]]
    exact h.gone hsI
  by_cases k6 : kd = 6
  · subst k6
    obtain ⟨h1, h2, h3⟩ := about_sub hab rfl
    dsimp only at h1 h2 h3
    rw [Int.toNat_natCast, Int.toNat_natCast] at h2
    have hno : hears R p n = false := by
      rw [Bool.eq_false_iff, ne_eq, hears_nat]
      rintro ⟨_, _, _, _, e⟩; rw [h2] at e; cases e
    have hs2 := h.addSub (p := p) (n := n) (by omega) (by omega) hno ⟨true, false, la⟩ rfl
    have hsI2 : hasI (R.setSub n p ⟨true, false, la⟩) n = true := hsI
    have hh2 : hears (R.setSub n p ⟨true, false, la⟩) p n = true := hears_nat.2 ⟨by omega, by omega, by omega, by omega, by rw [sub_setSub]⟩
    rw [show T.turns ⟨6, p, n, la, nm, ss⟩ = T.subscribe ⟨6, p, n, la, nm, ss⟩ from rfl, show Rm.turns R ⟨6, p, n, la, nm, ss⟩ sv = begin R ⟨6, p, n, la, nm, ss⟩ by simp [Rm.turns]]
    refine ⟨?_, by unfold begin; dsimp only; rw [Int.toNat_natCast, Int.toNat_natCast]; exact hs2⟩
    unfold Tab.subscribe begin
    dsimp only
    rw [hs2.srcD hsI2]
    have hso : subOf (R.setSub n p ⟨true, false, la⟩) p n = ⟨p, n, la, false⟩ := by unfold subOf; rw [Int.toNat_natCast, Int.toNat_natCast, sub_setSub]
    have ha := hs2.ask hsI2 hh2
    rw [hso] at ha
    rw [ha]
    unfold srcOf
    rw [Int.toNat_natCast, Int.toNat_natCast]
    rfl
  by_cases k8 : kd = 8
  · subst k8
    rw [show T.turns ⟨8, p, n, la, nm, ss⟩ = T.mute n true from rfl, show Rm.turns R ⟨8, p, n, la, nm, ss⟩ sv = Rm.mute R n true by simp [Rm.turns]]
    exact h.mute hsI true
  by_cases k9 : kd = 9
  · subst k9
    rw [show T.turns ⟨9, p, n, la, nm, ss⟩ = T.mute n false from rfl, show Rm.turns R ⟨9, p, n, la, nm, ss⟩ sv = Rm.mute R n false by simp [Rm.turns]]
    exact h.mute hsI false
  have hst := about_hear hab (by dsimp only; omega)
  have hhe : hears R p n = true := by
    have := hst.1
    dsimp only at this
    rw [Int.toNat_natCast, Int.toNat_natCast] at this
    exact hears_nat.2 ⟨by omega, by omega, by omega, by omega, this⟩
  have hthe := (hears_nat.1 hhe).2.2.2.2
  by_cases k7 : kd = 7
  · subst k7
    rw [show T.turns ⟨7, p, n, la, nm, ss⟩ = ([⟨2, p, n, 0, 0⟩], T.endSub p n) from rfl, show Rm.turns R ⟨7, p, n, la, nm, ss⟩ sv = ([⟨2, p, n, 0, 0⟩], R.setSub n p noSub) by simp [Rm.turns]]
    exact ⟨rfl, h.endSub hhe⟩
  by_cases k10 : kd = 10
  · subst k10
    have hc := changed_eq h (kd := 10) (la := la) (nm := nm) (ss := ss) hhe 4
    rw [if_pos rfl] at hc
    rw [show T.turns ⟨10, p, n, la, nm, ss⟩ = T.change ⟨10, p, n, la, nm, ss⟩ 4 from rfl, show Rm.turns R ⟨10, p, n, la, nm, ss⟩ sv = ([⟨4, p, n, 0, 0⟩], R.setSub n p { R.sub n p with paused := true }) by simp [Rm.turns]]
    have := h.change hI (kd := 10) (la := la) (nm := nm) (ss := ss) hhe 4 { R.sub n p with paused := true } hthe hc
    have h10 := this.1
    have hwt : Rm.waits (R.setSub n p { R.sub n p with paused := true }) p n = [] := by unfold Rm.waits; rw [sub_setSub]; rfl
    rw [if_neg (by decide), hwt] at h10
    exact ⟨h10, this.2⟩
  by_cases k11 : kd = 11
  · subst k11
    have hc := changed_eq h (kd := 11) (la := la) (nm := nm) (ss := ss) hhe 5
    rw [if_neg (by decide), if_pos rfl] at hc
    rw [show T.turns ⟨11, p, n, la, nm, ss⟩ = T.change ⟨11, p, n, la, nm, ss⟩ 5 from rfl, show Rm.turns R ⟨11, p, n, la, nm, ss⟩ sv = (⟨5, p, n, 0, 0⟩ :: Rm.waits (R.setSub n p { R.sub n p with paused := false }) p n, R.setSub n p { R.sub n p with paused := false }) by simp [Rm.turns]]
    have := h.change hI (kd := 11) (la := la) (nm := nm) (ss := ss) hhe 5 { R.sub n p with paused := false } hthe hc
    have h10 := this.1
    rw [if_neg (by decide)] at h10
    exact ⟨h10, this.2⟩
  · obtain rfl : kd = 12 := by omega
    have hc := changed_eq h (kd := 12) (la := la) (nm := nm) (ss := ss) hhe 8
    rw [if_neg (by decide), if_neg (by decide)] at hc
    rw [show T.turns ⟨12, p, n, la, nm, ss⟩ = T.change ⟨12, p, n, la, nm, ss⟩ 8 from rfl, show Rm.turns R ⟨12, p, n, la, nm, ss⟩ sv = (⟨8, p, n, la, 0⟩ :: Rm.waits (R.setSub n p { R.sub n p with want := la }) p n, R.setSub n p { R.sub n p with want := la }) by simp [Rm.turns]]
    have := h.change hI (kd := 12) (la := la) (nm := nm) (ss := ss) hhe 8 { R.sub n p with want := la } hthe hc
    have h10 := this.1
    rw [if_pos rfl] at h10
    exact ⟨h10, this.2⟩
theorem Sim.doo {T : Tab} {R : Room} (h : Sim T R) (hI : Inv R) (o : Op) (sv : Value) : (T.doo o).1.1 = (doo R o sv).1.1 ∧ (T.doo o).2 = (doo R o sv).2 ∧ Sim (T.doo o).1.2 (doo R o sv).1.2 := by
  unfold Tab.doo Rm.doo
  rw [h.wrong_eq hI]
  by_cases hw : wrong R o ≠ 0
  · rw [if_pos hw, if_pos hw]; exact ⟨rfl, rfl, h⟩
  · rw [if_neg hw, if_neg hw]
    have := h.turns hI (wrong_ok (Classical.not_not.1 hw)) sv
    exact ⟨this.1, rfl, this.2⟩
theorem Sim.goneOp {T : Tab} {R : Room} (h : Sim T R) (hI : Inv R) (p x : Int) : (T.goneOp p x).1.1 = (goneOp R p x).1.1 ∧ (T.goneOp p x).2 = (goneOp R p x).2 ∧ Sim (T.goneOp p x).1.2 (goneOp R p x).1.2 := by
  unfold Tab.goneOp Rm.goneOp
  rw [h.of_eq hI, h.owner]
  cases ho : (of R x).2.2
  · exact ⟨rfl, rfl, h⟩
  · obtain ⟨m, hm, ht, hx, he⟩ := of_some ho
    obtain ⟨hm1, _⟩ := hI.srcAt m ht
    have hs : hasI R (m : Int) = true := hasI_nat.2 ⟨hm1, hm, ht⟩
    rw [he]
    dsimp only
    rw [hs, if_pos rfl, Int.toNat_natCast]
    cases hj : joined R p
    · rw [h.peer_no hj]; exact ⟨rfl, rfl, h⟩
    · have hpp := (h.peerAt p).2 hj
      have e1 : decide (T.peerAt p < 0) = false := decide_eq_false (by omega)
      rw [e1]
      by_cases hown : (R.src m).own = p
      · have e2 : decide ((R.src m).own ≠ p) = false := decide_eq_false (by simp [hown])
        rw [e2]
        have hg := h.gone hs
        exact ⟨hg.1, rfl, hg.2⟩
      · have e2 : decide ((R.src m).own ≠ p) = true := decide_eq_true hown
        rw [e2]; exact ⟨rfl, rfl, h⟩
/-- The same table. -/
theorem Sim.table {T : Tab} {R : Room} (h : Sim T R) (hI : Inv R) : T.table = Rm.table R := by
  unfold Tab.table Rm.table
  have e9 : (List.range 9) = 0 :: (List.range 8).map (· + 1) := by decide
  congr 1
  · unfold Tab.tabPeers tPeers
    rw [e9, List.filter_cons, if_neg (by rw [joined_iff]; simp), List.filter_map, List.map_map]
    generalize List.range 8 = l
    induction l with
    | nil => rfl
    | cons k l ih =>
      rw [List.flatMap_cons, List.filter_cons, ih]
      have e1 : ((k : Int) + 1) = ((k + 1 : Nat) : Int) := by omega
      rw [e1]
      cases hj : joined R ((k + 1 : Nat) : Int)
      · have hj' : joined R ((k : Int) + 1) = false := by rw [e1]; exact hj
        rw [h.peer_no hj, if_neg (by decide), if_neg (by simp [hj'])]; rfl
      · obtain ⟨i, hi, h1, h2⟩ := h.peer_yes hj
        rw [if_pos ((h.peerAt _).2 hj), if_pos (by simpa using hj), h1, Int.toNat_natCast, List.getD_eq_getElem?_getD, List.getElem?_eq_getElem hi, h2]
        rfl
  · unfold Tab.tabSrcs tSrcs
    have h00 : hasSrc R 0 = false := rfl
    rw [e9, List.filter_cons, if_neg (by rw [h00]; decide), List.filter_map, List.map_map]
    generalize List.range 8 = l
    induction l with
    | nil => rfl
    | cons k l ih =>
      rw [List.flatMap_cons, List.filter_cons, ih]
      have e1 : ((k : Int) + 1) = ((k + 1 : Nat) : Int) := by omega
      rw [e1]
      have hhs : hasSrc R (k + 1) = hasI R ((k + 1 : Nat) : Int) := by unfold hasSrc hasI; rw [Int.toNat_natCast]
      cases hj : hasI R ((k + 1 : Nat) : Int)
      · have hj' : hasI R ((k : Int) + 1) = false := by rw [e1]; exact hj
        rw [h.src_no hj, if_neg (by decide), if_neg (by simp [hhs, hj'])]; rfl
      · rw [if_pos ((h.srcAt _).2 hj), if_pos (by simpa [hhs] using hj), h.srcD hj]
        have hnum := (hI.srcAt (k + 1) (hasI_nat.1 hj).2.2).2.2.1
        unfold srcOf
        rw [Int.toNat_natCast, ← hnum]
        rfl
  · unfold Tab.tabSubs tSubs
    have hs0 : subs R ((0 : Nat) : Int) = [] := by
      unfold subs; rw [List.filter_eq_nil_iff]; intro p _; unfold hears inn; simp
    rw [e9, List.flatMap_cons, hs0, List.flatMap_map]
    show _ = [] ++ _
    rw [List.nil_append]
    apply fm_congr
    intro k _
    have e1 : ((k : Int) + 1) = ((k + 1 : Nat) : Int) := by omega
    rw [e1, h.hears_eq]
    unfold Tab.tabSubs1 tSubs1
    apply List.map_congr_left
    intro p hp
    rw [h.subD (List.mem_filter.1 hp).2]
    unfold subOf; rw [Int.toNat_natCast, Int.toNat_natCast]
/-- What the reference's Do asks for holds. -/
theorem Sim.ok {T : Tab} {R : Room} (h : Sim T R) (hI : Inv R) {o : Op} (hw : T.wrong o = 0) : ROk T o := by
  have ok := wrong_ok (show wrong R o = 0 by rw [← h.wrong_eq hI]; exact hw)
  obtain ⟨kd, p, n, la, nm, ss⟩ := o
  obtain ⟨hk, hp, hj, ht, hs, hpub, his, habt⟩ := ok
  dsimp only at *
  have hsrc : 5 ≤ kd → hasI R n = true := fun hk5 => hasI_iff.2 ⟨(hs (by omega)).1, (hs (by omega)).2, his hk5⟩
  have hsub : kd = 7 ∨ 10 ≤ kd → hears R p n = true := fun hk7 => by
    have hst := (about_hear (habt (by omega)) (by dsimp only; omega)).1
    have := hs (by omega)
    exact hears_iff.2 ⟨hp.1, hp.2, this.1, this.2, hst⟩
  have hwant : ∀ q m : Int, hears R q m = true → 0 ≤ (R.sub m.toNat q.toNat).want ∧ (R.sub m.toNat q.toNat).want < (R.src m.toNat).ss.length := fun q m hh => by
    have := hI.subAt m.toNat q.toNat (hears_iff.1 hh).2.2.2.2
    exact ⟨this.2.2.2.2.2.2.2.1, this.2.2.2.2.2.2.2.2⟩
  refine ⟨hk, hp.1, fun hk4 => ?_, fun hk3 => (h.peerAt p).2 (ht (by have h3 : kd = 3 := hk3; omega)), fun hk5 => (h.srcAt n).2 (hsrc hk5), fun hk6 => ?_, fun hk7 => (h.subAt p n).2 (hsub hk7), fun hk9 => ?_, ?_⟩
  · exact (pub_ok (hpub hk4)).2.1
  · have hk6 : kd = 6 := hk6
    have h3 := (about_sub (habt (by omega)) hk6).2.2
    have := layer_ok h3
    dsimp only
    rw [h.srcD (hsrc (by omega))]
    exact this
  · intro x hx hxn
    dsimp only at hxn ⊢
    have hk9 : kd = 9 := hk9
    have hsI := hsrc (by omega)
    obtain ⟨m, rfl⟩ := Int.eq_ofNat_of_zero_le (show 0 ≤ n by have := (hasI_iff.1 hsI).1; omega)
    have h1 := h.setMuted hsI false
    have hsI1 : hasI (R.setSrc m { R.src m with muted := false }) m = true := by
      rw [hasI_nat] at hsI ⊢
      exact ⟨hsI.1, hsI.2.1, by rw [setSrc_src, if_pos rfl]; exact hsI.2.2⟩
    refine ⟨(h1.srcAt _).2 hsI1, ?_⟩
    have hx2 := (h.mem_sub (x := x)).1 hx
    rw [h1.srcD hsI1, hx2.2]
    unfold srcOf subOf
    dsimp only
    rw [hxn, Int.toNat_natCast, setSrc_src, if_pos rfl]
    have := hwant x.peer x.source hx2.1
    rw [hxn, Int.toNat_natCast] at this
    exact this
  · intro k hkk
    have hkk : kd = 10 ∧ k = 4 ∨ kd = 11 ∧ k = 5 ∨ kd = 12 ∧ k = 8 := hkk
    have hk10 : kd = 7 ∨ 10 ≤ kd := by omega
    have hh := hsub hk10
    have hw2 := hwant p n hh
    obtain ⟨p, rfl⟩ := Int.eq_ofNat_of_zero_le (show 0 ≤ p by omega)
    obtain ⟨n, rfl⟩ := Int.eq_ofNat_of_zero_le (show 0 ≤ n by have := hs (by omega); omega)
    rw [changed_eq h hh k]
    dsimp only
    rw [h.srcD (hsrc (by omega))]
    unfold srcOf
    dsimp only
    rw [Int.toNat_natCast, Int.toNat_natCast] at hw2
    rw [Int.toNat_natCast]
    rcases hkk with ⟨_, rfl⟩ | ⟨_, rfl⟩ | ⟨h12, rfl⟩
    · exact hw2
    · exact hw2
    · have h4 := (about_hear (habt (by omega)) (by dsimp only; omega)).2.2.2 h12
      have h5 := layer_ok h4.1
      dsimp only at h5
      rw [Int.toNat_natCast] at h5
      exact h5
end Go.Proofs.Rm
namespace Go.Proofs.Rm
open Go.RowKit Go.Proofs.Heap Go.Proofs.Mem
open Go.Proofs.Lab (may key Tabs)
set_option maxRecDepth 100000 in
set_option maxHeartbeats 4000000 in
theorem wrong_any (b : Nat) (R : Room) (o : Op) (sa ba : Option Addr) (sc bl bc : Nat) (w : World) (hR : RoomAt w b R) (hT : Tabs w) (hnm : o.name.length < 9223372036854775807) (hRn : ∀ p, (R.names p).length < 9223372036854775807)
    (hrow : RRow w (.slice sa o.ssrcs.length sc) o.ssrcs.length (u32s o.ssrcs)) :
    Calls Tryd.prog 34 #[.pointer (some ⟨b, 0, none⟩), .agg #[.int .i64 o.kind, .int .i64 o.peer, .int .i64 o.source, .int .i64 o.layer, .string (str o.name), .slice sa o.ssrcs.length sc, .slice ba bl bc]] w fun e w' => e = .returned (.int .i64 (wrong R o)) ∧ Below w.heap.size w w' := by
  have CJ := Lib.hid (fun (w1 : World) (h : Below w.heap.size w w1) (hp : 1 ≤ o.peer ∧ o.peer < 9) => joins_any b R o sa ba o.ssrcs.length sc bl bc w1 (hR.below h) hp (Utf8Tabs_below hT h) hnm hRn)
  have CP := Lib.hid (fun (w1 : World) (h : Below w.heap.size w w1) (hs : 1 ≤ o.source ∧ o.source < 9) => publishes_any b R o sa ba sc bl bc w1 (hR.below h) hs (hrow.below h))
  have CA := Lib.hid (fun (w1 : World) (h : Below w.heap.size w w1) (hs : 1 ≤ o.source ∧ o.source < 9) (hp : 1 ≤ o.peer ∧ o.peer < 9) => about_any b R o sa ba o.ssrcs.length sc bl bc w1 (hR.below h) hs hp)
  have CT := Lib.hid (fun (w1 : World) (h : Below w.heap.size w w1) => Joined_any b R o.peer w1 (hR.below h))
  have C1 := Lib.hid (fun (w1 : World) => in_any o.peer 9 w1)
  have C2 := Lib.hid (fun (w1 : World) => in_any o.source 9 w1)
  obtain ⟨kd, p, n, q, nm, ss⟩ := o
  have hb := hR.lt
  have HW : Hid (wrong R ⟨kd, p, n, q, nm, ss⟩ = if kd < 2 ∨ 12 < kd then 4
    else if !inn p 9 then 5
    else if kd = 2 then joins R ⟨kd, p, n, q, nm, ss⟩
    else if !joined R p then 8
    else if kd = 3 then 0
    else if !inn n 9 then 5
    else if kd = 4 then publishes R ⟨kd, p, n, q, nm, ss⟩
    else if !(R.src n.toNat).there then 8
    else about R ⟨kd, p, n, q, nm, ss⟩) := rfl
  have HI1 := Lib.hid (inn_iff p 9)
  have HI2 := Lib.hid (inn_iff n 9)
  have HR := Lib.hid hR
  dsimp only at *
  clear hR hT hnm hRn hrow
  generalize wrong R ⟨kd, p, n, q, nm, ss⟩ = wr0 at *
  generalize joins R ⟨kd, p, n, q, nm, ss⟩ = jn at *
  generalize publishes R ⟨kd, p, n, q, nm, ss⟩ = pb at *
  generalize about R ⟨kd, p, n, q, nm, ss⟩ = ab at *
  generalize joined R p = jd at *
  by_cases h1 : kd < 2
  · have HF : Hid (wr0 = 4) := by show _ = _; rw [HW.out, if_pos (Or.inl h1)]
    go_enter Tryd.func34, Tryd.ntmps34
    go_wp2
    go_ret
    exact ⟨ret_int HF.out.symm, below_alloc _ _⟩
  by_cases h2 : 12 < kd
  · have HF : Hid (wr0 = 4) := by show _ = _; rw [HW.out, if_pos (Or.inr h2)]
    go_enter Tryd.func34, Tryd.ntmps34
    go_wp2
    go_ret
    exact ⟨ret_int HF.out.symm, below_alloc _ _⟩
  have HW2 : Hid (wr0 = if !inn p 9 then 5
    else if kd = 2 then jn
    else if !jd then 8
    else if kd = 3 then 0
    else if !inn n 9 then 5
    else if kd = 4 then pb
    else if !(R.src n.toNat).there then 8
    else ab) := by show _ = _; rw [HW.out, if_neg (by omega)]
  clear HW
  cases hip : inn p 9
  · have HF : Hid (wr0 = 5) := by show _ = _; rw [HW2.out, hip]; rfl
    rw [hip] at C1
    clear hip HW2
    go_enter Tryd.func34, Tryd.ntmps34
    go_wp2_with (go_at_call 44; refine (C1.out _).mono ?_; rintro e w1 ⟨rfl, rfl⟩)
    go_ret
    exact ⟨ret_int HF.out.symm, below_alloc _ _⟩
  have hp9 := HI1.out.1 hip
  rw [hip] at C1 HW2
  clear hip HI1
  by_cases h3 : kd = 2
  · subst h3
    have HF : Hid (wr0 = jn) := by show _ = _; rw [HW2.out]; rfl
    clear HW2
    go_enter Tryd.func34, Tryd.ntmps34
    go_wp2_with (first | (go_at_call 44; refine (C1.out _).mono ?_; rintro e w1 ⟨rfl, rfl⟩) | (go_at_call 52; refine (CJ.out _ (below_alloc _ _) hp9).mono ?_; rintro e w1 ⟨rfl, hb1⟩))
    go_ret
    exact ⟨ret_int HF.out.symm, (below_alloc _ _).trans (hb1.mono (by simp))⟩
  have HW3 : Hid (wr0 = if !jd then 8
    else if kd = 3 then 0
    else if !inn n 9 then 5
    else if kd = 4 then pb
    else if !(R.src n.toNat).there then 8
    else ab) := by show _ = _; rw [HW2.out]; simp [h3]
  have b3 : (kd == 2) = false := by rw [beq_eq_false_iff_ne]; exact h3
  clear HW2 h3
  cases jd
  · have HF : Hid (wr0 = 8) := by show _ = _; rw [HW3.out]; rfl
    clear HW3
    go_enter Tryd.func34, Tryd.ntmps34
    go_wp2_with (first | (go_at_call 44; refine (C1.out _).mono ?_; rintro e w1 ⟨rfl, rfl⟩) | (go_at_call 20; refine (CT.out _ (below_alloc _ _)).mono ?_; rintro e w1 ⟨rfl, rfl⟩))
    go_ret
    exact ⟨ret_int HF.out.symm, below_alloc _ _⟩
  by_cases h4 : kd = 3
  · subst h4
    have HF : Hid (wr0 = 0) := by show _ = _; rw [HW3.out]; rfl
    clear HW3
    go_enter Tryd.func34, Tryd.ntmps34
    go_wp2_with (first | (go_at_call 44; refine (C1.out _).mono ?_; rintro e w1 ⟨rfl, rfl⟩) | (go_at_call 20; refine (CT.out _ (below_alloc _ _)).mono ?_; rintro e w1 ⟨rfl, rfl⟩))
    go_ret
    exact ⟨ret_int HF.out.symm, below_alloc _ _⟩
  have b4 : (kd == 3) = false := by rw [beq_eq_false_iff_ne]; exact h4
  have HW4 : Hid (wr0 = if !inn n 9 then 5
    else if kd = 4 then pb
    else if !(R.src n.toNat).there then 8
    else ab) := by show _ = _; rw [HW3.out]; simp [h4]
  clear HW3 h4
  cases hin : inn n 9
  · have HF : Hid (wr0 = 5) := by show _ = _; rw [HW4.out, hin]; rfl
    rw [hin] at C2
    clear hin HW4
    go_enter Tryd.func34, Tryd.ntmps34
    go_wp2_with fail
    refine (C1.out _).mono ?_
    rintro e w1 ⟨rfl, rfl⟩
    go_wp2_with (first | (go_at_call 20; refine (CT.out _ (below_alloc _ _)).mono ?_; rintro e w1 ⟨rfl, rfl⟩) | (go_at_call 44; refine (C2.out _).mono ?_; rintro e w1 ⟨rfl, rfl⟩))
    go_ret
    exact ⟨ret_int HF.out.symm, below_alloc _ _⟩
  have hn9 := HI2.out.1 hin
  rw [hin] at C2 HW4
  clear hin HI2
  by_cases h5 : kd = 4
  · subst h5
    have HF : Hid (wr0 = pb) := by show _ = _; rw [HW4.out]; rfl
    clear HW4
    go_enter Tryd.func34, Tryd.ntmps34
    go_wp2_with fail
    refine (C1.out _).mono ?_
    rintro e w1 ⟨rfl, rfl⟩
    go_wp2_with (first | (go_at_call 20; refine (CT.out _ (below_alloc _ _)).mono ?_; rintro e w1 ⟨rfl, rfl⟩) | (go_at_call 44; refine (C2.out _).mono ?_; rintro e w1 ⟨rfl, rfl⟩) | (go_at_call 53; refine (CP.out _ (below_alloc _ _) hn9).mono ?_; rintro e w1 ⟨rfl, hb1⟩))
    go_ret
    exact ⟨ret_int HF.out.symm, (below_alloc _ _).trans (hb1.mono (by simp))⟩
  have HW5 : Hid (wr0 = if !(R.src n.toNat).there then 8 else ab) := by show _ = _; rw [HW4.out]; simp [h5]
  have b5 : (kd == 4) = false := by rw [beq_eq_false_iff_ne]; exact h5
  clear HW4 h5
  obtain ⟨n, rfl⟩ := Int.eq_ofNat_of_zero_le (show 0 ≤ n by omega)
  rw [Int.toNat_natCast] at HW5
  obtain ⟨s0, s1, s2, s3, s4⟩ := HR.out.srcc (n := n) (by omega)
  clear s1 s2 s3 s4
  cases ht : (R.src n).there
  · have HF : Hid (wr0 = 8) := by show _ = _; rw [HW5.out, ht]; rfl
    rw [ht] at s0
    clear ht HW5
    go_enter Tryd.func34, Tryd.ntmps34
    go_wp2_with fail
    refine (C1.out _).mono ?_
    rintro e w1 ⟨rfl, rfl⟩
    go_wp2_with (first | (go_at_call 20; refine (CT.out _ (below_alloc _ _)).mono ?_; rintro e w1 ⟨rfl, rfl⟩) | (go_at_call 44; refine (C2.out _).mono ?_; rintro e w1 ⟨rfl, rfl⟩))
    go_quiet (fail)
    go_wp2
    go_ret
    exact ⟨ret_int HF.out.symm, below_drewN (below_alloc _ _) _⟩
  · have HF : Hid (wr0 = ab) := by show _ = _; rw [HW5.out, ht]; rfl
    rw [ht] at s0
    clear ht HW5
    go_enter Tryd.func34, Tryd.ntmps34
    go_wp2_with fail
    refine (C1.out _).mono ?_
    rintro e w1 ⟨rfl, rfl⟩
    go_wp2_with (first | (go_at_call 20; refine (CT.out _ (below_alloc _ _)).mono ?_; rintro e w1 ⟨rfl, rfl⟩) | (go_at_call 44; refine (C2.out _).mono ?_; rintro e w1 ⟨rfl, rfl⟩))
    go_quiet (fail)
    go_wp2_with (go_at_call 54; refine (CA.out _ (below_drewN (below_alloc _ _) _) hn9 hp9).mono ?_; rintro e w1 ⟨rfl, hb1⟩)
    go_ret
    exact ⟨ret_int HF.out.symm, (below_drewN (below_alloc _ _) _).trans (hb1.mono (by simp))⟩
end Go.Proofs.Rm
namespace Go.Proofs.Rm
open Go.RowKit Go.Proofs.Heap Go.Proofs.Mem
theorem cell_set1 {w : World} {b m i j : Nat} {u v : Value} (hb : b < m) (h : w.cell? ⟨m, j, none⟩ = some v) : (w.setCell ⟨b, i, none⟩ u).cell? ⟨m, j, none⟩ = some v := by
  rw [World.cell?_setCell_other _ _ _ _ (by intro e; injection e; omega)]; exact h
theorem cell_set5 {w : World} {b m j i0 i1 i2 i3 i4 : Nat} {u0 u1 u2 u3 u4 v : Value} (hb : b < m) (h : w.cell? ⟨m, j, none⟩ = some v) : (((((w.setCell ⟨b, i0, none⟩ u0).setCell ⟨b, i1, none⟩ u1).setCell ⟨b, i2, none⟩ u2).setCell ⟨b, i3, none⟩ u3).setCell ⟨b, i4, none⟩ u4).cell? ⟨m, j, none⟩ = some v :=
  cell_set1 hb (cell_set1 hb (cell_set1 hb (cell_set1 hb (cell_set1 hb h))))
theorem size_set5 {w : World} {b m i0 i1 i2 i3 i4 : Nat} {u0 u1 u2 u3 u4 : Value} (h : m < w.heap.size) : m < (((((w.setCell ⟨b, i0, none⟩ u0).setCell ⟨b, i1, none⟩ u1).setCell ⟨b, i2, none⟩ u2).setCell ⟨b, i3, none⟩ u3).setCell ⟨b, i4, none⟩ u4).heap.size := by
  simpa [size_setCell] using h
section
variable (b : Nat) (R : Room) (p n q : Int) (nm : List UInt8) (ss : List Int) (sa ba : Option Addr) (sl sc bl bc : Nat) (w : World) (hR : RoomAt w b R)
include hR
set_option maxRecDepth 100000 in
set_option maxHeartbeats 4000000 in
theorem turns_publish (hp : 1 ≤ p ∧ p < 9) (hn : 1 ≤ n ∧ n < 9) (hrow : RRow w (.slice sa sl sc) ss.length (u32s ss)) (hl : ss.length ≤ 1000000) :
    Calls Tryd.prog 35 #[.pointer (some ⟨b, 0, none⟩), .agg #[.int .i64 4, .int .i64 p, .int .i64 n, .int .i64 q, .string (str nm), .slice sa sl sc, .slice ba bl bc]] w (TurnsPost b R ⟨4, p, n, q, nm, ss⟩ w) := by
  obtain ⟨p, rfl⟩ := Int.eq_ofNat_of_zero_le (show 0 ≤ p by omega)
  have hp9 : p < 9 := by omega
  obtain ⟨n, rfl⟩ := Int.eq_ofNat_of_zero_le (show 0 ≤ n by omega)
  have hn9 : n < 9 := by omega
  have hb := hR.lt
  have HRW : Hid (∀ w1, Below w.heap.size w w1 → RoomAt w1 b R) := fun w1 h => hR.below h
  have HSL : Hid (sl = ss.length) := by
    obtain ⟨a', c', e, _⟩ := hrow
    injection e
  have HUF : Hid (∀ w1, RoomAt w1 b R → ∀ j, w1.frozen? ⟨b, j, none⟩ = false) := fun w1 h j => h.unfrozen j
  have C := Lib.hid (fun (w1 : World) (h : Below w.heap.size w w1) => Clone_any (.slice sa sl sc) ss w1 (hrow.below h) hl)
  have hbw : ∀ A B : Obj, Below w.heap.size w ((w.alloc A).alloc B).drew := fun A B => (((Below.refl _ _).alloc (Nat.le_refl _) A).alloc (by simp) B).drew
  clear hR hrow hl
  go_enter Tryd.func35, Tryd.ntmps35
  go_wp2
  go_region_held3 (fun w' => w'.cell? ⟨w.heap.size, 1, none⟩ = some (.int .i64 p) ∧ w'.cell? ⟨w.heap.size, 2, none⟩ = some (.int .i64 n) ∧ w'.cell? ⟨w.heap.size, 5, none⟩ = some (.slice sa sl sc) ∧ Fr w.heap.size (· = b) w w' ∧ w.heap.size + 1 < w'.heap.size) (first | (refine ⟨?_, ?_, ?_, ?_, ?_⟩ <;> first | with_reducible assumption | (with_reducible refine Fr.drew ?_; with_reducible assumption) | (with_reducible refine Fr.of_below _ ?_; with_reducible apply hbw) | ((with_reducible refine Fr.setAt ?_ _ _); (repeat (with_reducible refine Fr.setAt ?_ _ _)); with_reducible assumption) | (with_reducible refine cell_set5 hb ?_; with_reducible assumption) | (with_reducible refine size_set5 ?_; with_reducible assumption) | go_keep) | go_keep) (first | (go_at_call 45; go_split_ands; refine Calls.mono (C.out _ (hbw _ _)) ?_; rintro e w2 ⟨⟨cv, rfl, hcr⟩, hb2⟩; have hbl2 := Below.trans (hbw _ _) (hb2.mono (Nat.le_of_lt (Nat.lt_of_succ_lt (by with_reducible assumption)))); have hfr2 := Fr.of_below (· = b) hbl2; have hsz2 := Nat.lt_of_lt_of_le (by with_reducible assumption) hb2.size; obtain ⟨ca, cc, hce, hcx⟩ := id hcr; clear hcx; subst hce; have HCR := Lib.hid hcr; clear hcr; obtain ⟨s0, s1, s2, s3, s4⟩ := (HRW.out w2 hbl2).srcc hn9; have f0 := HUF.out w2 (HRW.out w2 hbl2) (9 + n * 5); have f1 := HUF.out w2 (HRW.out w2 hbl2) (9 + n * 5 + 1); have f2 := HUF.out w2 (HRW.out w2 hbl2) (9 + n * 5 + 2); have f3 := HUF.out w2 (HRW.out w2 hbl2) (9 + n * 5 + 3); have f4 := HUF.out w2 (HRW.out w2 hbl2) (9 + n * 5 + 4); have k1 := cell_below (a := ⟨w.heap.size, 1, none⟩) hb2 (by with_reducible assumption); have k2 := cell_below (a := ⟨w.heap.size, 2, none⟩) hb2 (by with_reducible assumption); have k5 := cell_below (a := ⟨w.heap.size, 5, none⟩) hb2 (by with_reducible assumption)))
  go_wp2
  go_ret
  have HF : Hid (turns R ⟨4, p, n, q, nm, ss⟩ (.slice ca ss.length cc) = ([], R.setSrc n ⟨true, n, p, .slice ca ss.length cc, ss, false⟩)) := rfl
  exact turnsPost_mk HF (Row.nil _ _) ((HRW.out w2 hbl2).setSrc hn9 ⟨true, n, p, .slice ca ss.length cc, ss, false⟩ HCR.out) (((((hfr2.setAt _ _).setAt _ _).setAt _ _).setAt _ _).setAt _ _)
end
end Go.Proofs.Rm
namespace Go.Proofs.Rm
open Go.RowKit Go.Proofs.Heap Go.Proofs.Mem
section
variable (b : Nat) (R : Room) (p n q : Int) (nm : List UInt8) (ss : List Int) (sa ba : Option Addr) (sl sc bl bc : Nat) (w : World) (hR : RoomAt w b R)
include hR
set_option maxRecDepth 100000 in
set_option maxHeartbeats 4000000 in
theorem turns_resume (hp : 1 ≤ p ∧ p < 9) (hn : 1 ≤ n ∧ n < 9) (hw : 0 ≤ (R.sub n.toNat p.toNat).want ∧ (R.sub n.toNat p.toNat).want < (R.src n.toNat).ss.length) :
    Calls Tryd.prog 35 #[.pointer (some ⟨b, 0, none⟩), .agg #[.int .i64 11, .int .i64 p, .int .i64 n, .int .i64 q, .string (str nm), .slice sa sl sc, .slice ba bl bc]] w (TurnsPost b R ⟨11, p, n, q, nm, ss⟩ w) := by
  obtain ⟨p, rfl⟩ := Int.eq_ofNat_of_zero_le (show 0 ≤ p by omega)
  have hp9 : p < 9 := by omega
  obtain ⟨n, rfl⟩ := Int.eq_ofNat_of_zero_le (show 0 ≤ n by omega)
  have hn9 : n < 9 := by omega
  have hb := hR.lt
  obtain ⟨c0, c1, c2⟩ := hR.subc hn9 hp9
  have fz := hR.unfrozen (54 + n * 27 + p * 3 + 1)
  have HF : Hid (turns R ⟨11, p, n, q, nm, ss⟩ (.slice none 0 0) = (⟨5, p, n, 0, 0⟩ :: waits (R.setSub n p { R.sub n p with paused := false }) p n, R.setSub n p { R.sub n p with paused := false })) := rfl
  have HR1 := Lib.hid (hR.setSubCell hn9 hp9 (i := 1) (by omega) (x := { R.sub n p with paused := false }) (v := .bool false) (subCell_paused _ _))
  have HFR : Hid (Fr w.heap.size (· = b) w (w.setCell ⟨b, 54 + n * 27 + p * 3 + 1, none⟩ (.bool false))) := (Fr.refl _ _ _).setAt _ _
  have CW : Hid (∀ w1, RoomAt w1 b (R.setSub n p { R.sub n p with paused := false }) → Calls Tryd.prog 59 #[.pointer (some ⟨b, 0, none⟩), .int .i64 p, .int .i64 n] w1 fun e w' => (∃ v, e = .returned v ∧ TurnRow w' v (waits (R.setSub n p { R.sub n p with paused := false }) p n)) ∧ Below w1.heap.size w1 w') :=
    fun w1 h => waits_any b _ p n w1 h hn9 hp9 (by rw [sub_setSub]; exact hw)
  have HWL : (waits (R.setSub n p { R.sub n p with paused := false }) p n).length ≤ 1 := by unfold waits; split <;> simp
  clear hR hw
  have HTX : Hid (∀ B1 B2 : Obj, TX b (R.setSub n p { R.sub n p with paused := false }) w (((w.setCell ⟨b, 54 + n * 27 + p * 3 + 1, none⟩ (.bool false)).alloc B1).alloc B2).drew) := fun B1 B2 => ⟨((HR1.out.alloc _).alloc _).drew, ((HFR.out.alloc (by simp) _).alloc (by simp) _).drew, by simp⟩
  generalize waits (R.setSub n p { R.sub n p with paused := false }) p n = W at *
  generalize R.setSub n p { R.sub n p with paused := false } = R1 at *
  go_enter Tryd.func35, Tryd.ntmps35
  go_wp2
  go_region
  go_wp2
  have htx := HTX.out
  go_region_held3 (fun w' => w'.cell? ⟨w.heap.size + 1, 0, none⟩ = some (.int .i64 5) ∧ w'.cell? ⟨w.heap.size + 1, 1, none⟩ = some (.int .i64 p) ∧ w'.cell? ⟨w.heap.size + 1, 2, none⟩ = some (.int .i64 n) ∧ w'.cell? ⟨w.heap.size + 1, 3, none⟩ = some (.int .i64 0) ∧ w'.cell? ⟨w.heap.size + 1, 4, none⟩ = some (.int .u32 0) ∧ w'.cell? ⟨w.heap.size, 1, none⟩ = some (.int .i64 p) ∧ w'.cell? ⟨w.heap.size, 2, none⟩ = some (.int .i64 n) ∧ TX b R1 w w') ((go_split_ands; ((repeat' apply And.intro) <;> first | with_reducible assumption | ((with_reducible apply cell_drew); with_reducible assumption) | (with_reducible apply TX.drew; with_reducible assumption) | (with_reducible apply TX.drew; with_reducible apply htx) | (with_reducible apply cell_alloc; with_reducible assumption) | (with_reducible apply cell_alloc2; with_reducible assumption) | (with_reducible apply cell_alloc3; with_reducible assumption) | (with_reducible apply TX.alloc; with_reducible assumption) | (with_reducible apply TX.alloc2; with_reducible assumption) | (with_reducible apply TX.alloc3; with_reducible assumption) | ((with_reducible apply cell_drew); (with_reducible apply cell_drew); (with_reducible refine (cell_new2 (size_setCell _ _ _) _ _ _ _).trans ?_); rfl) | ((with_reducible apply cell_drew); (with_reducible apply cell_drew); (with_reducible refine (cell_new1 (size_setCell _ _ _) _ _ _ _).trans ?_); rfl) | go_keep))) (first | (go_at_call 59; go_split_ands; refine Calls.mono (CW.out _ (TX.room (by with_reducible assumption))) ?_; rintro e w2 ⟨⟨tv, rfl, htr⟩, hb2⟩; have HTR := Lib.hid htr; clear htr; have k0 := cell_below (a := ⟨w.heap.size + 1, 0, none⟩) hb2 (by with_reducible assumption); have k1 := cell_below (a := ⟨w.heap.size + 1, 1, none⟩) hb2 (by with_reducible assumption); have k2 := cell_below (a := ⟨w.heap.size + 1, 2, none⟩) hb2 (by with_reducible assumption); have k3 := cell_below (a := ⟨w.heap.size + 1, 3, none⟩) hb2 (by with_reducible assumption); have k4 := cell_below (a := ⟨w.heap.size + 1, 4, none⟩) hb2 (by with_reducible assumption); have k5 := cell_below (a := ⟨w.heap.size, 1, none⟩) hb2 (by with_reducible assumption); have k6 := cell_below (a := ⟨w.heap.size, 2, none⟩) hb2 (by with_reducible assumption); have tx2 := TX.below (by with_reducible assumption) hb2) | (go_split_ands; refine step_app (by rfl) (.tmp 105) (.tmp 111) 33 (by rfl) (w.heap.size + 2) elemTurn _ 1 ([Turn.mk 5 p n 0 0].flatMap turnCells) (by rfl) ?_ _ W.length (W.flatMap turnCells) (by rfl) ?_ (turns_len _) (turns_one _) (by omega) (by omega) ?_ ?_; (first | exact owns_newB _ _ 5 1 _ _ ([Turn.mk 5 p n 0 0].flatMap turnCells) rfl (by decide) rfl (by have := tx2.size; omega) | (exact owns_below (by repeat (first | exact owns_new _ _ 5 1 _ ([Turn.mk 5 p n 0 0].flatMap turnCells) rfl (by decide) (by simp) | refine owns_drew ?_)) hb2)); (first | exact HTR.out | exact HTR.out.below (below_alloc _ _)); (have hs := TX.size (by with_reducible assumption); omega); intro v' w3 HO HG; obtain ⟨tx3, hcg⟩ := TX.grownAll (by with_reducible assumption) hb (by first | exact owns_newB _ _ 5 1 _ _ ([Turn.mk 5 p n 0 0].flatMap turnCells) rfl (by decide) rfl (by have := tx2.size; omega) | (exact owns_below (by repeat (first | exact owns_new _ _ 5 1 _ ([Turn.mk 5 p n 0 0].flatMap turnCells) rfl (by decide) (by simp) | refine owns_drew ?_)) hb2)) HG; have g0 := hcg ⟨w.heap.size + 1, 0, none⟩ _ (by simp) (by with_reducible assumption); have g1 := hcg ⟨w.heap.size + 1, 1, none⟩ _ (by simp) (by with_reducible assumption); have g2 := hcg ⟨w.heap.size + 1, 2, none⟩ _ (by simp) (by with_reducible assumption); have g3 := hcg ⟨w.heap.size + 1, 3, none⟩ _ (by simp) (by with_reducible assumption); have g4 := hcg ⟨w.heap.size + 1, 4, none⟩ _ (by simp) (by with_reducible assumption); have g5 := hcg ⟨w.heap.size, 1, none⟩ _ (by simp) (by with_reducible assumption); have g6 := hcg ⟨w.heap.size, 2, none⟩ _ (by simp) (by with_reducible assumption); clear hcg))
  all_goals
    go_wp2
    go_ret
    have hrow := Row.of_owns HO.out
    rw [Nat.add_comm] at hrow
    exact turnsPost_mk HF hrow tx3.room tx3.fr
end
end Go.Proofs.Rm
namespace Go.Proofs.Rm
open Go.RowKit Go.Proofs.Heap Go.Proofs.Mem
section
variable (b : Nat) (R : Room) (p n q : Int) (nm : List UInt8) (ss : List Int) (sa ba : Option Addr) (sl sc bl bc : Nat) (w : World) (hR : RoomAt w b R)
include hR
set_option maxRecDepth 100000 in
set_option maxHeartbeats 4000000 in
theorem turns_switch (hp : 1 ≤ p ∧ p < 9) (hn : 1 ≤ n ∧ n < 9) (hw : 0 ≤ q ∧ q < (R.src n.toNat).ss.length) :
    Calls Tryd.prog 35 #[.pointer (some ⟨b, 0, none⟩), .agg #[.int .i64 12, .int .i64 p, .int .i64 n, .int .i64 q, .string (str nm), .slice sa sl sc, .slice ba bl bc]] w (TurnsPost b R ⟨12, p, n, q, nm, ss⟩ w) := by
  obtain ⟨p, rfl⟩ := Int.eq_ofNat_of_zero_le (show 0 ≤ p by omega)
  have hp9 : p < 9 := by omega
  obtain ⟨n, rfl⟩ := Int.eq_ofNat_of_zero_le (show 0 ≤ n by omega)
  have hn9 : n < 9 := by omega
  have hb := hR.lt
  obtain ⟨c0, c1, c2⟩ := hR.subc hn9 hp9
  have fz := hR.unfrozen (54 + n * 27 + p * 3 + 2)
  have HF : Hid (turns R ⟨12, p, n, q, nm, ss⟩ (.slice none 0 0) = (⟨8, p, n, q, 0⟩ :: waits (R.setSub n p { R.sub n p with want := q }) p n, R.setSub n p { R.sub n p with want := q })) := rfl
  have HR1 := Lib.hid (hR.setSubCell hn9 hp9 (i := 2) (by omega) (x := { R.sub n p with want := q }) (v := .int .i64 q) (subCell_want _ _))
  have HFR : Hid (Fr w.heap.size (· = b) w (w.setCell ⟨b, 54 + n * 27 + p * 3 + 2, none⟩ (.int .i64 q))) := (Fr.refl _ _ _).setAt _ _
  have CW : Hid (∀ w1, RoomAt w1 b (R.setSub n p { R.sub n p with want := q }) → Calls Tryd.prog 59 #[.pointer (some ⟨b, 0, none⟩), .int .i64 p, .int .i64 n] w1 fun e w' => (∃ v, e = .returned v ∧ TurnRow w' v (waits (R.setSub n p { R.sub n p with want := q }) p n)) ∧ Below w1.heap.size w1 w') :=
    fun w1 h => waits_any b _ p n w1 h hn9 hp9 (by rw [sub_setSub]; exact hw)
  have HWL : (waits (R.setSub n p { R.sub n p with want := q }) p n).length ≤ 1 := by unfold waits; split <;> simp
  clear hR hw
  have HTX : Hid (∀ B1 B2 : Obj, TX b (R.setSub n p { R.sub n p with want := q }) w (((w.setCell ⟨b, 54 + n * 27 + p * 3 + 2, none⟩ (.int .i64 q)).alloc B1).alloc B2).drew.drew) := fun B1 B2 => ⟨((HR1.out.alloc _).alloc _).drew.drew, ((HFR.out.alloc (by simp) _).alloc (by simp) _).drew.drew, by simp⟩
  generalize waits (R.setSub n p { R.sub n p with want := q }) p n = W at *
  generalize R.setSub n p { R.sub n p with want := q } = R1 at *
  go_enter Tryd.func35, Tryd.ntmps35
  go_wp2
  go_region
  go_wp2
  go_region
  go_wp2
  have htx := HTX.out
  go_region_held3 (fun w' => w'.cell? ⟨w.heap.size + 1, 0, none⟩ = some (.int .i64 8) ∧ w'.cell? ⟨w.heap.size + 1, 1, none⟩ = some (.int .i64 p) ∧ w'.cell? ⟨w.heap.size + 1, 2, none⟩ = some (.int .i64 n) ∧ w'.cell? ⟨w.heap.size + 1, 3, none⟩ = some (.int .i64 q) ∧ w'.cell? ⟨w.heap.size + 1, 4, none⟩ = some (.int .u32 0) ∧ w'.cell? ⟨w.heap.size, 1, none⟩ = some (.int .i64 p) ∧ w'.cell? ⟨w.heap.size, 2, none⟩ = some (.int .i64 n) ∧ TX b R1 w w') ((go_split_ands; ((repeat' apply And.intro) <;> first | with_reducible assumption | ((with_reducible apply cell_drew); with_reducible assumption) | (with_reducible apply TX.drew; with_reducible assumption) | (with_reducible apply TX.drew; with_reducible apply htx) | (with_reducible apply cell_alloc; with_reducible assumption) | (with_reducible apply cell_alloc2; with_reducible assumption) | (with_reducible apply cell_alloc3; with_reducible assumption) | (with_reducible apply TX.alloc; with_reducible assumption) | (with_reducible apply TX.alloc2; with_reducible assumption) | (with_reducible apply TX.alloc3; with_reducible assumption) | ((with_reducible apply cell_drew); (with_reducible apply cell_drew); (with_reducible apply cell_drew); (with_reducible refine (cell_new2 (size_setCell _ _ _) _ _ _ _).trans ?_); rfl) | ((with_reducible apply cell_drew); (with_reducible apply cell_drew); (with_reducible apply cell_drew); (with_reducible refine (cell_new1 (size_setCell _ _ _) _ _ _ _).trans ?_); rfl) | go_keep))) (first | (go_at_call 59; go_split_ands; refine Calls.mono (CW.out _ (TX.room (by with_reducible assumption))) ?_; rintro e w2 ⟨⟨tv, rfl, htr⟩, hb2⟩; have HTR := Lib.hid htr; clear htr; have k0 := cell_below (a := ⟨w.heap.size + 1, 0, none⟩) hb2 (by with_reducible assumption); have k1 := cell_below (a := ⟨w.heap.size + 1, 1, none⟩) hb2 (by with_reducible assumption); have k2 := cell_below (a := ⟨w.heap.size + 1, 2, none⟩) hb2 (by with_reducible assumption); have k3 := cell_below (a := ⟨w.heap.size + 1, 3, none⟩) hb2 (by with_reducible assumption); have k4 := cell_below (a := ⟨w.heap.size + 1, 4, none⟩) hb2 (by with_reducible assumption); have k5 := cell_below (a := ⟨w.heap.size, 1, none⟩) hb2 (by with_reducible assumption); have k6 := cell_below (a := ⟨w.heap.size, 2, none⟩) hb2 (by with_reducible assumption); have tx2 := TX.below (by with_reducible assumption) hb2) | (go_split_ands; refine step_app (by rfl) (.tmp 132) (.tmp 138) 33 (by rfl) (w.heap.size + 2) elemTurn _ 1 ([Turn.mk 8 p n q 0].flatMap turnCells) (by rfl) ?_ _ W.length (W.flatMap turnCells) (by rfl) ?_ (turns_len _) (turns_one _) (by omega) (by omega) ?_ ?_; (first | exact owns_newB _ _ 5 1 _ _ ([Turn.mk 8 p n q 0].flatMap turnCells) rfl (by decide) rfl (by have := tx2.size; omega) | (exact owns_below (by repeat (first | exact owns_new _ _ 5 1 _ ([Turn.mk 8 p n q 0].flatMap turnCells) rfl (by decide) (by simp) | refine owns_drew ?_)) hb2)); (first | exact HTR.out | exact HTR.out.below (below_alloc _ _)); (have hs := TX.size (by with_reducible assumption); omega); intro v' w3 HO HG; obtain ⟨tx3, hcg⟩ := TX.grownAll (by with_reducible assumption) hb (by first | exact owns_newB _ _ 5 1 _ _ ([Turn.mk 8 p n q 0].flatMap turnCells) rfl (by decide) rfl (by have := tx2.size; omega) | (exact owns_below (by repeat (first | exact owns_new _ _ 5 1 _ ([Turn.mk 8 p n q 0].flatMap turnCells) rfl (by decide) (by simp) | refine owns_drew ?_)) hb2)) HG; have g0 := hcg ⟨w.heap.size + 1, 0, none⟩ _ (by simp) (by with_reducible assumption); have g1 := hcg ⟨w.heap.size + 1, 1, none⟩ _ (by simp) (by with_reducible assumption); have g2 := hcg ⟨w.heap.size + 1, 2, none⟩ _ (by simp) (by with_reducible assumption); have g3 := hcg ⟨w.heap.size + 1, 3, none⟩ _ (by simp) (by with_reducible assumption); have g4 := hcg ⟨w.heap.size + 1, 4, none⟩ _ (by simp) (by with_reducible assumption); have g5 := hcg ⟨w.heap.size, 1, none⟩ _ (by simp) (by with_reducible assumption); have g6 := hcg ⟨w.heap.size, 2, none⟩ _ (by simp) (by with_reducible assumption); clear hcg))
  all_goals
    go_wp2
    go_ret
    have hrow := Row.of_owns HO.out
    rw [Nat.add_comm] at hrow
    exact turnsPost_mk HF hrow tx3.room tx3.fr
end
end Go.Proofs.Rm
namespace Go.Proofs.Rm
open Go.RowKit Go.Proofs.Heap Go.Proofs.Mem
open Go.Proofs.Lab (may key Tabs)
theorem turns_any (b : Nat) (R : Room) (o : Op) (sa ba : Option Addr) (sc bl bc : Nat) (w : World) (hR : RoomAt w b R) (hI : Inv R) (ok : Ok R o)
    (hrow : RRow w (.slice sa o.ssrcs.length sc) o.ssrcs.length (u32s o.ssrcs)) :
    Calls Tryd.prog 35 #[.pointer (some ⟨b, 0, none⟩), .agg #[.int .i64 o.kind, .int .i64 o.peer, .int .i64 o.source, .int .i64 o.layer, .string (str o.name), .slice sa o.ssrcs.length sc, .slice ba bl bc]] w (TurnsPost b R o w) := by
  have hok := ok
  obtain ⟨kd, p, n, q, nm, ss⟩ := o
  obtain ⟨hk, hp, hj, ht, hs, hpub, his, habt⟩ := ok
  dsimp only at *
  by_cases k2 : kd = 2
  · subst k2; exact turns_join b R p n q nm ss sa ba _ sc bl bc w hR hp
  by_cases k3 : kd = 3
  · subst k3; exact turns_leave b R p n q nm ss sa ba _ sc bl bc w hR hp
  have hn := hs (by omega)
  by_cases k4 : kd = 4
  · subst k4
    have h2 := (pub_ok (hpub rfl)).2.1
    dsimp only at h2
    exact turns_publish b R p n q nm ss sa ba _ sc bl bc w hR hp hn hrow (by omega)
  have habt := habt (by omega)
  have hb := fun q => hI.subAt n.toNat q
  by_cases k5 : kd = 5
  · subst k5; exact turns_unpublish b R p n q nm ss sa ba _ sc bl bc w hR hn
  by_cases k6 : kd = 6
  · subst k6; exact turns_subscribe b R p n q nm ss sa ba _ sc bl bc w hR hp hn (layer_ok (about_sub habt rfl).2.2)
  by_cases k7 : kd = 7
  · subst k7; exact turns_unsubscribe b R p n q nm ss sa ba _ sc bl bc w hR hp hn
  by_cases k8 : kd = 8
  · subst k8; exact turns_mute b R p n q nm ss sa ba _ sc bl bc w hR hn
  by_cases k9 : kd = 9
  · subst k9; exact turns_unmute b R p n q nm ss sa ba _ sc bl bc w hR hn fun p' _ ht => ⟨(hb p' ht).2.2.2.2.2.2.2.1, (hb p' ht).2.2.2.2.2.2.2.2⟩
  obtain ⟨h1, _, _, h4⟩ := about_hear habt (by right; show 10 ≤ kd; omega)
  dsimp only at h1 h4
  by_cases k10 : kd = 10
  · subst k10; exact turns_pause b R p n q nm ss sa ba _ sc bl bc w hR hp hn
  by_cases k11 : kd = 11
  · subst k11; exact turns_resume b R p n q nm ss sa ba _ sc bl bc w hR hp hn ⟨(hb _ h1).2.2.2.2.2.2.2.1, (hb _ h1).2.2.2.2.2.2.2.2⟩
  obtain rfl : kd = 12 := by omega
  exact turns_switch b R p n q nm ss sa ba _ sc bl bc w hR hp hn (layer_ok (h4 rfl).1)
/-- What 'Do' leaves. -/
def DoPost (b : Nat) (R : Room) (o : Op) (w : World) (e : Ending) (w' : World) : Prop :=
  ∃ v sv, e = .returned (.tuple #[v, .int .i64 (doo R o sv).2]) ∧ TurnRow w' v (doo R o sv).1.1 ∧ RoomAt w' b (doo R o sv).1.2 ∧ Fr w.heap.size (· = b) w w'
theorem doPost_wrong {b : Nat} {R : Room} {o : Op} {w w' : World} {x : Int} (hx : Hid (wrong R o = x)) (hne : x ≠ 0) (h2 : RoomAt w' b R) (h3 : Fr w.heap.size (· = b) w w') : DoPost b R o w (.returned (.tuple #[.slice none 0 0, .int .i64 x])) w' := by
  have h : ∀ sv, doo R o sv = (([], R), x) := fun sv => by unfold doo; rw [hx.out, if_pos hne]
  exact ⟨.slice none 0 0, .slice none 0 0, by rw [h], by rw [h]; exact Row.nil _ _, by rw [h]; exact h2, h3⟩
theorem doPost_right {b : Nat} {R : Room} {o : Op} {w w1 w' : World} {v : Value} (hx : Hid (wrong R o = 0)) (hb : Below w.heap.size w w1) (h : TurnsPost b R o w1 (.returned v) w') : DoPost b R o w (.returned (.tuple #[v, .int .i64 0])) w' := by
  obtain ⟨v', sv, he, h1, h2, h3⟩ := h
  injection he with he
  subst he
  have hd : doo R o sv = (turns R o sv, 0) := by unfold doo; rw [hx.out]; simp
  exact ⟨v, sv, by rw [hd], by rw [hd]; exact h1, by rw [hd]; exact h2, (Fr.of_below _ hb).trans (h3.mono hb.size (fun _ _ h => h))⟩
theorem turnsPost_val {b : Nat} {R : Room} {o : Op} {w w' : World} {e : Ending} (h : TurnsPost b R o w e w') : ∃ v, e = .returned v ∧ TurnsPost b R o w (.returned v) w' := by
  obtain ⟨v, sv, he, h1⟩ := h
  exact ⟨v, he, v, sv, rfl, h1⟩
theorem names_short {R : Room} (hI : Inv R) : ∀ p, (R.names p).length < 9223372036854775807 := by
  intro p
  by_cases h : R.names p = []
  · rw [h]; decide
  · have := Lab.may_len (hI.nameAt p h).2
    omega
set_option maxHeartbeats 2000000 in
theorem Do_any (b : Nat) (R : Room) (o : Op) (sa ba : Option Addr) (sc bl bc : Nat) (w : World) (hR : RoomAt w b R) (hI : Inv R) (hT : Tabs w) (hnm : o.name.length < 9223372036854775807)
    (hrow : RRow w (.slice sa o.ssrcs.length sc) o.ssrcs.length (u32s o.ssrcs)) :
    Calls Tryd.prog 12 #[.pointer (some ⟨b, 0, none⟩), .agg #[.int .i64 o.kind, .int .i64 o.peer, .int .i64 o.source, .int .i64 o.layer, .string (str o.name), .slice sa o.ssrcs.length sc, .slice ba bl bc]] w (DoPost b R o w) := by
  have CW := Lib.hid (fun (w1 : World) (h : Below w.heap.size w w1) => wrong_any b R o sa ba sc bl bc w1 (hR.below h) (Utf8Tabs_below hT h) hnm (names_short hI) (hrow.below h))
  have CT := Lib.hid (fun (w1 : World) (h : Below w.heap.size w w1) (ok : wrong R o = 0) => turns_any b R o sa ba sc bl bc w1 (hR.below h) hI (wrong_ok ok) (hrow.below h))
  have hb := hR.lt
  have HRB : Hid (∀ w1, Below w.heap.size w w1 → RoomAt w1 b R) := fun w1 h => hR.below h
  have HDW := Lib.hid (fun (w' : World) x => @doPost_wrong b R o w w' x)
  have HDR := Lib.hid (fun (w1 w' : World) v => @doPost_right b R o w w1 w' v)
  have HTV := Lib.hid (fun (w1 w' : World) e => @turnsPost_val b R o w1 w' e)
  clear hR hI hT hnm hrow
  obtain ⟨kd, p, n, q, nm, ss⟩ := o
  dsimp only at *
  generalize DoPost b R ⟨kd, p, n, q, nm, ss⟩ w = DP at *
  generalize hwx : wrong R ⟨kd, p, n, q, nm, ss⟩ = x at *
  have HX := Lib.hid hwx
  clear hwx
  by_cases hx : x = 0
  · subst hx
    go_enter Tryd.func12, Tryd.ntmps12
    go_wp2_with fail
    refine (CW.out _ (below_alloc _ _)).mono ?_
    rintro e w1 ⟨rfl, hb1⟩
    have c0 := cell_below (a := ⟨w.heap.size, 0, none⟩) hb1 (v := .int .i64 kd) (by simp)
    have c1 := cell_below (a := ⟨w.heap.size, 1, none⟩) hb1 (v := .int .i64 p) (by simp)
    have c2 := cell_below (a := ⟨w.heap.size, 2, none⟩) hb1 (v := .int .i64 n) (by simp)
    have c3 := cell_below (a := ⟨w.heap.size, 3, none⟩) hb1 (v := .int .i64 q) (by simp)
    have c4 := cell_below (a := ⟨w.heap.size, 4, none⟩) hb1 (v := .string (str nm)) (by simp)
    have c5 := cell_below (a := ⟨w.heap.size, 5, none⟩) hb1 (v := .slice sa ss.length sc) (by simp)
    have c6 := cell_below (a := ⟨w.heap.size, 6, none⟩) hb1 (v := .slice ba bl bc) (by simp)
    have hbl : Below w.heap.size w w1 := (below_alloc _ _).trans (hb1.mono (by simp))
    clear hb1
    go_wp2_with fail
    refine (CT.out _ hbl trivial).mono ?_
    intro e w2 hp
    obtain ⟨tv, rfl, hp⟩ := HTV.out _ _ _ hp
    have HP := Lib.hid hp
    clear hp
    go_wp2_with fail

    exact HDR.out _ _ _ (by first | exact rfl | exact trivial) hbl HP.out
  · have hbq : (x != 0) = true := by rw [bne_iff_ne]; exact hx
    have HXN := Lib.hid hx
    clear hx
    go_enter Tryd.func12, Tryd.ntmps12
    go_wp2_with fail
    refine (CW.out _ (below_alloc _ _)).mono ?_
    rintro e w1 ⟨rfl, hb1⟩
    have hbl : Below w.heap.size w w1 := (below_alloc _ _).trans (hb1.mono (by simp))
    clear hb1
    go_wp2_with fail

    exact HDW.out _ _ (by first | exact rfl | exact trivial) HXN.out (HRB.out _ hbl) (Fr.of_below _ hbl)
end Go.Proofs.Rm
