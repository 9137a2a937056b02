/- Several texts in one: The walks of the reference's room: Do, the kinds that call on. Append to a slice of the call's own at a step of a region that draws its order; what is appended may lie anywhere. Over any program. -/
import Derived.Test.YthlamfoldfeocaaDoorP04
import Derived.Test.YthlamfoldfeocaaDoorP10
import Derived.Test.YthlamfoldfeocaaDoorP12
namespace Go.Proofs.Rm
open Go.RowKit Go.Proofs.Heap Go.Proofs.Mem
open Go.Proofs.Lab (may key Tabs)
/-- What the reference's Do asks of an operation that it lets in. -/
structure ROk (T : Tab) (o : Op) : Prop where
  kind : 2 ≤ o.kind ∧ o.kind ≤ 12
  peer : 1 ≤ o.peer
  ssl : o.kind = 4 → o.ssrcs.length ≤ 3
  leave : o.kind = 3 → 0 ≤ T.peerAt o.peer
  src : 5 ≤ o.kind → 0 ≤ T.srcAt o.source
  layer : o.kind = 6 → 0 ≤ o.layer ∧ o.layer < (T.srcD o.source).ss.length
  sub : o.kind = 7 ∨ 10 ≤ o.kind → 0 ≤ T.subAt o.peer o.source
  unmute : o.kind = 9 → ∀ x ∈ (T.setMuted o.source false).subs, x.source = o.source → 0 ≤ (T.setMuted o.source false).srcAt o.source ∧ 0 ≤ x.want ∧ x.want < ((T.setMuted o.source false).srcD o.source).ss.length
  change : ∀ k, (o.kind = 10 ∧ k = 4 ∨ o.kind = 11 ∧ k = 5 ∨ o.kind = 12 ∧ k = 8) → 0 ≤ (T.changed o k).want ∧ (T.changed o k).want < (T.srcD o.source).ss.length
/-- What Do leaves. -/
def RDoPost (b : Nat) (T : Tab) (o : Op) (w : World) (e : Ending) (w' : World) : Prop :=
  (∃ v, e = .returned (.tuple #[v, .int .i64 (T.doo o).2]) ∧ TurnRow w' v (T.doo o).1.1) ∧ RefAt w' b (T.doo o).1.2 ∧ Fr w.heap.size (· = b) w w'
theorem rdoPost_mk {b : Nat} {T T' : Tab} {o : Op} {w w' : World} {v : Value} {l : List Turn} {c : Int} (h : Hid (T.doo o = ((l, T'), c))) (h1 : TurnRow w' v l) (h2 : RefAt w' b T') (h3 : Fr w.heap.size (· = b) w w') : RDoPost b T o w (.returned (.tuple #[v, .int .i64 c])) w' := by
  unfold RDoPost
  rw [h.out]
  exact ⟨⟨v, rfl, h1⟩, h2, h3⟩
set_option maxRecDepth 100000 in
set_option maxHeartbeats 4000000 in
theorem rdo_err (b : Nat) (T : Tab) (o : Op) (sa ba : Option Addr) (sc bl bc : Nat) (w : World) (hR : RefAt w b T) (hsm : T.Small) (hT : Tabs w) (hnm : o.name.length < 9223372036854775807) (hpn : ∀ x ∈ T.peers, x.name.length < 9223372036854775807)
    (hrow : RRow w (.slice sa o.ssrcs.length sc) o.ssrcs.length (u32s o.ssrcs)) (hw : T.wrong o ≠ 0) :
    Calls Tryd.prog 13 #[.pointer (some ⟨b, 0, none⟩), .agg #[.int .i64 o.kind, .int .i64 o.peer, .int .i64 o.source, .int .i64 o.layer, .string (str o.name), .slice sa o.ssrcs.length sc, .slice ba bl bc]] w (RDoPost b T o w) := by
  have cw := rwrong_any b T o sa ba sc bl bc (w.alloc (.cells #[.int .i64 o.kind, .int .i64 o.peer, .int .i64 o.source, .int .i64 o.layer, .string (str o.name), .slice sa o.ssrcs.length sc, .slice ba bl bc] 40)) (hR.below (below_alloc _ _)) (Utf8Tabs_below hT (below_alloc _ _)) hnm hpn (hrow.below (below_alloc _ _))
  have hb := hR.lt
  have HROWS := Lib.hid hrow
  have HR := Lib.hid hR
  have HSM := Lib.hid hsm
  have HF : Hid (T.doo o = (([], T), T.wrong o)) := by show _ = _; unfold Tab.doo; rw [if_pos hw]
  have CW := Lib.hid cw
  have hbn : (T.wrong o != 0) = true := by rw [bne_iff_ne]; exact hw
  have hbq : (T.wrong o == 0) = false := by rw [beq_eq_false_iff_ne]; exact hw
  obtain ⟨kd, p, n, la, nm, ss⟩ := o
  dsimp only at *
  clear hR hsm hT hnm hpn hrow cw hw
  generalize T.wrong ⟨kd, p, n, la, nm, ss⟩ = wv at *
  have HBX := Lib.hid (heap_new w (.cells #[.int .i64 kd, .int .i64 p, .int .i64 n, .int .i64 la, .string (str nm), .slice sa ss.length sc, .slice ba bl bc] 40))
  have HS0 := World.size_alloc w (.cells #[.int .i64 kd, .int .i64 p, .int .i64 n, .int .i64 la, .string (str nm), .slice sa ss.length sc, .slice ba bl bc] 40)
  have HBL0 : Hid (Below w.heap.size w (w.alloc (.cells #[.int .i64 kd, .int .i64 p, .int .i64 n, .int .i64 la, .string (str nm), .slice sa ss.length sc, .slice ba bl bc] 40))) := below_alloc _ _
  go_enter Tryd.func13, Tryd.ntmps13
  go_wp2_with fail
  (with_reducible refine CW.out.mono ?_)
  rintro e w1 ⟨rfl, hb1⟩
  have HB1 : Hid (Below w.heap.size w w1) := HBL0.out.trans (hb1.mono (by omega))
  have hsz1 : w.heap.size < w1.heap.size := by have := hb1.size; omega
  have hbx := fun (j : Nat) => (hb1.cell (p := ⟨w.heap.size, j, none⟩) (by dsimp only; omega)).trans (cell_of HBX.out j)
  have x0 : w1.cell? ⟨w.heap.size, 0, none⟩ = some (.int .i64 kd) := hbx 0
  have x1 : w1.cell? ⟨w.heap.size, 1, none⟩ = some (.int .i64 p) := hbx 1
  have x2 : w1.cell? ⟨w.heap.size, 2, none⟩ = some (.int .i64 n) := hbx 2
  have x3 : w1.cell? ⟨w.heap.size, 3, none⟩ = some (.int .i64 la) := hbx 3
  have x4 : w1.cell? ⟨w.heap.size, 4, none⟩ = some (.string (str nm)) := hbx 4
  have x5 : w1.cell? ⟨w.heap.size, 5, none⟩ = some (.slice sa ss.length sc) := hbx 5
  have x6 : w1.cell? ⟨w.heap.size, 6, none⟩ = some (.slice ba bl bc) := hbx 6
  clear hb1 hbx
  go_wp2
  go_ret2
  exact rdoPost_mk HF (Row.nil _ _) (HR.out.below HB1.out) (Fr.of_below _ HB1.out)
set_option maxRecDepth 100000 in
set_option maxHeartbeats 4000000 in
theorem rdo_leave (b : Nat) (T : Tab) (o : Op) (sa ba : Option Addr) (sc bl bc : Nat) (w : World) (hR : RefAt w b T) (hsm : T.Small) (hT : Tabs w) (hnm : o.name.length < 9223372036854775807) (hpn : ∀ x ∈ T.peers, x.name.length < 9223372036854775807)
    (hrow : RRow w (.slice sa o.ssrcs.length sc) o.ssrcs.length (u32s o.ssrcs)) (hw : T.wrong o = 0) (hok : ROk T o) (hk : o.kind = 3) :
    Calls Tryd.prog 13 #[.pointer (some ⟨b, 0, none⟩), .agg #[.int .i64 o.kind, .int .i64 o.peer, .int .i64 o.source, .int .i64 o.layer, .string (str o.name), .slice sa o.ssrcs.length sc, .slice ba bl bc]] w (RDoPost b T o w) := by
  have cw := rwrong_any b T o sa ba sc bl bc (w.alloc (.cells #[.int .i64 o.kind, .int .i64 o.peer, .int .i64 o.source, .int .i64 o.layer, .string (str o.name), .slice sa o.ssrcs.length sc, .slice ba bl bc] 40)) (hR.below (below_alloc _ _)) (Utf8Tabs_below hT (below_alloc _ _)) hnm hpn (hrow.below (below_alloc _ _))
  have hb := hR.lt
  have HROWS := Lib.hid hrow
  have HR := Lib.hid hR
  have HSM := Lib.hid hsm
  have HF : Hid (T.doo o = (T.leave o.peer, 0)) := by show _ = _; unfold Tab.doo Tab.turns; rw [if_neg (by rw [hw]; simp)]; simp [hk]
  rw [hw] at cw
  have CW := Lib.hid cw
  have HOK := Lib.hid hok
  obtain ⟨kd, p, n, la, nm, ss⟩ := o
  dsimp only at *
  subst hk
  have C := Lib.hid (fun (w1 : World) (h : RefAt w1 b T) => rleave_any b T p w1 h hsm hok.peer (hok.leave rfl))
  clear hR hsm hT hnm hpn hrow cw hw hok
  have HBX := Lib.hid (heap_new w (.cells #[.int .i64 3, .int .i64 p, .int .i64 n, .int .i64 la, .string (str nm), .slice sa ss.length sc, .slice ba bl bc] 40))
  have HS0 := World.size_alloc w (.cells #[.int .i64 3, .int .i64 p, .int .i64 n, .int .i64 la, .string (str nm), .slice sa ss.length sc, .slice ba bl bc] 40)
  have HBL0 : Hid (Below w.heap.size w (w.alloc (.cells #[.int .i64 3, .int .i64 p, .int .i64 n, .int .i64 la, .string (str nm), .slice sa ss.length sc, .slice ba bl bc] 40))) := below_alloc _ _
  go_enter Tryd.func13, Tryd.ntmps13
  go_wp2_with fail
  (with_reducible refine CW.out.mono ?_)
  rintro e w1 ⟨rfl, hb1⟩
  have HB1 : Hid (Below w.heap.size w w1) := HBL0.out.trans (hb1.mono (by omega))
  have hsz1 : w.heap.size < w1.heap.size := by have := hb1.size; omega
  have hbx := fun (j : Nat) => (hb1.cell (p := ⟨w.heap.size, j, none⟩) (by dsimp only; omega)).trans (cell_of HBX.out j)
  have x0 : w1.cell? ⟨w.heap.size, 0, none⟩ = some (.int .i64 3) := hbx 0
  have x1 : w1.cell? ⟨w.heap.size, 1, none⟩ = some (.int .i64 p) := hbx 1
  have x2 : w1.cell? ⟨w.heap.size, 2, none⟩ = some (.int .i64 n) := hbx 2
  have x3 : w1.cell? ⟨w.heap.size, 3, none⟩ = some (.int .i64 la) := hbx 3
  have x4 : w1.cell? ⟨w.heap.size, 4, none⟩ = some (.string (str nm)) := hbx 4
  have x5 : w1.cell? ⟨w.heap.size, 5, none⟩ = some (.slice sa ss.length sc) := hbx 5
  have x6 : w1.cell? ⟨w.heap.size, 6, none⟩ = some (.slice ba bl bc) := hbx 6
  clear hb1 hbx
  go_wp2_with (go_at_call 37; (with_reducible refine (C.out w1 (HR.out.below HB1.out)).mono ?_); rintro e w2 ⟨⟨tv, rfl, htr⟩, href, hfr⟩)
  go_ret2
  exact rdoPost_mk HF htr href ((Fr.of_below _ HB1.out).trans (hfr.mono (by omega) (fun _ _ h => h)))
set_option maxRecDepth 100000 in
set_option maxHeartbeats 4000000 in
theorem rdo_unpublish (b : Nat) (T : Tab) (o : Op) (sa ba : Option Addr) (sc bl bc : Nat) (w : World) (hR : RefAt w b T) (hsm : T.Small) (hT : Tabs w) (hnm : o.name.length < 9223372036854775807) (hpn : ∀ x ∈ T.peers, x.name.length < 9223372036854775807)
    (hrow : RRow w (.slice sa o.ssrcs.length sc) o.ssrcs.length (u32s o.ssrcs)) (hw : T.wrong o = 0) (hok : ROk T o) (hk : o.kind = 5) :
    Calls Tryd.prog 13 #[.pointer (some ⟨b, 0, none⟩), .agg #[.int .i64 o.kind, .int .i64 o.peer, .int .i64 o.source, .int .i64 o.layer, .string (str o.name), .slice sa o.ssrcs.length sc, .slice ba bl bc]] w (RDoPost b T o w) := by
  have cw := rwrong_any b T o sa ba sc bl bc (w.alloc (.cells #[.int .i64 o.kind, .int .i64 o.peer, .int .i64 o.source, .int .i64 o.layer, .string (str o.name), .slice sa o.ssrcs.length sc, .slice ba bl bc] 40)) (hR.below (below_alloc _ _)) (Utf8Tabs_below hT (below_alloc _ _)) hnm hpn (hrow.below (below_alloc _ _))
  have hb := hR.lt
  have HROWS := Lib.hid hrow
  have HR := Lib.hid hR
  have HSM := Lib.hid hsm
  have HF : Hid (T.doo o = (T.endSource o.source, 0)) := by show _ = _; unfold Tab.doo Tab.turns; rw [if_neg (by rw [hw]; simp)]; simp [hk]
  rw [hw] at cw
  have CW := Lib.hid cw
  have HOK := Lib.hid hok
  obtain ⟨kd, p, n, la, nm, ss⟩ := o
  dsimp only at *
  subst hk
  have C := Lib.hid (fun (w1 : World) (h : RefAt w1 b T) => endSource_any b T n w1 h hsm (hok.src (by simp)))
  clear hR hsm hT hnm hpn hrow cw hw hok
  have HBX := Lib.hid (heap_new w (.cells #[.int .i64 5, .int .i64 p, .int .i64 n, .int .i64 la, .string (str nm), .slice sa ss.length sc, .slice ba bl bc] 40))
  have HS0 := World.size_alloc w (.cells #[.int .i64 5, .int .i64 p, .int .i64 n, .int .i64 la, .string (str nm), .slice sa ss.length sc, .slice ba bl bc] 40)
  have HBL0 : Hid (Below w.heap.size w (w.alloc (.cells #[.int .i64 5, .int .i64 p, .int .i64 n, .int .i64 la, .string (str nm), .slice sa ss.length sc, .slice ba bl bc] 40))) := below_alloc _ _
  go_enter Tryd.func13, Tryd.ntmps13
  go_wp2_with fail
  (with_reducible refine CW.out.mono ?_)
  rintro e w1 ⟨rfl, hb1⟩
  have HB1 : Hid (Below w.heap.size w w1) := HBL0.out.trans (hb1.mono (by omega))
  have hsz1 : w.heap.size < w1.heap.size := by have := hb1.size; omega
  have hbx := fun (j : Nat) => (hb1.cell (p := ⟨w.heap.size, j, none⟩) (by dsimp only; omega)).trans (cell_of HBX.out j)
  have x0 : w1.cell? ⟨w.heap.size, 0, none⟩ = some (.int .i64 5) := hbx 0
  have x1 : w1.cell? ⟨w.heap.size, 1, none⟩ = some (.int .i64 p) := hbx 1
  have x2 : w1.cell? ⟨w.heap.size, 2, none⟩ = some (.int .i64 n) := hbx 2
  have x3 : w1.cell? ⟨w.heap.size, 3, none⟩ = some (.int .i64 la) := hbx 3
  have x4 : w1.cell? ⟨w.heap.size, 4, none⟩ = some (.string (str nm)) := hbx 4
  have x5 : w1.cell? ⟨w.heap.size, 5, none⟩ = some (.slice sa ss.length sc) := hbx 5
  have x6 : w1.cell? ⟨w.heap.size, 6, none⟩ = some (.slice ba bl bc) := hbx 6
  clear hb1 hbx
  go_wp2_with (go_at_call 38; (with_reducible refine (C.out w1 (HR.out.below HB1.out)).mono ?_); rintro e w2 ⟨⟨tv, rfl, htr⟩, href, hfr⟩)
  go_ret2
  exact rdoPost_mk HF htr href ((Fr.of_below _ HB1.out).trans (hfr.mono (by omega) (fun _ _ h => h)))
set_option maxRecDepth 100000 in
set_option maxHeartbeats 4000000 in
theorem rdo_mute (b : Nat) (T : Tab) (o : Op) (sa ba : Option Addr) (sc bl bc : Nat) (w : World) (hR : RefAt w b T) (hsm : T.Small) (hT : Tabs w) (hnm : o.name.length < 9223372036854775807) (hpn : ∀ x ∈ T.peers, x.name.length < 9223372036854775807)
    (hrow : RRow w (.slice sa o.ssrcs.length sc) o.ssrcs.length (u32s o.ssrcs)) (hw : T.wrong o = 0) (hok : ROk T o) (hk : o.kind = 8) :
    Calls Tryd.prog 13 #[.pointer (some ⟨b, 0, none⟩), .agg #[.int .i64 o.kind, .int .i64 o.peer, .int .i64 o.source, .int .i64 o.layer, .string (str o.name), .slice sa o.ssrcs.length sc, .slice ba bl bc]] w (RDoPost b T o w) := by
  have cw := rwrong_any b T o sa ba sc bl bc (w.alloc (.cells #[.int .i64 o.kind, .int .i64 o.peer, .int .i64 o.source, .int .i64 o.layer, .string (str o.name), .slice sa o.ssrcs.length sc, .slice ba bl bc] 40)) (hR.below (below_alloc _ _)) (Utf8Tabs_below hT (below_alloc _ _)) hnm hpn (hrow.below (below_alloc _ _))
  have hb := hR.lt
  have HROWS := Lib.hid hrow
  have HR := Lib.hid hR
  have HSM := Lib.hid hsm
  have HF : Hid (T.doo o = (T.mute o.source true, 0)) := by show _ = _; unfold Tab.doo Tab.turns; rw [if_neg (by rw [hw]; simp)]; simp [hk]
  rw [hw] at cw
  have CW := Lib.hid cw
  have HOK := Lib.hid hok
  obtain ⟨kd, p, n, la, nm, ss⟩ := o
  dsimp only at *
  subst hk
  have C := Lib.hid (fun (w1 : World) (h : RefAt w1 b T) => rmute_on b T n w1 h hsm (hok.src (by simp)))
  clear hR hsm hT hnm hpn hrow cw hw hok
  have HBX := Lib.hid (heap_new w (.cells #[.int .i64 8, .int .i64 p, .int .i64 n, .int .i64 la, .string (str nm), .slice sa ss.length sc, .slice ba bl bc] 40))
  have HS0 := World.size_alloc w (.cells #[.int .i64 8, .int .i64 p, .int .i64 n, .int .i64 la, .string (str nm), .slice sa ss.length sc, .slice ba bl bc] 40)
  have HBL0 : Hid (Below w.heap.size w (w.alloc (.cells #[.int .i64 8, .int .i64 p, .int .i64 n, .int .i64 la, .string (str nm), .slice sa ss.length sc, .slice ba bl bc] 40))) := below_alloc _ _
  go_enter Tryd.func13, Tryd.ntmps13
  go_wp2_with fail
  (with_reducible refine CW.out.mono ?_)
  rintro e w1 ⟨rfl, hb1⟩
  have HB1 : Hid (Below w.heap.size w w1) := HBL0.out.trans (hb1.mono (by omega))
  have hsz1 : w.heap.size < w1.heap.size := by have := hb1.size; omega
  have hbx := fun (j : Nat) => (hb1.cell (p := ⟨w.heap.size, j, none⟩) (by dsimp only; omega)).trans (cell_of HBX.out j)
  have x0 : w1.cell? ⟨w.heap.size, 0, none⟩ = some (.int .i64 8) := hbx 0
  have x1 : w1.cell? ⟨w.heap.size, 1, none⟩ = some (.int .i64 p) := hbx 1
  have x2 : w1.cell? ⟨w.heap.size, 2, none⟩ = some (.int .i64 n) := hbx 2
  have x3 : w1.cell? ⟨w.heap.size, 3, none⟩ = some (.int .i64 la) := hbx 3
  have x4 : w1.cell? ⟨w.heap.size, 4, none⟩ = some (.string (str nm)) := hbx 4
  have x5 : w1.cell? ⟨w.heap.size, 5, none⟩ = some (.slice sa ss.length sc) := hbx 5
  have x6 : w1.cell? ⟨w.heap.size, 6, none⟩ = some (.slice ba bl bc) := hbx 6
  clear hb1 hbx
  go_wp2_with (go_at_call 41; (with_reducible refine (C.out w1 (HR.out.below HB1.out)).mono ?_); rintro e w2 ⟨⟨tv, rfl, htr⟩, href, hfr⟩)
  go_ret2
  exact rdoPost_mk HF htr href ((Fr.of_below _ HB1.out).trans (hfr.mono (by omega) (fun _ _ h => h)))
set_option maxRecDepth 100000 in
set_option maxHeartbeats 4000000 in
theorem rdo_unmute (b : Nat) (T : Tab) (o : Op) (sa ba : Option Addr) (sc bl bc : Nat) (w : World) (hR : RefAt w b T) (hsm : T.Small) (hT : Tabs w) (hnm : o.name.length < 9223372036854775807) (hpn : ∀ x ∈ T.peers, x.name.length < 9223372036854775807)
    (hrow : RRow w (.slice sa o.ssrcs.length sc) o.ssrcs.length (u32s o.ssrcs)) (hw : T.wrong o = 0) (hok : ROk T o) (hk : o.kind = 9) :
    Calls Tryd.prog 13 #[.pointer (some ⟨b, 0, none⟩), .agg #[.int .i64 o.kind, .int .i64 o.peer, .int .i64 o.source, .int .i64 o.layer, .string (str o.name), .slice sa o.ssrcs.length sc, .slice ba bl bc]] w (RDoPost b T o w) := by
  have cw := rwrong_any b T o sa ba sc bl bc (w.alloc (.cells #[.int .i64 o.kind, .int .i64 o.peer, .int .i64 o.source, .int .i64 o.layer, .string (str o.name), .slice sa o.ssrcs.length sc, .slice ba bl bc] 40)) (hR.below (below_alloc _ _)) (Utf8Tabs_below hT (below_alloc _ _)) hnm hpn (hrow.below (below_alloc _ _))
  have hb := hR.lt
  have HROWS := Lib.hid hrow
  have HR := Lib.hid hR
  have HSM := Lib.hid hsm
  have HF : Hid (T.doo o = (T.mute o.source false, 0)) := by show _ = _; unfold Tab.doo Tab.turns; rw [if_neg (by rw [hw]; simp)]; simp [hk]
  rw [hw] at cw
  have CW := Lib.hid cw
  have HOK := Lib.hid hok
  obtain ⟨kd, p, n, la, nm, ss⟩ := o
  dsimp only at *
  subst hk
  have C := Lib.hid (fun (w1 : World) (h : RefAt w1 b T) => rmute_off b T n w1 h hsm (hok.src (by simp)) (hok.unmute rfl))
  clear hR hsm hT hnm hpn hrow cw hw hok
  have HBX := Lib.hid (heap_new w (.cells #[.int .i64 9, .int .i64 p, .int .i64 n, .int .i64 la, .string (str nm), .slice sa ss.length sc, .slice ba bl bc] 40))
  have HS0 := World.size_alloc w (.cells #[.int .i64 9, .int .i64 p, .int .i64 n, .int .i64 la, .string (str nm), .slice sa ss.length sc, .slice ba bl bc] 40)
  have HBL0 : Hid (Below w.heap.size w (w.alloc (.cells #[.int .i64 9, .int .i64 p, .int .i64 n, .int .i64 la, .string (str nm), .slice sa ss.length sc, .slice ba bl bc] 40))) := below_alloc _ _
  go_enter Tryd.func13, Tryd.ntmps13
  go_wp2_with fail
  (with_reducible refine CW.out.mono ?_)
  rintro e w1 ⟨rfl, hb1⟩
  have HB1 : Hid (Below w.heap.size w w1) := HBL0.out.trans (hb1.mono (by omega))
  have hsz1 : w.heap.size < w1.heap.size := by have := hb1.size; omega
  have hbx := fun (j : Nat) => (hb1.cell (p := ⟨w.heap.size, j, none⟩) (by dsimp only; omega)).trans (cell_of HBX.out j)
  have x0 : w1.cell? ⟨w.heap.size, 0, none⟩ = some (.int .i64 9) := hbx 0
  have x1 : w1.cell? ⟨w.heap.size, 1, none⟩ = some (.int .i64 p) := hbx 1
  have x2 : w1.cell? ⟨w.heap.size, 2, none⟩ = some (.int .i64 n) := hbx 2
  have x3 : w1.cell? ⟨w.heap.size, 3, none⟩ = some (.int .i64 la) := hbx 3
  have x4 : w1.cell? ⟨w.heap.size, 4, none⟩ = some (.string (str nm)) := hbx 4
  have x5 : w1.cell? ⟨w.heap.size, 5, none⟩ = some (.slice sa ss.length sc) := hbx 5
  have x6 : w1.cell? ⟨w.heap.size, 6, none⟩ = some (.slice ba bl bc) := hbx 6
  clear hb1 hbx
  go_wp2_with (go_at_call 41; (with_reducible refine (C.out w1 (HR.out.below HB1.out)).mono ?_); rintro e w2 ⟨⟨tv, rfl, htr⟩, href, hfr⟩)
  go_ret2
  exact rdoPost_mk HF htr href ((Fr.of_below _ HB1.out).trans (hfr.mono (by omega) (fun _ _ h => h)))
set_option maxRecDepth 100000 in
set_option maxHeartbeats 4000000 in
theorem rdo_pause (b : Nat) (T : Tab) (o : Op) (sa ba : Option Addr) (sc bl bc : Nat) (w : World) (hR : RefAt w b T) (hsm : T.Small) (hT : Tabs w) (hnm : o.name.length < 9223372036854775807) (hpn : ∀ x ∈ T.peers, x.name.length < 9223372036854775807)
    (hrow : RRow w (.slice sa o.ssrcs.length sc) o.ssrcs.length (u32s o.ssrcs)) (hw : T.wrong o = 0) (hok : ROk T o) (hk : o.kind = 10) :
    Calls Tryd.prog 13 #[.pointer (some ⟨b, 0, none⟩), .agg #[.int .i64 o.kind, .int .i64 o.peer, .int .i64 o.source, .int .i64 o.layer, .string (str o.name), .slice sa o.ssrcs.length sc, .slice ba bl bc]] w (RDoPost b T o w) := by
  have cw := rwrong_any b T o sa ba sc bl bc (w.alloc (.cells #[.int .i64 o.kind, .int .i64 o.peer, .int .i64 o.source, .int .i64 o.layer, .string (str o.name), .slice sa o.ssrcs.length sc, .slice ba bl bc] 40)) (hR.below (below_alloc _ _)) (Utf8Tabs_below hT (below_alloc _ _)) hnm hpn (hrow.below (below_alloc _ _))
  have hb := hR.lt
  have HROWS := Lib.hid hrow
  have HR := Lib.hid hR
  have HSM := Lib.hid hsm
  have HF : Hid (T.doo o = (T.change o 4, 0)) := by show _ = _; unfold Tab.doo Tab.turns; rw [if_neg (by rw [hw]; simp)]; simp [hk]
  rw [hw] at cw
  have CW := Lib.hid cw
  have HOK := Lib.hid hok
  obtain ⟨kd, p, n, la, nm, ss⟩ := o
  dsimp only at *
  subst hk
  have C := Lib.hid (fun (w1 : World) (h : RefAt w1 b T) => change_pause b T ⟨10, p, n, la, nm, ss⟩ sa ba ss.length sc bl bc w1 h hsm (hok.sub (by simp)) (hok.src (by simp)) (hok.change 4 (Or.inl ⟨rfl, rfl⟩)))
  clear hR hsm hT hnm hpn hrow cw hw hok
  have HBX := Lib.hid (heap_new w (.cells #[.int .i64 10, .int .i64 p, .int .i64 n, .int .i64 la, .string (str nm), .slice sa ss.length sc, .slice ba bl bc] 40))
  have HS0 := World.size_alloc w (.cells #[.int .i64 10, .int .i64 p, .int .i64 n, .int .i64 la, .string (str nm), .slice sa ss.length sc, .slice ba bl bc] 40)
  have HBL0 : Hid (Below w.heap.size w (w.alloc (.cells #[.int .i64 10, .int .i64 p, .int .i64 n, .int .i64 la, .string (str nm), .slice sa ss.length sc, .slice ba bl bc] 40))) := below_alloc _ _
  go_enter Tryd.func13, Tryd.ntmps13
  go_wp2_with fail
  (with_reducible refine CW.out.mono ?_)
  rintro e w1 ⟨rfl, hb1⟩
  have HB1 : Hid (Below w.heap.size w w1) := HBL0.out.trans (hb1.mono (by omega))
  have hsz1 : w.heap.size < w1.heap.size := by have := hb1.size; omega
  have hbx := fun (j : Nat) => (hb1.cell (p := ⟨w.heap.size, j, none⟩) (by dsimp only; omega)).trans (cell_of HBX.out j)
  have x0 : w1.cell? ⟨w.heap.size, 0, none⟩ = some (.int .i64 10) := hbx 0
  have x1 : w1.cell? ⟨w.heap.size, 1, none⟩ = some (.int .i64 p) := hbx 1
  have x2 : w1.cell? ⟨w.heap.size, 2, none⟩ = some (.int .i64 n) := hbx 2
  have x3 : w1.cell? ⟨w.heap.size, 3, none⟩ = some (.int .i64 la) := hbx 3
  have x4 : w1.cell? ⟨w.heap.size, 4, none⟩ = some (.string (str nm)) := hbx 4
  have x5 : w1.cell? ⟨w.heap.size, 5, none⟩ = some (.slice sa ss.length sc) := hbx 5
  have x6 : w1.cell? ⟨w.heap.size, 6, none⟩ = some (.slice ba bl bc) := hbx 6
  clear hb1 hbx
  go_wp2_with (go_at_call 42; (with_reducible refine (C.out w1 (HR.out.below HB1.out)).mono ?_); rintro e w2 ⟨⟨tv, rfl, htr⟩, href, hfr⟩)
  go_ret2
  exact rdoPost_mk HF htr href ((Fr.of_below _ HB1.out).trans (hfr.mono (by omega) (fun _ _ h => h)))
set_option maxRecDepth 100000 in
set_option maxHeartbeats 4000000 in
theorem rdo_resume (b : Nat) (T : Tab) (o : Op) (sa ba : Option Addr) (sc bl bc : Nat) (w : World) (hR : RefAt w b T) (hsm : T.Small) (hT : Tabs w) (hnm : o.name.length < 9223372036854775807) (hpn : ∀ x ∈ T.peers, x.name.length < 9223372036854775807)
    (hrow : RRow w (.slice sa o.ssrcs.length sc) o.ssrcs.length (u32s o.ssrcs)) (hw : T.wrong o = 0) (hok : ROk T o) (hk : o.kind = 11) :
    Calls Tryd.prog 13 #[.pointer (some ⟨b, 0, none⟩), .agg #[.int .i64 o.kind, .int .i64 o.peer, .int .i64 o.source, .int .i64 o.layer, .string (str o.name), .slice sa o.ssrcs.length sc, .slice ba bl bc]] w (RDoPost b T o w) := by
  have cw := rwrong_any b T o sa ba sc bl bc (w.alloc (.cells #[.int .i64 o.kind, .int .i64 o.peer, .int .i64 o.source, .int .i64 o.layer, .string (str o.name), .slice sa o.ssrcs.length sc, .slice ba bl bc] 40)) (hR.below (below_alloc _ _)) (Utf8Tabs_below hT (below_alloc _ _)) hnm hpn (hrow.below (below_alloc _ _))
  have hb := hR.lt
  have HROWS := Lib.hid hrow
  have HR := Lib.hid hR
  have HSM := Lib.hid hsm
  have HF : Hid (T.doo o = (T.change o 5, 0)) := by show _ = _; unfold Tab.doo Tab.turns; rw [if_neg (by rw [hw]; simp)]; simp [hk]
  rw [hw] at cw
  have CW := Lib.hid cw
  have HOK := Lib.hid hok
  obtain ⟨kd, p, n, la, nm, ss⟩ := o
  dsimp only at *
  subst hk
  have C := Lib.hid (fun (w1 : World) (h : RefAt w1 b T) => change_resume b T ⟨11, p, n, la, nm, ss⟩ sa ba ss.length sc bl bc w1 h hsm (hok.sub (by simp)) (hok.src (by simp)) (hok.change 5 (Or.inr (Or.inl ⟨rfl, rfl⟩))))
  clear hR hsm hT hnm hpn hrow cw hw hok
  have HBX := Lib.hid (heap_new w (.cells #[.int .i64 11, .int .i64 p, .int .i64 n, .int .i64 la, .string (str nm), .slice sa ss.length sc, .slice ba bl bc] 40))
  have HS0 := World.size_alloc w (.cells #[.int .i64 11, .int .i64 p, .int .i64 n, .int .i64 la, .string (str nm), .slice sa ss.length sc, .slice ba bl bc] 40)
  have HBL0 : Hid (Below w.heap.size w (w.alloc (.cells #[.int .i64 11, .int .i64 p, .int .i64 n, .int .i64 la, .string (str nm), .slice sa ss.length sc, .slice ba bl bc] 40))) := below_alloc _ _
  go_enter Tryd.func13, Tryd.ntmps13
  go_wp2_with fail
  (with_reducible refine CW.out.mono ?_)
  rintro e w1 ⟨rfl, hb1⟩
  have HB1 : Hid (Below w.heap.size w w1) := HBL0.out.trans (hb1.mono (by omega))
  have hsz1 : w.heap.size < w1.heap.size := by have := hb1.size; omega
  have hbx := fun (j : Nat) => (hb1.cell (p := ⟨w.heap.size, j, none⟩) (by dsimp only; omega)).trans (cell_of HBX.out j)
  have x0 : w1.cell? ⟨w.heap.size, 0, none⟩ = some (.int .i64 11) := hbx 0
  have x1 : w1.cell? ⟨w.heap.size, 1, none⟩ = some (.int .i64 p) := hbx 1
  have x2 : w1.cell? ⟨w.heap.size, 2, none⟩ = some (.int .i64 n) := hbx 2
  have x3 : w1.cell? ⟨w.heap.size, 3, none⟩ = some (.int .i64 la) := hbx 3
  have x4 : w1.cell? ⟨w.heap.size, 4, none⟩ = some (.string (str nm)) := hbx 4
  have x5 : w1.cell? ⟨w.heap.size, 5, none⟩ = some (.slice sa ss.length sc) := hbx 5
  have x6 : w1.cell? ⟨w.heap.size, 6, none⟩ = some (.slice ba bl bc) := hbx 6
  clear hb1 hbx
  go_wp2_with (go_at_call 42; (with_reducible refine (C.out w1 (HR.out.below HB1.out)).mono ?_); rintro e w2 ⟨⟨tv, rfl, htr⟩, href, hfr⟩)
  go_ret2
  exact rdoPost_mk HF htr href ((Fr.of_below _ HB1.out).trans (hfr.mono (by omega) (fun _ _ h => h)))
set_option maxRecDepth 100000 in
set_option maxHeartbeats 4000000 in
theorem rdo_want (b : Nat) (T : Tab) (o : Op) (sa ba : Option Addr) (sc bl bc : Nat) (w : World) (hR : RefAt w b T) (hsm : T.Small) (hT : Tabs w) (hnm : o.name.length < 9223372036854775807) (hpn : ∀ x ∈ T.peers, x.name.length < 9223372036854775807)
    (hrow : RRow w (.slice sa o.ssrcs.length sc) o.ssrcs.length (u32s o.ssrcs)) (hw : T.wrong o = 0) (hok : ROk T o) (hk : o.kind = 12) :
    Calls Tryd.prog 13 #[.pointer (some ⟨b, 0, none⟩), .agg #[.int .i64 o.kind, .int .i64 o.peer, .int .i64 o.source, .int .i64 o.layer, .string (str o.name), .slice sa o.ssrcs.length sc, .slice ba bl bc]] w (RDoPost b T o w) := by
  have cw := rwrong_any b T o sa ba sc bl bc (w.alloc (.cells #[.int .i64 o.kind, .int .i64 o.peer, .int .i64 o.source, .int .i64 o.layer, .string (str o.name), .slice sa o.ssrcs.length sc, .slice ba bl bc] 40)) (hR.below (below_alloc _ _)) (Utf8Tabs_below hT (below_alloc _ _)) hnm hpn (hrow.below (below_alloc _ _))
  have hb := hR.lt
  have HROWS := Lib.hid hrow
  have HR := Lib.hid hR
  have HSM := Lib.hid hsm
  have HF : Hid (T.doo o = (T.change o 8, 0)) := by show _ = _; unfold Tab.doo Tab.turns; rw [if_neg (by rw [hw]; simp)]; simp [hk]
  rw [hw] at cw
  have CW := Lib.hid cw
  have HOK := Lib.hid hok
  obtain ⟨kd, p, n, la, nm, ss⟩ := o
  dsimp only at *
  subst hk
  have C := Lib.hid (fun (w1 : World) (h : RefAt w1 b T) => change_want b T ⟨12, p, n, la, nm, ss⟩ sa ba ss.length sc bl bc w1 h hsm (hok.sub (by simp)) (hok.src (by simp)) (hok.change 8 (Or.inr (Or.inr ⟨rfl, rfl⟩))))
  clear hR hsm hT hnm hpn hrow cw hw hok
  have HBX := Lib.hid (heap_new w (.cells #[.int .i64 12, .int .i64 p, .int .i64 n, .int .i64 la, .string (str nm), .slice sa ss.length sc, .slice ba bl bc] 40))
  have HS0 := World.size_alloc w (.cells #[.int .i64 12, .int .i64 p, .int .i64 n, .int .i64 la, .string (str nm), .slice sa ss.length sc, .slice ba bl bc] 40)
  have HBL0 : Hid (Below w.heap.size w (w.alloc (.cells #[.int .i64 12, .int .i64 p, .int .i64 n, .int .i64 la, .string (str nm), .slice sa ss.length sc, .slice ba bl bc] 40))) := below_alloc _ _
  go_enter Tryd.func13, Tryd.ntmps13
  go_wp2_with fail
  (with_reducible refine CW.out.mono ?_)
  rintro e w1 ⟨rfl, hb1⟩
  have HB1 : Hid (Below w.heap.size w w1) := HBL0.out.trans (hb1.mono (by omega))
  have hsz1 : w.heap.size < w1.heap.size := by have := hb1.size; omega
  have hbx := fun (j : Nat) => (hb1.cell (p := ⟨w.heap.size, j, none⟩) (by dsimp only; omega)).trans (cell_of HBX.out j)
  have x0 : w1.cell? ⟨w.heap.size, 0, none⟩ = some (.int .i64 12) := hbx 0
  have x1 : w1.cell? ⟨w.heap.size, 1, none⟩ = some (.int .i64 p) := hbx 1
  have x2 : w1.cell? ⟨w.heap.size, 2, none⟩ = some (.int .i64 n) := hbx 2
  have x3 : w1.cell? ⟨w.heap.size, 3, none⟩ = some (.int .i64 la) := hbx 3
  have x4 : w1.cell? ⟨w.heap.size, 4, none⟩ = some (.string (str nm)) := hbx 4
  have x5 : w1.cell? ⟨w.heap.size, 5, none⟩ = some (.slice sa ss.length sc) := hbx 5
  have x6 : w1.cell? ⟨w.heap.size, 6, none⟩ = some (.slice ba bl bc) := hbx 6
  clear hb1 hbx
  go_wp2_with (go_at_call 42; (with_reducible refine (C.out w1 (HR.out.below HB1.out)).mono ?_); rintro e w2 ⟨⟨tv, rfl, htr⟩, href, hfr⟩)
  go_ret2
  exact rdoPost_mk HF htr href ((Fr.of_below _ HB1.out).trans (hfr.mono (by omega) (fun _ _ h => h)))
set_option maxRecDepth 100000 in
set_option maxHeartbeats 4000000 in
theorem rdo_unsubscribe (b : Nat) (T : Tab) (o : Op) (sa ba : Option Addr) (sc bl bc : Nat) (w : World) (hR : RefAt w b T) (hsm : T.Small) (hT : Tabs w) (hnm : o.name.length < 9223372036854775807) (hpn : ∀ x ∈ T.peers, x.name.length < 9223372036854775807)
    (hrow : RRow w (.slice sa o.ssrcs.length sc) o.ssrcs.length (u32s o.ssrcs)) (hw : T.wrong o = 0) (hok : ROk T o) (hk : o.kind = 7) :
    Calls Tryd.prog 13 #[.pointer (some ⟨b, 0, none⟩), .agg #[.int .i64 o.kind, .int .i64 o.peer, .int .i64 o.source, .int .i64 o.layer, .string (str o.name), .slice sa o.ssrcs.length sc, .slice ba bl bc]] w (RDoPost b T o w) := by
  have cw := rwrong_any b T o sa ba sc bl bc (w.alloc (.cells #[.int .i64 o.kind, .int .i64 o.peer, .int .i64 o.source, .int .i64 o.layer, .string (str o.name), .slice sa o.ssrcs.length sc, .slice ba bl bc] 40)) (hR.below (below_alloc _ _)) (Utf8Tabs_below hT (below_alloc _ _)) hnm hpn (hrow.below (below_alloc _ _))
  have hb := hR.lt
  have HROWS := Lib.hid hrow
  have HR := Lib.hid hR
  have HSM := Lib.hid hsm
  have HF : Hid (T.doo o = (([⟨2, o.peer, o.source, 0, 0⟩], T.endSub o.peer o.source), 0)) := by show _ = _; unfold Tab.doo Tab.turns; rw [if_neg (by rw [hw]; simp)]; simp [hk]
  rw [hw] at cw
  have CW := Lib.hid cw
  have HOK := Lib.hid hok
  obtain ⟨kd, p, n, la, nm, ss⟩ := o
  dsimp only at *
  subst hk
  have C : Hid (∀ w1, RefAt w1 b T → Calls Tryd.prog 40 #[.pointer (some ⟨b, 0, none⟩), .int .i64 p, .int .i64 n] w1 fun e w' => e = .returned (.agg #[.int .i64 2, .int .i64 p, .int .i64 n, .int .i64 0, .int .u32 0]) ∧ RefAt w' b (T.endSub p n) ∧ Fr w1.heap.size (· = b) w1 w') := fun w1 h => endSub_any b T p n w1 h hsm (hok.sub (by simp))
  clear hR hsm hT hnm hpn hrow cw hw hok
  have HBX := Lib.hid (heap_new w (.cells #[.int .i64 7, .int .i64 p, .int .i64 n, .int .i64 la, .string (str nm), .slice sa ss.length sc, .slice ba bl bc] 40))
  have HS0 := World.size_alloc w (.cells #[.int .i64 7, .int .i64 p, .int .i64 n, .int .i64 la, .string (str nm), .slice sa ss.length sc, .slice ba bl bc] 40)
  have HBL0 : Hid (Below w.heap.size w (w.alloc (.cells #[.int .i64 7, .int .i64 p, .int .i64 n, .int .i64 la, .string (str nm), .slice sa ss.length sc, .slice ba bl bc] 40))) := below_alloc _ _
  go_enter Tryd.func13, Tryd.ntmps13
  go_wp2_with fail
  (with_reducible refine CW.out.mono ?_)
  rintro e w1 ⟨rfl, hb1⟩
  have HB1 : Hid (Below w.heap.size w w1) := HBL0.out.trans (hb1.mono (by omega))
  have hsz1 : w.heap.size < w1.heap.size := by have := hb1.size; omega
  have hbx := fun (j : Nat) => (hb1.cell (p := ⟨w.heap.size, j, none⟩) (by dsimp only; omega)).trans (cell_of HBX.out j)
  have x0 : w1.cell? ⟨w.heap.size, 0, none⟩ = some (.int .i64 7) := hbx 0
  have x1 : w1.cell? ⟨w.heap.size, 1, none⟩ = some (.int .i64 p) := hbx 1
  have x2 : w1.cell? ⟨w.heap.size, 2, none⟩ = some (.int .i64 n) := hbx 2
  have x3 : w1.cell? ⟨w.heap.size, 3, none⟩ = some (.int .i64 la) := hbx 3
  have x4 : w1.cell? ⟨w.heap.size, 4, none⟩ = some (.string (str nm)) := hbx 4
  have x5 : w1.cell? ⟨w.heap.size, 5, none⟩ = some (.slice sa ss.length sc) := hbx 5
  have x6 : w1.cell? ⟨w.heap.size, 6, none⟩ = some (.slice ba bl bc) := hbx 6
  clear hb1 hbx
  go_wp2_with (go_at_call 40; (with_reducible refine (C.out w1 (HR.out.below HB1.out)).mono ?_); rintro e w2 ⟨rfl, href, hfr⟩; have HREF := Lib.hid href; have HFR := Lib.hid hfr; have hsz2 := hfr.size; clear href hfr)
  go_ret2
  exact rdoPost_mk HF (row_new' _ _ 1 _ ([⟨2, p, n, 0, 0⟩].flatMap turnCells) (by decide) rfl) (HREF.out.alloc _) (((Fr.of_below _ HB1.out).trans (HFR.out.mono (by omega) (fun _ _ h => h))).alloc (by omega) _)
end Go.Proofs.Rm
namespace Go.Proofs.Heap
open Go Go.RowKit
section
variable {P : Program}
theorem run_appR {w : World} (t ty : TypeId) (base : Nat) {e : TypeId} {size bytes : Nat} (E : Elem P t e size bytes) (v : Value) (n : Nat) (xs : List Value) (hown : w.ownsRow base e size v n xs)
    (vx : Value) (m : Nat) (news : List Value) (hrow : RRow w vx m news) (hl : news.length = m * size) (h1 : ∀ u ∈ news, u.oneCell' = true)
    (hbytes : (n + m) * bytes ≤ 140737488355328) (h63 : n + m ≤ 9223372036854775807) (hbase : base ≤ w.heap.size) :
    ∃ v' w', (Builtin.append_ #[t, t] ty #[v, vx]).run P w = .ok v' w' ∧ w'.ownsRow base e size v' (n + m) (xs ++ news) ∧ w.grownBy w' v.ownBlock := by
  obtain ⟨z, hinfo, hzs⟩ := E.info
  obtain ⟨i, hi, hz, hsize, hby⟩ := info_parts hinfo
  obtain ⟨ad, cap, hv, _, _, h0, hr⟩ := hrow
  subst hv
  have h63' : n + m ≤ maxLen := by unfold maxLen; omega
  cases ad with
  | none =>
    obtain ⟨rfl, rfl⟩ := h0 rfl
    have : news = [] := List.eq_nil_of_length_eq_zero (by rw [hl, Nat.zero_mul])
    subst this
    refine ⟨v, w, run_append_owned_none (P := P) (w := w) base t ty e i size E.ht hi v n xs hown, ?_, ⟨rfl, rfl, rfl, Nat.le_refl _, fun _ _ _ => rfl⟩⟩
    rw [List.append_nil]; exact hown
  | some ad =>
    obtain ⟨v', w', hrun, h2, h3, _⟩ := run_append_own w base t ty e i z size bytes E.ht hi hz hsize hby hzs E.pos v n xs hown ad m cap news hl (by
      intro j u hu
      rcases hr with hr | ⟨b, off, hab, hlt, hc⟩
      · subst hr; simp at hu
      · cases hab
        have hj : j < news.length := (List.getElem?_eq_some_iff.1 hu).1
        have := hc j hj
        have hadd : (⟨b, off, none⟩ : Addr).add j = ⟨b, off + j, none⟩ := by unfold Addr.add; split <;> simp_all
        rw [hadd, this]
        exact hu) h1 h63' hbytes hbase
    exact ⟨v', w', hrun, h2, h3⟩
theorem step_appR {ops : Array Oper} {o : Oper} {a : Act} {w : World} {K : Act → World → Prop} {Q : Exit → Act → World → Prop} {E' : Prop} (hgd : o.guard = none) (s x : Operand) (t : TypeId)
    (ho : o.op = .call { callee := .builtin .append, args := #[s, x], argTypes := #[t, t] })
    (base : Nat) {e : TypeId} {size bytes : Nat} (E : Elem P t e size bytes)
    (v : Value) (n : Nat) (xs : List Value) (hs : a.eval s = v) (hown : w.ownsRow base e size v n xs)
    (vx : Value) (m : Nat) (news : List Value) (hx : a.eval x = vx) (hrow : RRow w vx m news) (hl : news.length = m * size) (h1 : ∀ u ∈ news, u.oneCell' = true)
    (hbytes : (n + m) * bytes ≤ 140737488355328) (h63 : n + m ≤ 9223372036854775807) (hbase : base ≤ w.heap.size)
    (h : ∀ v' w', Hid (w'.ownsRow base e size v' (n + m) (xs ++ news)) → Hid (w.grownBy w' v.ownBlock) → K (a.put o.dst v') w') :
    if Region.wanted o (yielded ops a.tmps) = true then Oper.wp P o a w K Q else E' := by
  have hw : Region.wanted o (yielded ops a.tmps) = true := by simp [Region.wanted, hgd]
  rw [if_pos hw]
  obtain ⟨v', w', hrun, h2, h3⟩ := run_appR (P := P) t o.type base E v n xs hown vx m news hrow hl h1 hbytes h63 hbase
  unfold Oper.wp
  simp [execOp, ho, resolve, invoke, builtin, hs, hx, hrun, Result.andThen]
  exact h v' w' h2 h3
end
end Go.Proofs.Heap
