/- Several texts in one: The argument of a law that is a slice of acts, opened. The walk of the law RoomPlays, out of the contracts. The walks of the laws' own functions start and shown. -/
import Derived.StillTailTactics
import Derived.Deep.RegionHeld3
import Derived.Test.YthlamfoldfeocaaDoorP20
namespace Go.Proofs.Rm
open Go.RowKit Go.WideShapes Go.ChangeShapes Go.Proofs.Heap Go.Proofs.Mem Go.Deep
structure ActV where
  gone : Bool
  x : OpV
  ssrc : Int
def actCells (a : ActV) : List Value := [.bool a.gone, .int .i64 a.x.o.kind, .int .i64 a.x.o.peer, .int .i64 a.x.o.source, .int .i64 a.x.o.layer, .string (str a.x.o.name), .slice a.x.sa a.x.o.ssrcs.length a.x.sc, .slice a.x.ba a.x.bl a.x.bc, .int .u32 a.ssrc]
/-- A slice value reads as acts. -/
structure ActsR (w : World) (v : Value) (l : List ActV) : Prop where
  row : RRow w v l.length (l.flatMap actCells)
  each : ∀ a ∈ l, RRow w (.slice a.x.sa a.x.o.ssrcs.length a.x.sc) a.x.o.ssrcs.length (u32s a.x.o.ssrcs) ∧ a.x.o.name.length < 9223372036854775807
theorem ActsR.below {w w' : World} {v : Value} {l : List ActV} (h : ActsR w v l) (hb : Below w.heap.size w w') : ActsR w' v l := ⟨h.row.below hb, fun x hx => ⟨(h.each x hx).1.below hb, (h.each x hx).2⟩⟩
section
variable {H : Type} {enc : TypeId × Value → H} {W : World} {base : Nat} {sp : Nat → Bool} {held : Bool}
theorem nine {α : Type} {l : List α} (h : l.length = 9) : ∃ c0 c1 c2 c3 c4 c5 c6 c7 c8, l = [c0, c1, c2, c3, c4, c5, c6, c7, c8] := by
  obtain _ | ⟨c0, l⟩ := l
  · simp at h
  obtain _ | ⟨c1, l⟩ := l
  · simp at h
  obtain ⟨c2, c3, c4, c5, c6, c7, c8, rfl⟩ := seven (l := l) (by simpa using h)
  exact ⟨_, _, _, _, _, _, _, _, _, rfl⟩
set_option maxRecDepth 100000 in
theorem trod_act {fuel : Nat} {cs : List Value} {x : DataW H × List MemPlace} (h : DataW.trod enc Tryd.prog W base sp held fuel 73 cs = some x) :
    ∃ y : ActV, cs = actCells y ∧ RRow W (.slice y.x.sa y.x.o.ssrcs.length y.x.sc) y.x.o.ssrcs.length (u32s y.x.o.ssrcs) ∧ y.x.o.name.length ∈ x.1.weights Tryd.prog 73 := by
  obtain ⟨xs, n, _, hxx, hlen, hxl, hf⟩ := DataW.trod_struct Tryd.underlying73 h
  have hC : Tryd.prog.cellsOf 73 = 9 := by kernel_rfl
  have k1 : Tryd.prog.cellsOf 4 = 1 := by kernel_rfl
  have k2 : Tryd.prog.cellsOf 40 = 7 := by kernel_rfl
  have k3 : Tryd.prog.cellsOf 23 = 1 := by kernel_rfl
  rw [hC] at hlen
  obtain ⟨c0, c1, c2, c3, c4, c5, c6, c7, c8, rfl⟩ := nine hlen
  clear h hC
  have hx : ∀ j, j < 3 → ∃ y, xs[j]? = some y := fun j hj => ⟨xs[j]'(by rw [hxl]; exact hj), List.getElem?_eq_getElem _⟩
  obtain ⟨y0, e0⟩ := hx 0 (by omega)
  obtain ⟨y1, e1⟩ := hx 1 (by omega)
  obtain ⟨y2, e2⟩ := hx 2 (by omega)
  have h0 : DataW.trod enc Tryd.prog W base sp held n 4 (([c0, c1, c2, c3, c4, c5, c6, c7, c8].drop 0).take (Tryd.prog.cellsOf 4)) = some y0 := (hf 0 _ rfl).trans e0
  have h1 : DataW.trod enc Tryd.prog W base sp held n 40 (([c0, c1, c2, c3, c4, c5, c6, c7, c8].drop 1).take (Tryd.prog.cellsOf 40)) = some y1 := (hf 1 _ rfl).trans e1
  have h2 : DataW.trod enc Tryd.prog W base sp held n 23 (([c0, c1, c2, c3, c4, c5, c6, c7, c8].drop 8).take (Tryd.prog.cellsOf 23)) = some y2 := (hf 2 _ rfl).trans e2
  rw [k1] at h0
  rw [k2] at h1
  rw [k3] at h2
  obtain ⟨z0, g0, _⟩ := DataW.trod_bool Tryd.underlying4 h0
  obtain ⟨y, g1, hr, hn⟩ := trod_op h1
  obtain ⟨z2, g2, _⟩ := DataW.trod_int Tryd.underlying23 h2
  have g0 : c0 = .bool z0 := by simpa using g0
  have g2 : c8 = .int .u32 z2 := by simpa using g2
  have g1 : [c1, c2, c3, c4, c5, c6, c7] = opvCells y := g1
  refine ⟨⟨z0, y, z2⟩, ?_, hr, ?_⟩
  · unfold opvCells at g1
    unfold actCells
    injection g1 with a1 g1
    injection g1 with a2 g1
    injection g1 with a3 g1
    injection g1 with a4 g1
    injection g1 with a5 g1
    injection g1 with a6 g1
    injection g1 with a7 g1
    rw [g0, g2, a1, a2, a3, a4, a5, a6, a7]
  · rw [hxx]
    show _ ∈ DataW.weights Tryd.prog 73 (.agg (xs.map (·.1)))
    unfold DataW.weights
    rw [Tryd.underlying73]
    dsimp only
    refine DataW.weights_mem_each (j := 1) (t := 40) (d := y1.1) rfl ?_ _ hn
    rw [List.getElem?_map, e1]
    rfl
theorem open_acts {t : TypeId} {v : Value} {d : DataW H} {ps : List MemPlace} (ht : Tryd.prog.underlying t = some (.slice 73)) (hcl : v.cells = #[v]) (h : DataW.Trod enc Tryd.prog W base sp held t v d ps) (hz : ∀ n ∈ d.weights Tryd.prog t, n ≤ reachBytes) : ∃ l, ActsR W v l := by
  obtain ⟨fuel, h⟩ := h
  rw [hcl] at h
  have hC : Tryd.prog.cellsOf 73 = 9 := by kernel_rfl
  rcases open_slice ht h with ⟨hc, _⟩ | ⟨a, len, cap, m, n, D, Pl, hcs, hb, hl, hm, hmm, hdx, hx⟩
  · have : v = .slice none 0 0 := by simpa using hc
    subst this
    exact ⟨[], RRow.nil _, fun x hx => by simp at hx⟩
  · have hlm : len ≤ m := by rw [hmm]; split <;> omega
    have hv : v = .slice (some a) len cap := by simpa using hcs
    subst hv
    have key : ∀ i, ∃ y : ActV, i < len → (∀ j, j < 9 → W.cell? ((a.add (i * 9)).add j) = (actCells y)[j]?) ∧ RRow W (.slice y.x.sa y.x.o.ssrcs.length y.x.sc) y.x.o.ssrcs.length (u32s y.x.o.ssrcs) ∧ y.x.o.name.length < 9223372036854775807 := by
      intro i
      by_cases hi : i < len
      · obtain ⟨cs', h1, h2⟩ := hx i (by omega)
        rw [hC] at h1
        obtain ⟨_, hcl', hat⟩ := World.cells?_some h1
        obtain ⟨y, hy, hr, hn⟩ := trod_act h2
        have hn2 : y.x.o.name.length < 9223372036854775807 := by
          have hd : d = .slice ((List.range len).map D) ((List.range (m - len)).map fun j => D (len + j)) := by injection hdx
          have := hz y.x.o.name.length (by
            rw [hd]
            unfold DataW.weights
            rw [ht]
            refine List.mem_cons_of_mem _ (List.mem_append.2 (Or.inl (weights_all (List.mem_map.2 ⟨i, by simpa using hi, rfl⟩) _ hn))))
          have := Nat.lt_of_le_of_lt this reachBytes_lt
          omega
        refine ⟨y, fun _ => ⟨fun j hj => ?_, hr, hn2⟩⟩
        have := hat j hj
        rw [← hy, this]
      · exact ⟨⟨false, ⟨⟨0, 0, 0, 0, [], []⟩, none, 0, none, 0, 0⟩, 0⟩, fun h => absurd h hi⟩
    obtain ⟨Y, hY⟩ := Classical.axiomOfChoice key
    let l : List ActV := (List.range len).map Y
    have hll : l.length = len := by simp [l]
    refine ⟨l, ⟨some a, cap, by rw [hll], by rw [hll]; exact hl, hm, (fun h => by cases h), ?_⟩, ?_⟩
    · by_cases h0 : len = 0
      · exact Or.inl (by rw [List.eq_nil_of_length_eq_zero (hll.trans h0)]; rfl)
      · have hz := (hY 0 (by omega)).1 0 (by omega)
        have hz0 : W.cell? a = some (.bool (Y 0).gone) := by simpa [Addr.add, actCells] using hz
        have ha := spot_none hz0
        refine Or.inr ⟨a.block, a.off, by rw [← ha], World.block_lt_of_cell? W a hz0, fun j hj => ?_⟩
        have hfl : (l.flatMap actCells).length = len * 9 := by rw [flat_length actCells 9 (fun _ => rfl), hll]
        rw [hfl] at hj
        have hi : j / 9 < len := by omega
        have hli : l[j / 9]? = some (Y (j / 9)) := by simp [l, hi]
        have := flat_at actCells 9 (fun _ => rfl) l (j / 9) (j % 9) _ hli (by omega)
        rw [show j / 9 * 9 + j % 9 = j by omega] at this
        rw [this, ← (hY (j / 9) hi).1 (j % 9) (by omega)]
        rw [add_none ha]
        unfold Addr.add
        split
        · rename_i e; rw [show a.off + j = a.off + j / 9 * 9 by omega]
        · rw [show a.off + j = a.off + j / 9 * 9 + j % 9 by omega]
    · intro x hx
      obtain ⟨i, hi, rfl⟩ := List.mem_map.1 hx
      exact (hY i (by simpa using hi)).2
end
end Go.Proofs.Rm
namespace Go.Proofs.Rm
open Go.RowKit Go.Proofs.Heap Go.Proofs.Mem
open Go.Proofs.Lab (may key Tabs)
theorem acts_at {w : World} {a : Option Addr} {c : Nat} {l : List ActV} (h : ActsR w (.slice a l.length c) l) (hl : 0 < l.length) : ∃ g off, a = some ⟨g, off, none⟩ ∧ ∀ (i : Nat) (y : ActV), l[i]? = some y → w.cell? ⟨g, off + i * 9, none⟩ = some (.bool y.gone) ∧
    (w.cell? ⟨g, off + i * 9 + 1, none⟩ = some (.int .i64 y.x.o.kind) ∧ w.cell? ⟨g, off + i * 9 + 1 + 1, none⟩ = some (.int .i64 y.x.o.peer) ∧ w.cell? ⟨g, off + i * 9 + 1 + 2, none⟩ = some (.int .i64 y.x.o.source) ∧ w.cell? ⟨g, off + i * 9 + 1 + 3, none⟩ = some (.int .i64 y.x.o.layer) ∧ w.cell? ⟨g, off + i * 9 + 1 + 4, none⟩ = some (.string (str y.x.o.name)) ∧ w.cell? ⟨g, off + i * 9 + 1 + 5, none⟩ = some (.slice y.x.sa y.x.o.ssrcs.length y.x.sc) ∧ w.cell? ⟨g, off + i * 9 + 1 + 6, none⟩ = some (.slice y.x.ba y.x.bl y.x.bc)) ∧ w.cell? ⟨g, off + i * 9 + 8, none⟩ = some (.int .u32 y.ssrc) := by
  obtain ⟨g, off, cap, h1, _, _, _, h5⟩ := row_atR actCells 9 (fun _ => rfl) (by omega) h.row hl
  refine ⟨g, off, (slice_inj h1).1, fun i x hx => ⟨h5 i x hx 0 (by omega), ⟨h5 i x hx 1 (by omega), ?_, ?_, ?_, ?_, ?_, ?_⟩, h5 i x hx 8 (by omega)⟩⟩
  · rw [Nat.add_assoc (off + i * 9)]; exact h5 i x hx 2 (by omega)
  · rw [Nat.add_assoc (off + i * 9)]; exact h5 i x hx 3 (by omega)
  · rw [Nat.add_assoc (off + i * 9)]; exact h5 i x hx 4 (by omega)
  · rw [Nat.add_assoc (off + i * 9)]; exact h5 i x hx 5 (by omega)
  · rw [Nat.add_assoc (off + i * 9)]; exact h5 i x hx 6 (by omega)
  · rw [Nat.add_assoc (off + i * 9)]; exact h5 i x hx 7 (by omega)
/-- The reference's room, just made. -/
theorem ref_new (w : World) : RefAt (w.alloc (.cells #[.slice none 0 0, .slice none 0 0, .slice none 0 0] 32)) w.heap.size ⟨[], [], []⟩ :=
  ⟨.slice none 0 0, .slice none 0 0, .slice none 0 0, heap_new w _, ⟨Row.nil _ _, ⟨[], rfl, Row.nil _ _, fun m hm => by simp at hm⟩, Row.nil _ _⟩⟩
set_option maxRecDepth 100000 in
set_option maxHeartbeats 16000000 in
theorem RoomPlays_any (v : Value) (l : List ActV) (w : World) (hT : Tabs w) (hv : ActsR w v l)
    (hsh : ∀ w, Tabs w → Calls Tryd.prog 10 #[] w fun e w' => e = .returned (.bool true) ∧ Below w.heap.size w w') :
    Calls Tryd.prog 8 #[v] w fun e w' => e = .returned (.bool true) ∧ Below w.heap.size w w' := by
  have hlen := hv.row.len
  obtain ⟨va, vc, rfl, -, -⟩ := id hv.row
  have HSH := Lib.hid (hsh w hT)
  have HT : Hid (∀ w', Below w.heap.size w w' → Tabs w') := fun w' h => Utf8Tabs_below hT h
  have HV : Hid (∀ w', Below w.heap.size w w' → ActsR w' (.slice va l.length vc) l) := fun w' h => hv.below h
  clear hsh hT hv
  go_enter Tryd.func8, Tryd.ntmps8
  go_wp2_with fail
  refine HSH.out.mono ?_
  rintro e w1 ⟨rfl, hb1⟩
  have HB1 := Lib.hid hb1
  have hz1 := hb1.size
  clear hb1
  go_wp2_with fail
  refine (New_any _).mono ?_
  rintro e w2 ⟨rfl, hroom, hb2⟩
  have HB2 := Lib.hid (HB1.out.trans (hb2.mono HB1.out.size))
  have hbw : w.heap.size ≤ w1.heap.size := hz1
  have hbb : w.heap.size ≤ w2.heap.size := HB2.out.size
  have HB3 : Hid (Below w.heap.size w (w2.alloc (.cells #[.slice none 0 0, .slice none 0 0, .slice none 0 0] 32))) := HB2.out.alloc HB2.out.size _
  have HBOTH : Hid (Both (w2.alloc (.cells #[.slice none 0 0, .slice none 0 0, .slice none 0 0] 32)) w1.heap.size w2.heap.size empty ⟨[], [], []⟩) := ⟨inv_empty, slim_empty, hroom.below (below_alloc _ _), ref_new w2, sim_empty⟩
  clear hroom hb2
  generalize w1.heap.size = ba at *
  go_wp2_with fail
  go_loopw [5] (fun i w' => ∃ k : Nat, k ≤ l.length ∧ i = .int .i64 k ∧ Below w.heap.size w w' ∧ ∃ R T, Both w' ba w2.heap.size R T) (fun i _ => l.length - (intOf i).toNat)
  case atStart => exact ⟨0, Nat.zero_le _, rfl, HB3.out, empty, _, HBOTH.out⟩
  case round =>
    clear HBOTH HB3 HB2 HB1
    obtain ⟨k, hk, rfl, hbl, R, T, hboth⟩ := hrel
    have HBL := Lib.hid hbl
    have HBO := Lib.hid hboth
    have hsz := hbl.size
    have hal := hboth.room.lt
    have hbl2 := hboth.ref.lt
    generalize w2.heap.size = bb at *
    clear hbl hboth
    by_cases hkl : k < l.length ∧ k < 80
    · obtain ⟨hkl, hk80⟩ := hkl
      obtain ⟨g, off, rfl, hcells⟩ := acts_at (HV.out _ HBL.out) (by omega)
      obtain ⟨cg, ⟨c0, c1, c2, c3, c4, c5, c6⟩, cs⟩ := hcells k l[k] (List.getElem?_eq_getElem hkl)
      have HXR := Lib.hid (fun w' h => (HV.out w' h).each l[k] (List.getElem_mem hkl))
      have HCC : Hid (∀ w', Below w.heap.size w w' → (w'.cell? ⟨g, off + k * 9 + 1, none⟩ = some (.int .i64 l[k].x.o.kind) ∧ w'.cell? ⟨g, off + k * 9 + 1 + 1, none⟩ = some (.int .i64 l[k].x.o.peer) ∧ w'.cell? ⟨g, off + k * 9 + 1 + 2, none⟩ = some (.int .i64 l[k].x.o.source) ∧ w'.cell? ⟨g, off + k * 9 + 1 + 3, none⟩ = some (.int .i64 l[k].x.o.layer) ∧ w'.cell? ⟨g, off + k * 9 + 1 + 4, none⟩ = some (.string (str l[k].x.o.name)) ∧ w'.cell? ⟨g, off + k * 9 + 1 + 5, none⟩ = some (.slice l[k].x.sa l[k].x.o.ssrcs.length l[k].x.sc) ∧ w'.cell? ⟨g, off + k * 9 + 1 + 6, none⟩ = some (.slice l[k].x.ba l[k].x.bl l[k].x.bc)) ∧ w'.cell? ⟨g, off + k * 9 + 8, none⟩ = some (.int .u32 l[k].ssrc)) := fun w' h => by
        obtain ⟨g', off', e1, hc⟩ := acts_at (HV.out _ h) (by omega)
        cases e1
        exact (hc k l[k] (List.getElem?_eq_getElem hkl)).2
      clear hcells
      generalize l[k] = y at *
      obtain ⟨gn, ⟨o, xa, xc, ya, yl, yc⟩, xs⟩ := y
      dsimp only at cg c0 c1 c2 c3 c4 c5 c6 cs HXR HCC
      have KEEP : Hid (∀ w', Below w.heap.size w w' → w'.cell? ⟨g, off + k * 9 + 1 + 1, none⟩ = some (.int .i64 o.peer) ∧ w'.cell? ⟨g, off + k * 9 + 8, none⟩ = some (.int .u32 xs) ∧ Below w.heap.size w w') := fun w' h => ⟨(HCC.out w' h).1.2.1, (HCC.out w' h).2, h⟩
      have hbr : Below w.heap.size w wr := HBL.out
      have hb0 : Below wr.heap.size wr wr := Below.refl _ _
      cases gn
      · go_wp2_with fail
        refine (Do_any ba R o xa ya xc yl yc _ HBO.out.room HBO.out.inv (HT.out _ HBL.out) (HXR.out _ HBL.out).2 (HXR.out _ HBL.out).1).mono ?_
        rintro e w5 ⟨tv, sv, rfl, htr, hra5, hfr5⟩
        have HBL5 := Lib.hid (HBL.out.trans (fr_below hfr5 hbw HBL.out.size))
        have hrf5 := ref_room HBO.out.ref HBO.out.room hfr5
        have hI5 := inv_doo HBO.out.inv o sv
        have hS5 := slim_doo HBO.out.slim o sv
        have C2 := rDo_sim bb T R o sv xa ya xc yl yc w5 hrf5 HBO.out.sim HBO.out.inv (HT.out _ HBL5.out) (HXR.out _ HBL5.out).2 (HXR.out _ HBL5.out).1
        have HC2 := Lib.hid C2
        obtain ⟨⟨d0, d1, d2, d3, d4, d5, d6⟩, -⟩ := HCC.out _ HBL5.out
        have HI5 := Lib.hid hI5
        have HS5 := Lib.hid hS5
        have HRF5 := Lib.hid hrf5
        have HRA5 := Lib.hid hra5
        have HTR5 := Lib.hid htr
        clear C2 hI5 hS5 hrf5 hra5 hfr5 htr hb0 hbr KEEP
        generalize doo R o sv = D at *
        obtain ⟨ta, tc, rfl, -, -⟩ := id HTR5.out
        go_wp2_with fail
        refine HC2.out.mono ?_
        rintro e w6 ⟨⟨uv, rfl, htr6⟩, ⟨T6, hrf6, hsim6⟩, hfr6⟩
        have HBL6 := Lib.hid (HBL5.out.trans (fr_below hfr6 hbb HBL5.out.size))
        have HTR56 := Lib.hid (HTR5.out.fr hfr6 (Nat.le_refl _) (HRF5.out.typ (by decide)))
        have HB6 : Hid (Both w6 ba bb D.1.2 T6) := ⟨HI5.out, HS5.out, room_ref HRA5.out HRF5.out hfr6, hrf6, hsim6⟩
        have HTR6 := Lib.hid htr6
        obtain ⟨ua, uc, rfl, -, -⟩ := id HTR6.out
        clear htr6 hrf6 hsim6 hfr6
        go_wp2_with fail
        refine (SameTurns_any _ _ D.1.1 D.1.1 _ HTR56.out HTR6.out).mono ?_
        rintro e w7 ⟨rfl, hb7⟩
        have HB7 := Lib.hid (HB6.out.below hb7)
        have HBL7 := Lib.hid (HBL6.out.trans (hb7.mono HBL6.out.size))
        rw [decide_eq_true rfl]
        clear hb7
        go_wp2_with fail
        refine (Table_any ba D.1.2 _ HB7.out.room HB7.out.slim.short).mono ?_
        rintro e w8 ⟨⟨p1, p2, p3, rfl, htab8⟩, hb8⟩
        have HTAB8 := Lib.hid htab8
        have HB8 := Lib.hid (HB7.out.below hb8)
        have HBL8 := Lib.hid (HBL7.out.trans (hb8.mono HBL7.out.size))
        clear htab8 hb8
        go_wp2_with fail
        refine (rTable_any bb T6 _ HB8.out.ref).mono ?_
        rintro e w9 ⟨⟨p4, p5, p6, rfl, htab9⟩, hb9⟩
        rw [HB8.out.sim.table HB8.out.inv] at htab9
        have HTAB9 := Lib.hid htab9
        have HTAB89 := Lib.hid (HTAB8.out.below hb9)
        have HB9 := Lib.hid (HB8.out.below hb9)
        have HBL9 := Lib.hid (HBL8.out.trans (hb9.mono HBL8.out.size))
        clear htab9 hb9
        go_wp2_with fail
        refine (SameTable_any _ _ _ _ _ _ (table D.1.2) (table D.1.2) _ HTAB89.out HTAB9.out).mono ?_
        rintro e w10 ⟨rfl, hb10⟩
        rw [decide_eq_true rfl]
        have HB10 := Lib.hid (HB9.out.below hb10)
        have HBL10 := Lib.hid (HBL9.out.trans (hb10.mono HBL9.out.size))
        clear hb10
        go_wp2
        go_roundw
        case rel => exact ⟨k + 1, by omega, by go_num, HBL10.out, D.1.2, T6, HB10.out⟩
        case measure => simp [intOf]; omega
      · go_upto_region 10 with fail
        have CG : Hid (∀ w4, Below wr.heap.size wr w4 → Calls Tryd.prog 29 #[.pointer (some ⟨ba, 0, none⟩), .int .i64 o.peer, .int .u32 xs] w4 fun e w' => (∃ v, e = .returned (.tuple #[v, .int .i64 (goneOp R o.peer xs).2]) ∧ TurnRow w' v (goneOp R o.peer xs).1.1 ∧ RefAt w' bb T) ∧ RoomAt w' ba (goneOp R o.peer xs).1.2 ∧ Below w.heap.size w w') := fun w4 h => by
          refine (Gone_any ba R o.peer xs w4 (HBO.out.room.below h)).mono ?_
          rintro e w' ⟨⟨v, he, htr⟩, hra, hfr⟩
          exact ⟨⟨v, he, htr, ref_room (HBO.out.ref.below h) (HBO.out.room.below h) hfr⟩, hra, (HBL.out.trans (h.mono HBL.out.size)).trans (fr_below hfr hbw (Nat.le_trans HBL.out.size h.size))⟩
        have HI5 : Hid (Inv (goneOp R o.peer xs).1.2) := inv_goneOp HBO.out.inv o.peer xs
        have HS5 : Hid (Slim (goneOp R o.peer xs).1.2) := slim_goneOp HBO.out.slim o.peer xs
        have CG2 : Hid (∀ w4, RefAt w4 bb T → _) := fun w4 h => rGone_sim bb T R o.peer xs w4 h HBO.out.sim HBO.out.inv
        generalize goneOp R o.peer xs = D at *
        go_region_held3 (fun w' => w'.cell? ⟨g, off + k * 9 + 1 + 1, none⟩ = some (.int .i64 o.peer) ∧ w'.cell? ⟨g, off + k * 9 + 8, none⟩ = some (.int .u32 xs) ∧ Below w.heap.size w w') (first | (exact KEEP.out _ (by first | with_reducible assumption | exact Below.drew (by with_reducible assumption))) | go_keep) (first | (go_at_call 29; go_split_ands; (with_reducible refine Calls.mono (CG.out _ (by first | with_reducible assumption | exact Below.drew (by with_reducible assumption))) ?_); rintro e w5 ⟨⟨tv, rfl, htr, hrf5⟩, hra5, hbl5⟩; obtain ⟨ta, tc, rfl, -, -⟩ := id htr) | fail)
        have HBL5 := Lib.hid hbl5
        have HTR5 := Lib.hid htr
        have HRF5 := Lib.hid hrf5
        have HRA5 := Lib.hid hra5
        clear hra5 hrf5 htr hb0 hbr CG hbl5
        have hbr : Below w.heap.size w w5 := HBL5.out
        have hb0 : Below w5.heap.size w5 w5 := Below.refl _ _
        have CG3 : Hid (∀ w4, Below w5.heap.size w5 w4 → Calls Tryd.prog 30 #[.pointer (some ⟨bb, 0, none⟩), .int .i64 o.peer, .int .u32 xs] w4 fun e w' => (∃ v, e = .returned (.tuple #[v, .int .i64 D.2]) ∧ TurnRow w' v D.1.1) ∧ TurnRow w' (.slice ta D.1.1.length tc) D.1.1 ∧ (∃ T6, Both w' ba bb D.1.2 T6) ∧ Below w.heap.size w w') := fun w4 h => by
          refine (CG2.out w4 (HRF5.out.below h)).mono ?_
          rintro e w' ⟨⟨v, he, htr⟩, ⟨T6, hrf6, hsim6⟩, hfr⟩
          exact ⟨⟨v, he, htr⟩, (HTR5.out.below h).fr hfr (Nat.le_refl _) ((HRF5.out.below h).typ (by decide)), ⟨T6, HI5.out, HS5.out, room_ref (HRA5.out.below h) (HRF5.out.below h) hfr, hrf6, hsim6⟩, (HBL5.out.trans (h.mono HBL5.out.size)).trans (fr_below hfr hbb (Nat.le_trans HBL5.out.size h.size))⟩
        go_upto_region 11 with fail
        go_region_held3 (fun w' => w'.cell? ⟨g, off + k * 9 + 1 + 1, none⟩ = some (.int .i64 o.peer) ∧ w'.cell? ⟨g, off + k * 9 + 8, none⟩ = some (.int .u32 xs) ∧ Below w.heap.size w w') (first | (exact KEEP.out _ (by first | with_reducible assumption | exact Below.drew (by with_reducible assumption))) | go_keep) (first | (go_at_call 30; go_split_ands; (with_reducible refine Calls.mono (CG3.out _ (by first | with_reducible assumption | exact Below.drew (by with_reducible assumption))) ?_); rintro e w6 ⟨⟨uv, rfl, htr6⟩, htr56, ⟨T6, hb6⟩, hbl6⟩; obtain ⟨ua, uc, rfl, -, -⟩ := id htr6) | fail)
        have HBL6 := Lib.hid hbl6
        have HTR6 := Lib.hid htr6
        have HTR56 := Lib.hid htr56
        have HB6 := Lib.hid hb6
        clear htr6 htr56 hb6 hb0 hbr CG3 CG2 hbl6
        go_wp2_with fail
        refine (SameTurns_any _ _ D.1.1 D.1.1 _ HTR56.out HTR6.out).mono ?_
        rintro e w7 ⟨rfl, hb7⟩
        have HB7 := Lib.hid (HB6.out.below hb7)
        have HBL7 := Lib.hid (HBL6.out.trans (hb7.mono HBL6.out.size))
        rw [decide_eq_true rfl]
        clear hb7
        go_wp2_with fail
        refine (Table_any ba D.1.2 _ HB7.out.room HB7.out.slim.short).mono ?_
        rintro e w8 ⟨⟨p1, p2, p3, rfl, htab8⟩, hb8⟩
        have HTAB8 := Lib.hid htab8
        have HB8 := Lib.hid (HB7.out.below hb8)
        have HBL8 := Lib.hid (HBL7.out.trans (hb8.mono HBL7.out.size))
        clear htab8 hb8
        go_wp2_with fail
        refine (rTable_any bb T6 _ HB8.out.ref).mono ?_
        rintro e w9 ⟨⟨p4, p5, p6, rfl, htab9⟩, hb9⟩
        rw [HB8.out.sim.table HB8.out.inv] at htab9
        have HTAB9 := Lib.hid htab9
        have HTAB89 := Lib.hid (HTAB8.out.below hb9)
        have HB9 := Lib.hid (HB8.out.below hb9)
        have HBL9 := Lib.hid (HBL8.out.trans (hb9.mono HBL8.out.size))
        clear htab9 hb9
        go_wp2_with fail
        refine (SameTable_any _ _ _ _ _ _ (table D.1.2) (table D.1.2) _ HTAB89.out HTAB9.out).mono ?_
        rintro e w10 ⟨rfl, hb10⟩
        rw [decide_eq_true rfl]
        have HB10 := Lib.hid (HB9.out.below hb10)
        have HBL10 := Lib.hid (HBL9.out.trans (hb10.mono HBL9.out.size))
        clear hb10
        go_wp2
        go_roundw
        case rel => exact ⟨k + 1, by omega, by go_num, HBL10.out, D.1.2, T6, HB10.out⟩
        case measure => simp [intOf]; omega
    · have hcase : ¬ k < l.length ∨ (k < l.length ∧ ¬ k < 80) := by omega
      clear hkl
      rcases hcase with h1 | ⟨h1, h2⟩
      all_goals
        go_wp2
        go_ret
        exact ⟨rfl, HBL.out⟩
end Go.Proofs.Rm
namespace Go.Proofs.Rm
open Go.RowKit Go.Proofs.Heap Go.Proofs.Mem
open Go.Proofs.Lab (may key Tabs)
def sOps (h : Nat) : List OpV := [⟨op1, none, 0, none, 0, 0⟩, ⟨op2, none, 0, none, 0, 0⟩, ⟨op3, some ⟨h, 0, none⟩, 2, none, 0, 0⟩, ⟨op4, none, 0, none, 0, 0⟩]
theorem start_any (w : World) : Calls Tryd.prog 33 #[] w fun e w' => e = .returned (.slice (some ⟨w.heap.size + 1, 0, none⟩) 4 4) ∧ OpsRow w' (.slice (some ⟨w.heap.size + 1, 0, none⟩) 4 4) (sOps w.heap.size) ∧ Below w.heap.size w w' := by
  go_enter Tryd.func33, Tryd.ntmps33
  go_wp2
  go_ret
  have hr : Row ((w.alloc (.cells (u32s [10, 11]).toArray 23)).alloc (.cells ((sOps w.heap.size).flatMap opvCells).toArray 40)) 23 (.slice (some ⟨w.heap.size, 0, none⟩) 2 2) 2 (u32s [10, 11]) := (row_new w _ 2 (u32s [10, 11]) (by decide)).below (below_alloc _ _)
  have ho : Row ((w.alloc (.cells (u32s [10, 11]).toArray 23)).alloc (.cells ((sOps w.heap.size).flatMap opvCells).toArray 40)) 40 (.slice (some ⟨w.heap.size + 1, 0, none⟩) 4 4) 4 ((sOps w.heap.size).flatMap opvCells) := row_new' _ _ 4 _ _ (by decide) (by simp)
  refine ⟨rfl, ⟨ho, ?_⟩, ((Below.refl _ _).alloc (Nat.le_refl _) _).alloc (by simp) _⟩
  intro x hx
  simp only [sOps, List.mem_cons, List.mem_nil_iff, or_false] at hx
  rcases hx with rfl | rfl | rfl | rfl
  · exact ⟨Row.nil _ _, by decide⟩
  · exact ⟨Row.nil _ _, by decide⟩
  · exact ⟨hr, by show op3.name.length < 9223372036854775807; decide⟩
  · exact ⟨Row.nil _ _, by decide⟩
/-- The rooms of 'start'. -/
def st : Nat → Value → Room
  | 0, _ => empty
  | 1, _ => empty.setName 1 [97, 110, 110]
  | 2, _ => (empty.setName 1 [97, 110, 110]).setName 2 [98, 111, 98]
  | 3, sv => ((empty.setName 1 [97, 110, 110]).setName 2 [98, 111, 98]).setSrc 3 ⟨true, 3, 1, sv, [10, 11], false⟩
  | _, sv => (((empty.setName 1 [97, 110, 110]).setName 2 [98, 111, 98]).setSrc 3 ⟨true, 3, 1, sv, [10, 11], false⟩).setSub 3 2 ⟨true, false, 1⟩
def stOp : Nat → Op
  | 0 => op1
  | 1 => op2
  | 2 => op3
  | _ => op4
def stTurns : Nat → List Turn
  | 4 => [⟨1, 2, 3, 1, 0⟩, ⟨9, 1, 3, 0, 11⟩]
  | _ => []
theorem doo_ok {R : Room} {o : Op} {sv : Value} (h : wrong R o = 0) : doo R o sv = (turns R o sv, 0) := by unfold doo; rw [h]; simp
theorem st_wrong0 (sv : Value) : wrong (st 0 sv) op1 = 0 := by kernel_rfl
theorem st_wrong1 (sv : Value) : wrong (st 1 sv) op2 = 0 := by kernel_rfl
theorem st_wrong2 (sv : Value) : wrong (st 2 sv) op3 = 0 := by kernel_rfl
theorem st_wrong3 (sv : Value) : wrong (st 3 sv) op4 = 0 := by kernel_rfl
theorem st_wrong4 (sv : Value) : wrong (st 4 sv) op5 = 9 := by kernel_rfl
theorem st_step (k : Nat) (hk : k < 4) (sv sv' : Value) : ∃ sv2, doo (st k sv) (stOp k) sv' = ((stTurns (k + 1), st (k + 1) sv2), 0) := by
  have : k = 0 ∨ k = 1 ∨ k = 2 ∨ k = 3 := by omega
  rcases this with rfl | rfl | rfl | rfl
  · exact ⟨sv, (doo_ok (st_wrong0 sv)).trans rfl⟩
  · exact ⟨sv, (doo_ok (st_wrong1 sv)).trans rfl⟩
  · exact ⟨sv', (doo_ok (st_wrong2 sv)).trans rfl⟩
  · exact ⟨sv, (doo_ok (st_wrong3 sv)).trans rfl⟩
theorem st_last (sv sv' : Value) : doo (st 4 sv) op5 sv' = (([], st 4 sv), 9) := by unfold doo; rw [st_wrong4]; rfl
theorem st_of (sv : Value) : of (st 4 sv) 11 = (3, 1, true) := by kernel_rfl
theorem st_subs (sv : Value) : subs (st 4 sv) 3 = [2] := by kernel_rfl
theorem st_joined (sv : Value) : joined (st 4 sv) 2 = true := by kernel_rfl
theorem st_inv : ∀ k, k ≤ 4 → ∀ sv, Inv (st k sv)
  | 0, _, sv => inv_empty
  | 1, _, sv => by have := inv_doo (st_inv 0 (by omega) sv) op1 sv; rw [doo_ok (st_wrong0 sv)] at this; exact this
  | 2, _, sv => by have := inv_doo (st_inv 1 (by omega) sv) op2 sv; rw [doo_ok (st_wrong1 sv)] at this; exact this
  | 3, _, sv => by have := inv_doo (st_inv 2 (by omega) sv) op3 sv; rw [doo_ok (st_wrong2 sv)] at this; exact this
  | 4, _, sv => by have := inv_doo (st_inv 3 (by omega) sv) op4 sv; rw [doo_ok (st_wrong3 sv)] at this; exact this
theorem sOps_at (h k : Nat) (hk : k < 4) : ∃ sa sc, (sOps h)[k]? = some ⟨stOp k, sa, sc, none, 0, 0⟩ := by
  have : k = 0 ∨ k = 1 ∨ k = 2 ∨ k = 3 := by omega
  rcases this with rfl | rfl | rfl | rfl <;> exact ⟨_, _, rfl⟩
set_option maxRecDepth 100000 in
set_option maxHeartbeats 8000000 in
theorem shown_any (w : World) (hT : Tabs w) : Calls Tryd.prog 10 #[] w fun e w' => e = .returned (.bool true) ∧ Below w.heap.size w w' := by
  have HT : Hid (∀ w', Below w.heap.size w w' → Tabs w') := fun w' h => Utf8Tabs_below hT h
  clear hT
  go_enter Tryd.func10, Tryd.ntmps10
  go_wp2_with fail
  refine (New_any _).mono ?_
  rintro e w1 ⟨rfl, hroom, hb1⟩
  have HROOM := Lib.hid hroom
  have HB1 := Lib.hid hb1
  have hbw : w.heap.size ≤ w.heap.size := Nat.le_refl _
  clear hroom hb1
  go_wp2_with fail
  refine (start_any _).mono ?_
  rintro e w2 ⟨rfl, hops, hb2⟩
  have HB2 := Lib.hid (HB1.out.trans (hb2.mono HB1.out.size))
  have HROOM2 := Lib.hid (HROOM.out.below hb2)
  have HOPS := Lib.hid hops
  clear hops hb2
  obtain ⟨H, hH⟩ : ∃ H, H = w1.heap.size := ⟨_, rfl⟩
  rw [← hH] at HOPS ⊢
  clear hH
  go_wp2_with fail
  go_loopw [2, 15] (fun t i w' => ∃ k : Nat, k ≤ 4 ∧ i = .int .i64 k ∧ Below w.heap.size w w' ∧ OpsRow w' (.slice (some ⟨H + 1, 0, none⟩) 4 4) (sOps H) ∧ TurnRow w' t (stTurns k) ∧ ∃ sv, RoomAt w' w.heap.size (st k sv)) (fun _ i _ => 4 - (intOf i).toNat)
  case atStart => exact ⟨0, by omega, rfl, HB2.out, HOPS.out, Row.nil _ _, .slice none 0 0, HROOM2.out⟩
  case round =>
    clear HROOM HROOM2 HB1 HB2 HOPS
    obtain ⟨k, hk, rfl, hbl, hops, htr, sv, hroom⟩ := hrel
    have HBL := Lib.hid hbl
    have HOPS := Lib.hid hops
    have HROOM := Lib.hid hroom
    have HTR := Lib.hid htr
    have hsz := hbl.size
    have hrl := hroom.lt
    obtain ⟨ta, tc, rfl, _⟩ := id htr
    clear hbl hroom htr
    by_cases hk4 : k < 4
    · obtain ⟨g, off, e1, hcells⟩ := ops_at (l := sOps H) (a := some ⟨H + 1, 0, none⟩) (c := 4) hops (Nat.zero_lt_succ _)
      cases e1
      obtain ⟨xa, xc, hx⟩ := sOps_at H k hk4
      obtain ⟨c0, c1, c2, c3, c4, c5, c6⟩ := hcells k _ hx
      have HXR := Lib.hid (hops.each _ (List.mem_of_getElem? hx))
      have hgl : H + 1 < wr.heap.size := World.block_lt_of_cell? wr ⟨H + 1, 0 + k * 7, none⟩ c0
      have HST := Lib.hid (st_step k hk4 sv)
      have HINV := Lib.hid (st_inv k (by omega) sv)
      clear hcells hx hops
      generalize stOp k = o at *
      dsimp only at c0 c1 c2 c3 c4 c5 c6 HXR
      simp only [Nat.zero_add] at c0 c1 c2 c3 c4 c5 c6
      have CD : Hid (∀ w4, Below wr.heap.size wr w4 → Calls Tryd.prog 12 #[.pointer (some ⟨w.heap.size, 0, none⟩), .agg #[.int .i64 o.kind, .int .i64 o.peer, .int .i64 o.source, .int .i64 o.layer, .string (str o.name), .slice xa o.ssrcs.length xc, .slice none 0 0]] w4 (DoPost w.heap.size (st k sv) o w4)) :=
        fun w4 h => Do_any w.heap.size (st k sv) o xa none xc 0 0 w4 (HROOM.out.below h) HINV.out (HT.out _ (HBL.out.trans (h.mono HBL.out.size))) HXR.out.2 (HXR.out.1.below h).r
      go_wp2_with fail
      refine (CD.out _ (below_alloc _ _)).mono ?_
      rintro e w5 ⟨tv, sv', rfl, htr5, hroom5, hfr5⟩
      obtain ⟨sv2, hd⟩ := HST.out sv'
      rw [hd] at htr5 hroom5
      rw [hd]
      clear hd
      have HTR5 := Lib.hid htr5
      have HROOM5 := Lib.hid hroom5
      have HFR5 : Hid (Fr wr.heap.size (· = w.heap.size) wr w5) := (Fr.of_below _ (below_alloc wr _)).trans (hfr5.mono (by simp) (fun _ _ h => h))
      have HBL5 : Hid (Below w.heap.size w w5) := HBL.out.trans (Fr.below (HFR5.out.mono hsz (fun k hk hs => by have hs : k = w.heap.size := hs; omega)))
      have HOPS5 : Hid (OpsRow w5 (.slice (some ⟨H + 1, 0, none⟩) 4 4) (sOps H)) := HOPS.out.fr HFR5.out HROOM.out
      obtain ⟨ua, uc, rfl, _⟩ := id htr5
      clear htr5 hroom5 hfr5
      go_wp2
      go_roundw
      case rel => exact ⟨k + 1, by omega, by go_num, HBL5.out, HOPS5.out, HTR5.out, sv2, HROOM5.out⟩
      case measure => simp [intOf]; omega
    · obtain rfl : k = 4 := by omega
      have CO := Lib.hid (Of_any w.heap.size (st 4 sv) 11 wr HROOM.out)
      rw [st_of] at CO
      clear hops
      go_wp2_with fail
      refine CO.out.mono ?_
      rintro e w2 ⟨rfl, hb2⟩
      have HR2 := Lib.hid (HROOM.out.below hb2)
      have HTR2 := Lib.hid (HTR.out.below hb2)
      have HBL2 := Lib.hid (HBL.out.trans (hb2.mono HBL.out.size))
      have CD : Hid (Calls Tryd.prog 12 #[.pointer (some ⟨w.heap.size, 0, none⟩), .agg #[.int .i64 2, .int .i64 3, .int .i64 0, .int .i64 0, .string ⟨#[65, 78, 78]⟩, .slice none 0 0, .slice none 0 0]] w2 (DoPost w.heap.size (st 4 sv) op5 w2)) :=
        Do_any w.heap.size (st 4 sv) op5 none none 0 0 0 w2 HR2.out (st_inv 4 (by omega) sv) (HT.out _ HBL2.out) (by decide) (RRow.nil _)
      clear hb2
      go_wp2_with fail
      refine CD.out.mono ?_
      rintro e w3 ⟨tv, sv', rfl, htr3, hroom3, hfr3⟩
      rw [st_last] at htr3 hroom3 ⊢
      obtain ⟨va, vc, rfl, _⟩ := htr3
      have HTR3 : Hid (TurnRow w3 (.slice ta 2 tc) [⟨1, 2, 3, 1, 0⟩, ⟨9, 1, 3, 0, 11⟩]) := HTR2.out.fr hfr3 (Nat.le_refl _) (HR2.out.typ (by decide))
      have HBL3 : Hid (Below w.heap.size w w3) := HBL2.out.trans (Fr.below (hfr3.mono HBL2.out.size (fun k hk hs => by have hs : k = w.heap.size := hs; omega)))
      have CSB := Subs_any w.heap.size (st 4 sv) 3 w3 hroom3
      rw [st_subs] at CSB
      have CJ : Hid (∀ w4, Below w3.heap.size w3 w4 → Calls Tryd.prog 20 #[.pointer (some ⟨w.heap.size, 0, none⟩), .int .i64 2] w4 fun e w' => e = .returned (.bool true) ∧ w4 = w') := fun w4 h => by
        have := Joined_any w.heap.size (st 4 sv) 2 w4 (hroom3.below h)
        rw [st_joined] at this
        exact this
      have HSB := Lib.hid CSB
      clear CSB hfr3 hroom3
      obtain ⟨g, off, cap, e1, hg, hc⟩ := turn_at HTR3.out (by decide)
      obtain ⟨e2, e3⟩ := slice_inj e1
      obtain ⟨a0, a1, a2, a3, a4⟩ := hc 0 ⟨1, 2, 3, 1, 0⟩ rfl
      obtain ⟨b0, b1, b2, b3, b4⟩ := hc 1 ⟨9, 1, 3, 0, 11⟩ rfl
      subst e2
      clear e1 e3 hc
      simp only [Nat.zero_mul, Nat.add_zero, Nat.one_mul] at a0 a1 a2 a3 a4 b0 b1 b2 b3 b4
      go_wp2_with (first | (go_at_call 23; refine HSB.out.mono ?_; rintro e w4 ⟨⟨lv, rfl, hrow⟩, hb4⟩; obtain ⟨la, lc, rfl, _⟩ := hrow) | (go_at_call 20; refine (CJ.out _ hb4).mono ?_; rintro e w5 ⟨rfl, rfl⟩))
      go_ret
      exact ⟨rfl, HBL3.out.trans (hb4.mono HBL3.out.size)⟩
end Go.Proofs.Rm
