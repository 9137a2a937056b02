/- RelationAt: for every input the call returns true, and each argument reads as it read before. -/
import Derived.Test.YtpdjhlcbcomdkaaGreatDoorCards
import Derived.Test.YtpdjhlcbcomdkaaGreatDoorTie
import Derived.Lib.LaidIn
import Derived.Lib.LaidU8T
import Derived.Deep.DeepHandedRow
import Derived.Deep.DeepWitnessRowRef
import Derived.ProofKit
import Derived.OpenShut
import Derived.SizedLaws
import Derived.Test.YtpdjhlcbcomdkaaGreatDoorT29
open Go Go.Q Go.Qr
namespace Go.Proofs.YtpdjhlcbcomdkaaGreatDoor.cardRelationAt
open Go.ChangeShapes Go.WideShapes Go.ChangeAt Go.RowKit Go.Lib Go.Shelf 
open Go.ChangeMaps (open_string shut_string)
theorem own : ownKnob Tryz.prog.godebug = none := by kernel_rfl
noncomputable def laidWorld (os : Os) : World :=
 let w0 := World.holding Tryz.prog os ⟨#[], #[], []⟩
 let put (h : Array Obj) (g : Nat) (cs : Array Value) : Array Obj := h.modify g fun
  | .cells _ t frozen => .cells cs t frozen
  | o => o
 let h1 := put w0.heap 0 (Lib.firstTab.map fun z => Value.int .u8 z).toArray
 let h2 := put h1 1 ((List.range 16).flatMap fun i => [Value.int .u8 (Lib.accLo i), Value.int .u8 (Lib.accHi i)]).toArray
 { w0 with heap := h2 }
theorem laid_met(os : Os)(args : Array Value) : laidMet Tryz.prog Rows.relationAtRow.laid ((laidWorld os).forCall (fun _ _ => 0) ⟨#[], args, []⟩).memory :=
 (LaidIn.of_run (l := Rows.relationAtRow.laid) [1, 0] 8 (by kernel_rfl) (by kernel_rfl) (by kernel_rfl) (by kernel_rfl)).met
theorem tabs{W : World}(hL : laidMetH Tryz.prog Rows.relationAtRow.laid W) : ND.Xu W :=
 utf8Tabs_of_readsT (show U8Types Tryz.prog Tryz.lays197_ren from{ Tryz.lays197 with }) ⟨by kernel_rfl, by kernel_rfl, by kernel_rfl, by kernel_rfl, by kernel_rfl, by kernel_rfl, by kernel_rfl⟩
  ((show Lib.firstData = Rows.laid_unicode_utf8_first by kernel_rfl) ▸ Lib.laidMet.reads hL (.tail _ (.head _))) ((show Lib.acceptData = Rows.laid_unicode_utf8_acceptRanges by kernel_rfl) ▸ Lib.laidMet.reads hL (.head _))

set_option maxRecDepth 100000 in
theorem contract(H : Type)(enc : TypeId×Value → H)(W : World)(base : Nat)(args : Array Value)(ds gs : List (DataW H))(before : List MemPlace)
  (mo : ∀(j : Nat) t v, Tryz.f12.params[j]? = some t → args[j]? = some v → Value.okWide Tryz.prog W .any base t v)
  (hW : DataW.Whole enc Tryz.prog Tryz.f12.params.toList Rows.relationAtSpec.vars false W args.toList ds gs before) (hL : laidMetH Tryz.prog Rows.relationAtRow.laid W)
  (hz : (DataW.weightsEach Tryz.prog (Tryz.f12.params.toList ++ []) (ds ++ gs)).all (· ≤ reachBytes) = true) :
  Calls Tryz.prog 12 args W fun e W' => ∃v, e = .returned v ∧ Rows.relationAtSpec.post enc Tryz.prog Tryz.f12 false true false false W args v W' := by
 have hW' := hW
 obtain⟨p, q, hA0, hV, rfl, I8, aj⟩ := hW
 have hA : DataW.TrodAll enc Tryz.prog W 0 (fun _ => true) true Tryz.f12.params.toList args.toList ds p := hA0
 rw[Tryz.params12]at hA mo hz
 obtain⟨v0, vs0, d0, ds0, p0, q0, ll, rfl, rfl, h0, r0⟩ := trodAll_cons hA
 obtain⟨v1, vs1, d1, ds1, p1, q1, rfl, rfl, rfl, h1, r1⟩ := trodAll_cons r0
 obtain⟨v2, vs2, d2, ds2, p2, q2, rfl, rfl, rfl, h2, r2⟩ := trodAll_cons r1
 obtain⟨rfl, rfl, rfl⟩ := trodAll_nil r2
 obtain rfl : args = #[v0, v1, v2] := by cases args; simp_all
 obtain⟨rfl, rfl⟩ := trodVars_none hV
 have hcl0 : v0.cells = #[v0] := by
  have hk := mo 0 22 v0 (by rfl) (by rfl)
  exact Frame.xS Tryz.underlying22 hk
 have hzz0 : ∀n ∈ d0.weights Tryz.prog 22, n ≤ reachBytes := fun n hn => of_decide_eq_true (List.all_eq_true.1 hz n (DataW.weights_mem_each (j := 0) (t := 22) (by rfl) (by rfl) n hn))
 obtain⟨l, hl⟩ := By.qK (H := H) Tryz.underlying22 hcl0 h0 hzz0
 obtain⟨x, rfl⟩ := By.qJ (H := H) h1
 obtain⟨k, rfl, rfl, rfl, wf2⟩ := open_int Tryz.underlying3 (mo 2 3 v2 rfl rfl) h2
 rw[rW]at hz

 have hT := tabs hL
 refine(By.E8 v0 l x k W hT hl).mono fun e W' ⟨he, hb⟩ => ?_
 subst he
 exact⟨_, rfl, Frame.mI hW' (by kernel_rfl) (by rw[Tryz.params12]; intro t ht; simp only[J9, List.mem_nil_iff, or_false]at ht; rcases ht with rfl | rfl | rfl <;> exact⟨by kernel_rfl, of_decide_eq_true (by kernel_rfl)⟩) rfl rfl rfl Tryz.underlying4 hb⟩
theorem witness_row(os : Os){H : Type}(enc : TypeId×Value → H) :
  (OpenSpec.ofChange Rows.relationAtSpec).preRow enc Tryz.prog Tryz.f12 Rows.relationAtRow.domain false Rows.relationAtRow.laid ((laidWorld os).forCall (fun _ _ => 0) ⟨#[], (Ji none 0 0 (Qb 0 0 0 0) 0), []⟩).memory (Ji none 0 0 (Qb 0 0 0 0) 0) := by
 have hw : (DataW.whole enc Tryz.prog ((laidWorld os).forCall (fun _ _ => 0) ⟨#[], (Ji none 0 0 (Qb 0 0 0 0) 0), []⟩).memory Tryz.f12.params.toList (OpenSpec.ofChange Rows.relationAtSpec).vars false ((Ji none 0 0 (Qb 0 0 0 0) 0) : Array Value).toList 8).map (fun x => (x.1, x.2.1)) =
   some ([.nil,.agg [.lit (.int .i64 0),.lit (.int .i64 0),.lit (.int .i64 0),.lit (.int .i64 0)],.lit (.int .i64 0)], []) := by kernel_rfl
 obtain⟨⟨x1, x2, x3⟩, hx, SF⟩ := Option.map_eq_some_iff.1 hw
 simp only[Prod.mk.injEq]at SF
 obtain⟨rfl, rfl⟩ := SF
 exact OpenSpec.preRow_of_cond 8 hx (by kernel_rfl) (fun k hk => by cases hk) (by kernel_rfl) (laid_met os _)
set_option maxRecDepth 100000 in
set_option maxHeartbeats 2000000 in
theorem lifted(os : Os)(started : os.Started)(H : Type)(enc : TypeId×Value → H)(F : Stop.Interp) :
  ReturnsInHanded {} Tryz.checked os 12 .any ((OpenSpec.ofChange Rows.relationAtSpec).preRow enc Tryz.prog Tryz.f12 Rows.relationAtRow.domain false Rows.relationAtRow.laid) (((OpenSpec.ofChange Rows.relationAtSpec).at F).post enc Tryz.prog Tryz.f12 false true false false) := by
 refine returnsInHanded_of_row (C := Tryz.checked) (s := (OpenSpec.ofChange Rows.relationAtSpec)) own started (by kernel_rfl) Tryz.func12
  (witness_row_atRef (enc := enc) (C := Tryz.checked) false (laidWorld os) (Ji none 0 0 (Qb 0 0 0 0) 0) rfl (by kernel_rfl) (by kernel_rfl) (by kernel_rfl) (witness_row os enc)) ?_
 intro W base args ds gs before mo hW _ hcond hz hL _ _
 exact contract H enc W base args ds gs before mo hW hL hz
theorem Tz{a b : Bool}(ha : a = true)(hb : b = true) : (a&&b) = true := by rw[ha, hb]; rfl
theorem jE : Tryz.pinned.checked.prog.mayEnter = true := by kernel_rfl
theorem jL : (Rows.relationAtRow.lifted == Tryz.pinned.checked.prog.liftsFinal) = true := by kernel_rfl
theorem jM : (Tryz.pinned.checked.prog.make==some Rows.relationAtRow.make) = true := by kernel_rfl
theorem closed : joinedFacts Tryz.pinned.checked.prog 12 Tryz.f12 (OpenSpec.ofChange Rows.relationAtSpec).bare Rows.relationAtRow = true := by
 unfold joinedFacts
 exact Tz (Tz (Tz (Tz (Tz (Tz (Tz (Tz (Tz (Tz (Tz (Tz (Tz (Tz (Tz (Tz (Tz (Tz (Tz (Tz (Tz (Tz (Tz (Tz (Tz (Tz (Tz (Tz (Tz (Tz (Tz ((by kernel_rfl)) (by kernel_rfl)) (by kernel_rfl)) (by kernel_rfl)) (by kernel_rfl)) (by kernel_rfl)) (by kernel_rfl)) (by kernel_rfl)) (by kernel_rfl)) (by kernel_rfl)) (by kernel_rfl)) (by kernel_rfl)) (by kernel_rfl)) (by kernel_rfl)) (by kernel_rfl)) (by kernel_rfl)) (by kernel_rfl)) (by kernel_rfl)) (by kernel_rfl)) (by kernel_rfl)) (by kernel_rfl)) (by kernel_rfl)) (by kernel_rfl)) (by kernel_rfl)) (by kernel_rfl)) jE) jL) jM) (by kernel_rfl)) (by kernel_rfl)) (by kernel_rfl)) (by kernel_rfl)
theorem said : Rows.RelationAtSaid :=
 OpenClaim.holds_of_cond 12 Tryz.f12 rfl rfl rfl rfl rfl rfl rfl ⟨rfl, rfl, rfl, rfl, rfl⟩ rfl rfl rfl rfl rfl (by kernel_rfl) Tryz.func12 closed
  (of_decide_eq_true (by kernel_rfl)) (by unfold Func.isWrapper; first | (rw[ZU (by decide +kernel)]; kernel_rfl) | (rw[Z3 (by decide +kernel)]; exact⟨rfl, rfl⟩))
  (fun os started H enc _ F => by rw[OpenClaim.pre_eq_preRow]; exact lifted os started H enc F)
theorem plain(f : FuncId)(fn : Func)(hf : Tryz.pinned.checked.prog.funcNamed Rows.relationAtRow.func = some f)(hfn : Tryz.pinned.checked.prog.funcs[f]? = some fn) :
  true = Tryz.pinned.checked.prog.looks [] ∧ ∀(j : Nat) t, fn.params[j]? = some t → Tryz.pinned.checked.prog.wantsStandIn t = false := by
 obtain rfl : f = 12 := Option.some.inj ((show Tryz.prog.funcNamed Rows.relationAtRow.func = some 12 by kernel_rfl).symm.trans hf) |>.symm
 obtain rfl : fn = Tryz.f12 := (Option.some.inj (Tryz.func12.symm.trans hfn)).symm
 refine⟨by kernel_rfl, fun j t ht => ?_⟩
 rw[Tryz.params12]at ht
 have ht := Array.mem_of_getElem? ht
 simp only[List.mem_toArray, J9, List.mem_nil_iff, or_false]at ht
 rcases ht with rfl | rfl | rfl <;> exact(show Tryz.prog.wantsStandIn _ = false by kernel_rfl)
theorem card : Rows.RelationAtCardSaid :=
 Claim7.holds_tied_plain_at .later [] _ _ _ _ said (fun _ h => by cases h) (by kernel_rfl) (fun _ h => by cases h) relationAt_row_tie rfl ⟨rfl, rfl⟩ (by kernel_rfl) rfl plain (by kernel_rfl)
end Go.Proofs.YtpdjhlcbcomdkaaGreatDoor.cardRelationAt
