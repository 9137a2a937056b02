/- RelationSent: for every input the call returns true, and each argument reads as it read before. -/
import Derived.Test.YtpdjhlcbcomdkaaGreatDoorCards
import Derived.Test.YtpdjhlcbcomdkaaGreatDoorTie
import Derived.Lib.LaidIn
import Derived.Lib.LaidU8T
import Derived.Deep.DeepHandedRow
import Derived.Deep.DeepWitnessRowRef
import Derived.ProofKit
import Derived.OpenShut
import Derived.SizedLaws
import Derived.Test.YtpdjhlcbcomdkaaGreatDoorS14
open Go Go.Q Go.Qr
namespace Go.Proofs.YtpdjhlcbcomdkaaGreatDoor.cardRelationSent
open Go.ChangeShapes Go.WideShapes Go.ChangeAt Go.RowKit Go.Lib Go.Shelf 
open Go.ChangeMaps (open_string shut_string)
theorem own : ownKnob Tryz.prog.godebug = none := by kernel_rfl
noncomputable def laidWorld (os : Os) : World :=
 let w0 := World.holding Tryz.prog os ⟨#[], #[], []⟩
 let put (h : Array Obj) (g : Nat) (cs : Array Value) : Array Obj := h.modify g fun
  | .cells _ t frozen => .cells cs t frozen
  | o => o
 let h1 := put w0.heap 0 (Lib.firstTab.map fun z => Value.int .u8 z).toArray
 let h2 := put h1 1 ((List.range 16).flatMap fun i => [Value.int .u8 (Lib.accLo i), Value.int .u8 (Lib.accHi i)]).toArray
 { w0 with heap := h2 }
theorem laid_met(os : Os)(args : Array Value) : laidMet Tryz.prog Rows.relationSentRow.laid ((laidWorld os).forCall (fun _ _ => 0) ⟨#[], args, []⟩).memory :=
 (LaidIn.of_run (l := Rows.relationSentRow.laid) [1, 0] 8 (by kernel_rfl) (by kernel_rfl) (by kernel_rfl) (by kernel_rfl)).met
theorem tabs{W : World}(hL : laidMetH Tryz.prog Rows.relationSentRow.laid W) : By.Xn W :=
 utf8Tabs_of_readsT (show U8Types Tryz.prog Tryz.lays197_ren from{ Tryz.lays197 with }) ⟨by kernel_rfl, by kernel_rfl, by kernel_rfl, by kernel_rfl, by kernel_rfl, by kernel_rfl, by kernel_rfl⟩
  ((show Lib.firstData = Rows.laid_unicode_utf8_first by kernel_rfl) ▸ Lib.laidMet.reads hL (.tail _ (.head _))) ((show Lib.acceptData = Rows.laid_unicode_utf8_acceptRanges by kernel_rfl) ▸ Lib.laidMet.reads hL (.head _))

set_option maxRecDepth 100000 in
theorem contract(H : Type)(enc : TypeId×Value → H)(W : World)(base : Nat)(args : Array Value)(ds gs : List (DataW H))(before : List MemPlace)
  (fW : ∀(j : Nat) t v, Tryz.f8.params[j]? = some t → args[j]? = some v → Value.okWide Tryz.prog W .any base t v)
  (hW : DataW.Whole enc Tryz.prog Tryz.f8.params.toList Rows.relationSentSpec.vars false W args.toList ds gs before) (hL : laidMetH Tryz.prog Rows.relationSentRow.laid W)
  (hz : (DataW.weightsEach Tryz.prog (Tryz.f8.params.toList ++ []) (ds ++ gs)).all (· ≤ reachBytes) = true) :
  Calls Tryz.prog 8 args W fun e W' => ∃v, e = .returned v ∧ Rows.relationSentSpec.post enc Tryz.prog Tryz.f8 false true false false W args v W' := by
 have hW' := hW
 obtain⟨p, q, hA0, hV, rfl, IV, hnd⟩ := hW
 have hA : DataW.TrodAll enc Tryz.prog W 0 (fun _ => true) true Tryz.f8.params.toList args.toList ds p := hA0
 rw[Tryz.params8]at hA fW hz
 obtain⟨v0, vs0, d0, ds0, p0, q0, ko, rfl, rfl, h0, r0⟩ := trodAll_cons hA
 obtain⟨v1, vs1, d1, ds1, p1, q1, rfl, rfl, rfl, h1, r1⟩ := trodAll_cons r0
 obtain⟨rfl, rfl, rfl⟩ := trodAll_nil r1
 obtain rfl : args = #[v0, v1] := by cases args; simp_all
 obtain⟨rfl, rfl⟩ := trodVars_none hV
 have hcl0 : v0.cells = #[v0] := by
  have hk := fW 0 22 v0 (by rfl) (by rfl)
  exact By.xk Tryz.underlying22 hk
 have hzz0 : ∀n ∈ d0.weights Tryz.prog 22, n ≤ reachBytes := fun n hn => of_decide_eq_true (List.all_eq_true.1 hz n (DataW.weights_mem_each (j := 0) (t := 22) (by rfl) (by rfl) n hn))
 obtain⟨l, hl⟩ := By.p_ (H := H) Tryz.underlying22 hcl0 h0 hzz0
 obtain⟨x, rfl⟩ := By.p9 (H := H) h1
 rw[rC]at hz

 have hT := tabs hL
 refine(By.Iz v0 l x W hT hl).mono fun e W' ⟨he, hb⟩ => ?_
 subst he
 exact⟨_, rfl, By.lM hW' (by kernel_rfl) (by rw[Tryz.params8]; intro t ht; simp only[K5, List.mem_nil_iff, or_false]at ht; rcases ht with rfl | rfl <;> exact⟨by kernel_rfl, of_decide_eq_true (by kernel_rfl)⟩) rfl rfl rfl Tryz.underlying4 hb⟩
theorem witness_row(os : Os){H : Type}(enc : TypeId×Value → H) :
  (OpenSpec.ofChange Rows.relationSentSpec).preRow enc Tryz.prog Tryz.f8 Rows.relationSentRow.domain false Rows.relationSentRow.laid ((laidWorld os).forCall (fun _ _ => 0) ⟨#[], (Jj none 0 0 (Qb 0 0 0 0)), []⟩).memory (Jj none 0 0 (Qb 0 0 0 0)) := by
 have hw : (DataW.whole enc Tryz.prog ((laidWorld os).forCall (fun _ _ => 0) ⟨#[], (Jj none 0 0 (Qb 0 0 0 0)), []⟩).memory Tryz.f8.params.toList (OpenSpec.ofChange Rows.relationSentSpec).vars false ((Jj none 0 0 (Qb 0 0 0 0)) : Array Value).toList 8).map (fun x => (x.1, x.2.1)) =
   some ([.nil,.agg [.lit (.int .i64 0),.lit (.int .i64 0),.lit (.int .i64 0),.lit (.int .i64 0)]], []) := by kernel_rfl
 obtain⟨⟨x1, x2, x3⟩, hx, Sg⟩ := Option.map_eq_some_iff.1 hw
 simp only[Prod.mk.injEq]at Sg
 obtain⟨rfl, rfl⟩ := Sg
 exact OpenSpec.preRow_of_cond 8 hx (by kernel_rfl) (fun k hk => by cases hk) (by kernel_rfl) (laid_met os _)
set_option maxRecDepth 100000 in
set_option maxHeartbeats 2000000 in
theorem lifted(os : Os)(started : os.Started)(H : Type)(enc : TypeId×Value → H)(F : Stop.Interp) :
  ReturnsInHanded {} Tryz.checked os 8 .any ((OpenSpec.ofChange Rows.relationSentSpec).preRow enc Tryz.prog Tryz.f8 Rows.relationSentRow.domain false Rows.relationSentRow.laid) (((OpenSpec.ofChange Rows.relationSentSpec).at F).post enc Tryz.prog Tryz.f8 false true false false) := by
 refine returnsInHanded_of_row (C := Tryz.checked) (s := (OpenSpec.ofChange Rows.relationSentSpec)) own started (by kernel_rfl) Tryz.func8
  (witness_row_atRef (enc := enc) (C := Tryz.checked) false (laidWorld os) (Jj none 0 0 (Qb 0 0 0 0)) rfl (by kernel_rfl) (by kernel_rfl) (by kernel_rfl) (witness_row os enc)) ?_
 intro W base args ds gs before fW hW _ hcond hz hL _ _
 exact contract H enc W base args ds gs before fW hW hL hz
theorem Tg{a b : Bool}(ha : a = true)(hb : b = true) : (a&&b) = true := by rw[ha, hb]; rfl
theorem jE : Tryz.pinned.checked.prog.mayEnter = true := by kernel_rfl
theorem jL : (Rows.relationSentRow.lifted == Tryz.pinned.checked.prog.liftsFinal) = true := by kernel_rfl
theorem jM : (Tryz.pinned.checked.prog.make==some Rows.relationSentRow.make) = true := by kernel_rfl
theorem closed : joinedFacts Tryz.pinned.checked.prog 8 Tryz.f8 (OpenSpec.ofChange Rows.relationSentSpec).bare Rows.relationSentRow = true := by
 unfold joinedFacts
 exact Tg (Tg (Tg (Tg (Tg (Tg (Tg (Tg (Tg (Tg (Tg (Tg (Tg (Tg (Tg (Tg (Tg (Tg (Tg (Tg (Tg (Tg (Tg (Tg (Tg (Tg (Tg (Tg (Tg (Tg (Tg ((by kernel_rfl)) (by kernel_rfl)) (by kernel_rfl)) (by kernel_rfl)) (by kernel_rfl)) (by kernel_rfl)) (by kernel_rfl)) (by kernel_rfl)) (by kernel_rfl)) (by kernel_rfl)) (by kernel_rfl)) (by kernel_rfl)) (by kernel_rfl)) (by kernel_rfl)) (by kernel_rfl)) (by kernel_rfl)) (by kernel_rfl)) (by kernel_rfl)) (by kernel_rfl)) (by kernel_rfl)) (by kernel_rfl)) (by kernel_rfl)) (by kernel_rfl)) (by kernel_rfl)) (by kernel_rfl)) jE) jL) jM) (by kernel_rfl)) (by kernel_rfl)) (by kernel_rfl)) (by kernel_rfl)
theorem said : Rows.RelationSentSaid :=
 OpenClaim.holds_of_cond 8 Tryz.f8 rfl rfl rfl rfl rfl rfl rfl ⟨rfl, rfl, rfl, rfl, rfl⟩ rfl rfl rfl rfl rfl (by kernel_rfl) Tryz.func8 closed
  (of_decide_eq_true (by kernel_rfl)) (by unfold Func.isWrapper; first | (rw[ZU (by decide +kernel)]; kernel_rfl) | (rw[Z3 (by decide +kernel)]; exact⟨rfl, rfl⟩))
  (fun os started H enc _ F => by rw[OpenClaim.pre_eq_preRow]; exact lifted os started H enc F)
theorem plain(f : FuncId)(fn : Func)(hf : Tryz.pinned.checked.prog.funcNamed Rows.relationSentRow.func = some f)(hfn : Tryz.pinned.checked.prog.funcs[f]? = some fn) :
  true = Tryz.pinned.checked.prog.looks [] ∧ ∀(j : Nat) t, fn.params[j]? = some t → Tryz.pinned.checked.prog.wantsStandIn t = false := by
 obtain rfl : f = 8 := Option.some.inj ((show Tryz.prog.funcNamed Rows.relationSentRow.func = some 8 by kernel_rfl).symm.trans hf) |>.symm
 obtain rfl : fn = Tryz.f8 := (Option.some.inj (Tryz.func8.symm.trans hfn)).symm
 refine⟨by kernel_rfl, fun j t ht => ?_⟩
 rw[Tryz.params8]at ht
 have ht := Array.mem_of_getElem? ht
 simp only[List.mem_toArray, K5, List.mem_nil_iff, or_false]at ht
 rcases ht with rfl | rfl <;> exact(show Tryz.prog.wantsStandIn _ = false by kernel_rfl)
theorem card : Rows.RelationSentCardSaid :=
 Claim7.holds_tied_plain_at .later [] _ _ _ _ said (fun _ h => by cases h) (by kernel_rfl) (fun _ h => by cases h) relationSent_row_tie rfl ⟨rfl, rfl⟩ (by kernel_rfl) rfl plain (by kernel_rfl)
end Go.Proofs.YtpdjhlcbcomdkaaGreatDoor.cardRelationSent
