/- MergeMeasures: for every model and all coverages the law returns true and leaves its arguments as they were; where the arguments are of bulk at most 1048576, and the listed variables start as the text lays them. -/
import Derived.Test.YtocilianjfhifaaGreatDoorCards
import Derived.Test.YtocilianjfhifaaGreatDoorTie
import Derived.Test.YtocilianjfhifaaGreatDoorP10
import Derived.Deep.DeepHandedRow
import Derived.Deep.DeepWitnessRowRef
import Derived.Lib.LaidTab
set_option linter.unusedVariables false
namespace Go.Proofs.YtocilianjfhifaaGreatDoor.MergeMeasures
open Go Go.ChangeShapes Go.WideShapes Go.ChangeAt Go.RowKit Go.Proofs.YtocilianjfhifaaGreatDoor.Sm Go.Proofs.YtocilianjfhifaaGreatDoor.Cov

theorem own : ownKnob Tryz.prog.godebug = none := by kernel_rfl
theorem laidOut : laidOutB Tryz.prog = true := by kernel_rfl
theorem parsOk : Tryz.f3.params.toList.all (fun t => Tryz.prog.readableRec t && decide (t < Tryz.prog.types.size)) = true := by kernel_rfl
theorem readers : PRs Tryz.prog [25, 28, 28] (fun x : Mo × Cvr × Cvr × Unit => [.agg (encM x.1), .agg (encV x.2.1), .agg (encV x.2.2.1)]) (fun x b => ∃ b1 b2, b1 + b2 ≤ b ∧ okM x.1 b1 ∧ ∃ b3 b4, b3 + b4 ≤ b2 ∧ okV x.2.1 b3 ∧ ∃ b5 b6, b5 + b6 ≤ b4 ∧ okV x.2.2.1 b5 ∧ okT x.2.2.2 b6) := prs_cons (pr_agg rdM (fun x _ => encM_len x) cl25 (by kernel_rfl)) (prs_cons (pr_agg rdV (fun x _ => encV_len x) cl28 (by kernel_rfl)) (prs_cons (pr_agg rdV (fun x _ => encV_len x) cl28 (by kernel_rfl)) prs_nil))

set_option maxRecDepth 100000 in
theorem contract (H : Type) (enc : TypeId × Value → H) (W : World) (base : Nat) (args : Array Value) (ds gs : List (DataW H)) (before : List MemPlace)
    (hval : ∀ (j : Nat) t v, Tryz.f3.params[j]? = some t → args[j]? = some v → Value.okWide Tryz.prog W .any base t v)
    (hW : DataW.Whole enc Tryz.prog Tryz.f3.params.toList Rows.mergeMeasuresSpec.vars false W args.toList ds gs before) (hL : laidMetH Tryz.prog Rows.mergeMeasuresUptoRow.laid W) (hsh : W.ShapedOpen Tryz.prog)
    (hb : Rows.uptoBulkAll ds ≤ 1048576) :
    Calls Tryz.prog 3 args W fun e W' => ∃ v, e = .returned v ∧ Rows.mergeMeasuresSpec.post enc Tryz.prog Tryz.f3 false true false false W args v W' := by
  obtain ⟨z, hG⟩ := laid_kw hL hsh
  have hr : PRs Tryz.prog Tryz.f3.params.toList (fun x : Mo × Cvr × Cvr × Unit => [.agg (encM x.1), .agg (encV x.2.1), .agg (encV x.2.2.1)]) (fun x b => ∃ b1 b2, b1 + b2 ≤ b ∧ okM x.1 b1 ∧ ∃ b3 b4, b3 + b4 ≤ b2 ∧ okV x.2.1 b3 ∧ ∃ b5 b6, b5 + b6 ≤ b4 ∧ okV x.2.2.1 b5 ∧ okT x.2.2.2 b6) := by
    rw [Tryz.params3]
    exact readers
  have hlen : ds.length = 3 := by
    obtain ⟨p, q, hA, _⟩ := id hW
    have h2 := (PRs.len hA)
    rw [Tryz.params3] at h2
    exact h2
  refine law_contract (E := En (laidZ z)) (f := 3) (fn := Tryz.f3) (s := Rows.mergeMeasuresSpec) (tb := 4) hr (fun x hx => ?_) hval hW hG rfl (by kernel_rfl) Tryz.underlying4 ?_ laidOut parsOk
  · exact by
      obtain ⟨b1, b2, h1, k1, b3, b4, h2, k2, b5, b6, h3, k3, _⟩ := hx
      exact (law_measures (laidZ z) (laidZ_ok z) (tuple_ok _) x.1 x.2.1 x.2.2.1 (moOk_of k1 (by omega)) (cvOk_of k2 (by omega)) (cvOk_of k3 (by omega)) []).mono fun v h' e => e.1
  · match ds, hlen with
    | [d0, d1, d2], _ => rfl

/-- A WORLD FOR THE WITNESS: the heap that the start-up text's own run leaves. -/
noncomputable def laidWorld (os : Os) : World := World.doorLaid Tryz.prog 400 os
theorem laid_met (os : Os) : laidMetH Tryz.prog Rows.mergeMeasuresUptoRow.laid ((laidWorld os).forCall (fun _ _ => 0) ⟨#[], #[.agg #[.slice none 0 0, .slice none 0 0], .agg #[.slice none 0 0, .slice none 0 0, .int .i64 0, .int .i64 0], .agg #[.slice none 0 0, .slice none 0 0, .int .i64 0, .int .i64 0]], []⟩).memory :=
  laidMetH_of_parts3 (fuel := 8) (laidMet_of_run' 8 (by kernel_rfl) (by kernel_rfl)) (by kernel_rfl) (by kernel_rfl)
theorem reads (os : Os) {H : Type} (enc : TypeId × Value → H) : ∃ places, DataW.whole enc Tryz.prog ((laidWorld os).forCall (fun _ _ => 0) ⟨#[], #[.agg #[.slice none 0 0, .slice none 0 0], .agg #[.slice none 0 0, .slice none 0 0, .int .i64 0, .int .i64 0], .agg #[.slice none 0 0, .slice none 0 0, .int .i64 0, .int .i64 0]], []⟩).memory Tryz.f3.params.toList Rows.mergeMeasuresSpec.vars false (#[.agg #[.slice none 0 0, .slice none 0 0], .agg #[.slice none 0 0, .slice none 0 0, .int .i64 0, .int .i64 0], .agg #[.slice none 0 0, .slice none 0 0, .int .i64 0, .int .i64 0]] : Array Value).toList 8 = some ([.agg [.nil, .nil], .agg [.nil, .nil, .lit (.int .i64 0), .lit (.int .i64 0)], .agg [.nil, .nil, .lit (.int .i64 0), .lit (.int .i64 0)]], [], places) :=
  ⟨[], by kernel_rfl⟩

set_option maxRecDepth 100000 in
theorem liftedUpto (os : Os) (started : os.Started) (H : Type) (enc : TypeId × Value → H) (F : Stop.Interp) :
    ReturnsInHanded {} Tryz.checked os 3 .any ((Rows.OpenSpec.upto Rows.mergeMeasuresSpec).preRow enc Tryz.prog Tryz.f3 Rows.mergeMeasuresUptoRow.domain false Rows.mergeMeasuresUptoRow.laid) (((Rows.OpenSpec.upto Rows.mergeMeasuresSpec).at F).post enc Tryz.prog Tryz.f3 false true false false) := by
  obtain ⟨places, hx⟩ := reads os enc
  refine returnsInHanded_of_row (C := Tryz.checked) (s := Rows.OpenSpec.upto Rows.mergeMeasuresSpec) own started (by kernel_rfl) Tryz.func3
    (witness_row_atRef (enc := enc) (C := Tryz.checked) false (laidWorld os) #[.agg #[.slice none 0 0, .slice none 0 0], .agg #[.slice none 0 0, .slice none 0 0, .int .i64 0, .int .i64 0], .agg #[.slice none 0 0, .slice none 0 0, .int .i64 0, .int .i64 0]] rfl (by kernel_rfl) (by kernel_rfl) (by kernel_rfl)
      (OpenSpec.preRow_of_cond 8 hx (by kernel_rfl) (fun k hk => by cases hk; kernel_rfl) (by kernel_rfl) (laid_met os))) ?_
  intro W base args ds gs before hval hW _ hcond _ hL hsh _
  have hgs : gs = [] := by
    obtain ⟨p, q, _, hV, _⟩ := id hW
    exact (trodVars_none hV).1
  subst hgs
  have hb := hcond _ rfl
  rw [List.append_nil] at hb
  exact contract H enc W base args ds [] before hval hW hL hsh (of_decide_eq_true hb)

theorem closed : joinedFacts Tryz.pinned.checked.prog 3 Tryz.f3 (Rows.OpenSpec.upto Rows.mergeMeasuresSpec).bare Rows.mergeMeasuresUptoRow = true := by
  unfold joinedFacts
  rw [Head.enter_is, Head.make_is, Head.finals_is]
  kernel_rfl
theorem saidUpto : Rows.MergeMeasuresUptoSaid :=
  OpenClaim.holds_of_cond 3 Tryz.f3 rfl rfl rfl rfl rfl rfl rfl ⟨rfl, rfl, rfl, rfl, rfl⟩ rfl rfl rfl rfl rfl (by kernel_rfl) Tryz.func3 closed
    (of_decide_eq_true (by kernel_rfl)) (by unfold Func.isWrapper; first | (rw [if_pos (by decide +kernel)]; kernel_rfl) | (rw [if_neg (by decide +kernel)]; exact ⟨rfl, rfl⟩))
    (fun os started H enc _ F => by rw [OpenClaim.pre_eq_preRow]; exact liftedUpto os started H enc F)

theorem plain (f : FuncId) (fn : Func) (hf : Tryz.pinned.checked.prog.funcNamed "testbench/testbenchlaw48.MergeMeasures" = some f) (hfn : Tryz.pinned.checked.prog.funcs[f]? = some fn) :
    false = Tryz.pinned.checked.prog.looks [] ∧ ∀ (j : Nat) t, fn.params[j]? = some t → Tryz.pinned.checked.prog.wantsStandIn t = false := by
  obtain rfl : f = 3 := Option.some.inj ((show Tryz.prog.funcNamed "testbench/testbenchlaw48.MergeMeasures" = some 3 by kernel_rfl).symm.trans hf) |>.symm
  obtain rfl : fn = Tryz.f3 := (Option.some.inj (Tryz.func3.symm.trans hfn)).symm
  refine ⟨by kernel_rfl, fun j t ht => ?_⟩
  rw [Tryz.params3] at ht
  have hm : t ∈ [25, 28, 28] := by simpa using Array.mem_of_getElem? ht
  have hall : ([25, 28, 28].all fun u => !Tryz.prog.wantsStandIn u) = true := by kernel_rfl
  exact (show Tryz.prog.wantsStandIn t = false by simpa using List.all_eq_true.1 hall t hm)

theorem goes : false = Rows.mergeMeasuresUptoRow.goesBy Tryz.pinned.checked.prog := by kernel_rfl
/-- THE CARD -/
theorem cardUpto : Rows.MergeMeasuresUptoCardSaid :=
  Claim7.holds_tied_plain_at .later [] _ _ _ _ saidUpto (fun _ h => by cases h) (by kernel_rfl) (fun _ h => by cases h) mergeMeasuresUpto_row_tie rfl ⟨rfl, rfl⟩ (Head.main_is (s := Rows.mergeMeasuresUptoCard.stood.harness.2) (by kernel_rfl)) rfl plain goes
end Go.Proofs.YtocilianjfhifaaGreatDoor.MergeMeasures
