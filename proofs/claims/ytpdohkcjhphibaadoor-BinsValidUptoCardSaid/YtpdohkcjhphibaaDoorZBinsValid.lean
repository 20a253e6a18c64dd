/- BinsValid: for every bin the law returns true and leaves its argument as it was; where the argument is of bulk at most 1048576, and the listed variables start as the text lays them. -/
import Derived.Test.YtpdohkcjhphibaaDoorCards
import Derived.Test.YtpdohkcjhphibaaDoorTie
import Derived.Test.YtpdohkcjhphibaaDoorD5
import Derived.Deep.DeepHandedRow
import Derived.Deep.DeepWitnessRowRef
import Derived.Lib.LaidTab
set_option linter.unusedVariables false
namespace Go.Proofs.YtpdohkcjhphibaaDoor.BinsValid
open Go Go.ChangeShapes Go.WideShapes Go.ChangeAt Go.RowKit Go.Proofs.YtpdohkcjhphibaaDoor.Sm Go.Proofs.YtpdohkcjhphibaaDoor.Bins

theorem own : ownKnob Tryd.prog.godebug = none := by kernel_rfl
theorem laidOut : laidOutB Tryd.prog = true := by kernel_rfl
theorem parsOk : Tryd.f6.params.toList.all (fun t => Tryd.prog.readableRec t && decide (t < Tryd.prog.types.size)) = true := by kernel_rfl
theorem readers : PRs Tryd.prog [29] (fun x : Bin × Unit => [.agg (encB x.1)]) (fun x b => ∃ b1 b2, b1 + b2 ≤ b ∧ okB x.1 b1 ∧ okT x.2 b2) := prs_cons (pr_agg rdB (fun x _ => encB_len x) cl29 (by kernel_rfl)) prs_nil

set_option maxRecDepth 100000 in
theorem contract (H : Type) (enc : TypeId × Value → H) (W : World) (base : Nat) (args : Array Value) (ds gs : List (DataW H)) (before : List MemPlace)
    (hval : ∀ (j : Nat) t v, Tryd.f6.params[j]? = some t → args[j]? = some v → Value.okWide Tryd.prog W .any base t v)
    (hW : DataW.Whole enc Tryd.prog Tryd.f6.params.toList Rows.binsValidSpec.vars false W args.toList ds gs before) (hL : laidMetH Tryd.prog Rows.binsValidUptoRow.laid W)
    (hb : Rows.uptoBulkAll ds ≤ 1048576) :
    Calls Tryd.prog 6 args W fun e W' => ∃ v, e = .returned v ∧ Rows.binsValidSpec.post enc Tryd.prog Tryd.f6 false true false false W args v W' := by
  have hr : PRs Tryd.prog Tryd.f6.params.toList (fun x : Bin × Unit => [.agg (encB x.1)]) (fun x b => ∃ b1 b2, b1 + b2 ≤ b ∧ okB x.1 b1 ∧ okT x.2 b2) := by
    rw [Tryd.params6]
    exact readers
  have hlen : ds.length = 1 := by
    obtain ⟨p, q, hA, _⟩ := id hW
    have h2 := (PRs.len hA)
    rw [Tryd.params6] at h2
    exact h2
  refine law_contract (E := En laidG) (f := 6) (fn := Tryd.f6) (s := Rows.binsValidSpec) (tb := 4) hr (fun x hx => ?_) hval hW (laid_kw hL) rfl (by kernel_rfl) Tryd.underlying4 ?_ laidOut parsOk
  · exact by
      obtain ⟨b1, b2, h0, h1, _⟩ := hx
      exact (law_valid laidG laidG_kw x.1 (binSmall_of h1 (by omega)) []).mono fun v h' e => e.1
  · match ds, hlen with
    | [d0], _ => rfl

/-- A WORLD FOR THE WITNESS: the heap that the start-up text's own run leaves. -/
noncomputable def laidWorld (os : Os) : World := World.doorLaid Tryd.prog 400 os
theorem laid_met (os : Os) : laidMetH Tryd.prog Rows.binsValidUptoRow.laid ((laidWorld os).forCall (fun _ _ => 0) ⟨#[], #[.agg #[.string ⟨#[]⟩, .int .i64 0, .slice none 0 0, .slice none 0 0]], []⟩).memory :=
  laidMetH_of_parts3 (fuel := 8) (laidMet_of_run' 8 (by kernel_rfl) (by kernel_rfl)) (by kernel_rfl) (by kernel_rfl)
theorem reads (os : Os) {H : Type} (enc : TypeId × Value → H) : ∃ places, DataW.whole enc Tryd.prog ((laidWorld os).forCall (fun _ _ => 0) ⟨#[], #[.agg #[.string ⟨#[]⟩, .int .i64 0, .slice none 0 0, .slice none 0 0]], []⟩).memory Tryd.f6.params.toList Rows.binsValidSpec.vars false (#[.agg #[.string ⟨#[]⟩, .int .i64 0, .slice none 0 0, .slice none 0 0]] : Array Value).toList 8 = some ([.agg [.lit (.string []), .lit (.int .i64 0), .nil, .nil]], [], places) :=
  ⟨[], by kernel_rfl⟩

set_option maxRecDepth 100000 in
theorem liftedUpto (os : Os) (started : os.Started) (H : Type) (enc : TypeId × Value → H) (F : Stop.Interp) :
    ReturnsInHanded {} Tryd.checked os 6 .any ((Rows.OpenSpec.upto Rows.binsValidSpec).preRow enc Tryd.prog Tryd.f6 Rows.binsValidUptoRow.domain false Rows.binsValidUptoRow.laid) (((Rows.OpenSpec.upto Rows.binsValidSpec).at F).post enc Tryd.prog Tryd.f6 false true false false) := by
  obtain ⟨places, hx⟩ := reads os enc
  refine returnsInHanded_of_row (C := Tryd.checked) (s := Rows.OpenSpec.upto Rows.binsValidSpec) own started (by kernel_rfl) Tryd.func6
    (witness_row_atRef (enc := enc) (C := Tryd.checked) false (laidWorld os) #[.agg #[.string ⟨#[]⟩, .int .i64 0, .slice none 0 0, .slice none 0 0]] rfl (by kernel_rfl) (by kernel_rfl) (by kernel_rfl)
      (OpenSpec.preRow_of_cond 8 hx (by kernel_rfl) (fun k hk => by cases hk; kernel_rfl) (by kernel_rfl) (laid_met os))) ?_
  intro W base args ds gs before hval hW _ hcond _ hL _ _
  have hgs : gs = [] := by
    obtain ⟨p, q, _, hV, _⟩ := id hW
    exact (trodVars_none hV).1
  subst hgs
  have hb := hcond _ rfl
  rw [List.append_nil] at hb
  exact contract H enc W base args ds [] before hval hW hL (of_decide_eq_true hb)

theorem saidUpto : Rows.BinsValidUptoSaid :=
  OpenClaim.holds_of_cond 6 Tryd.f6 rfl rfl rfl rfl rfl rfl rfl ⟨rfl, rfl, rfl, rfl, rfl⟩ rfl rfl rfl rfl rfl (by kernel_rfl) Tryd.func6 (by kernel_rfl)
    (of_decide_eq_true (by kernel_rfl)) (by unfold Func.isWrapper; first | (rw [if_pos (by decide +kernel)]; kernel_rfl) | (rw [if_neg (by decide +kernel)]; exact ⟨rfl, rfl⟩))
    (fun os started H enc _ F => by rw [OpenClaim.pre_eq_preRow]; exact liftedUpto os started H enc F)

theorem plain (f : FuncId) (fn : Func) (hf : Tryd.pinned.checked.prog.funcNamed "testbench/testbenchlaw45.BinsValid" = some f) (hfn : Tryd.pinned.checked.prog.funcs[f]? = some fn) :
    false = Tryd.pinned.checked.prog.looks [] ∧ ∀ (j : Nat) t, fn.params[j]? = some t → Tryd.pinned.checked.prog.wantsStandIn t = false := by
  obtain rfl : f = 6 := Option.some.inj ((show Tryd.prog.funcNamed "testbench/testbenchlaw45.BinsValid" = some 6 by kernel_rfl).symm.trans hf) |>.symm
  obtain rfl : fn = Tryd.f6 := (Option.some.inj (Tryd.func6.symm.trans hfn)).symm
  refine ⟨by kernel_rfl, fun j t ht => ?_⟩
  rw [Tryd.params6] at ht
  have hm : t ∈ [29] := by simpa using Array.mem_of_getElem? ht
  have hall : ([29].all fun u => !Tryd.prog.wantsStandIn u) = true := by kernel_rfl
  exact (show Tryd.prog.wantsStandIn t = false by simpa using List.all_eq_true.1 hall t hm)

/-- THE CARD -/
theorem cardUpto : Rows.BinsValidUptoCardSaid :=
  Claim7.holds_tied_plain_at .later [] _ _ _ _ saidUpto (fun _ h => by cases h) (by kernel_rfl) (fun _ h => by cases h) binsValidUpto_row_tie rfl ⟨rfl, rfl⟩ (by kernel_rfl) rfl plain (by kernel_rfl)
end Go.Proofs.YtpdohkcjhphibaaDoor.BinsValid
