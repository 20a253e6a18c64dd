/- RankReaches: for every model and all coverages the law returns true and leaves its arguments as they were; where the arguments are of bulk at most 1048576, and the listed variables start as the text lays them. -/
import Derived.Test.YtocilianjfhifaaGreatDoorCards
import Derived.Test.YtocilianjfhifaaGreatDoorTie
import Derived.Test.YtocilianjfhifaaGreatDoorV13
import Derived.Deep.DeepHandedRow
import Derived.Deep.DeepWitnessRowRef
import Derived.Lib.LaidTab
set_option linter.unusedVariables false
namespace Go.Proofs.YtocilianjfhifaaGreatDoor.RankReaches
open Go Go.ChangeShapes Go.WideShapes Go.ChangeAt Go.RowKit Go.Proofs.YtocilianjfhifaaGreatDoor.Sm Go.Proofs.YtocilianjfhifaaGreatDoor.Cov Go.Proofs.YtocilianjfhifaaGreatDoor.Rk

theorem own : ownKnob Tryz.prog.godebug = none := by kernel_rfl
theorem laidOut : laidOutB Tryz.prog = true := by kernel_rfl
theorem parsOk : Tryz.f17.params.toList.all (fun t => Tryz.prog.readableRec t && decide (t < Tryz.prog.types.size)) = true := by kernel_rfl
theorem readers : PRs Tryz.prog [75] (fun x : Qs × Unit => [.agg (LJ x.1)]) (fun x b => ∃ b1 b2, b1 + b2 ≤ b ∧ okQ x.1 b1 ∧ okT x.2 b2) := AYS (A0I rdQ (fun x _ => AIV x) A1C (by kernel_rfl)) AZ8

set_option maxRecDepth 100000 in
theorem contract (H : Type) (enc : TypeId × Value → H) (W : World) (base : Nat) (args : Array Value) (ds gs : List (DataW H)) (before : List MemPlace)
    (hval : ∀ (j : Nat) t v, Tryz.f17.params[j]? = some t → args[j]? = some v → Value.okWide Tryz.prog W .any base t v)
    (hW : DataW.Whole enc Tryz.prog Tryz.f17.params.toList Rows.rankReachesSpec.vars false W args.toList ds gs before) (hL : laidMetH Tryz.prog Rows.rankReachesUptoRow.laid W) (hsh : W.ShapedOpen Tryz.prog)
    (hb : Rows.uptoBulkAll ds ≤ 1048576) :
    Calls Tryz.prog 17 args W fun e W' => ∃ v, e = .returned v ∧ Rows.rankReachesSpec.post enc Tryz.prog Tryz.f17 false true false false W args v W' := by
  obtain ⟨z, hG⟩ := A0B hL hsh
  have hr : PRs Tryz.prog Tryz.f17.params.toList (fun x : Qs × Unit => [.agg (LJ x.1)]) (fun x b => ∃ b1 b2, b1 + b2 ≤ b ∧ okQ x.1 b1 ∧ okT x.2 b2) := by
    rw [Tryz.params17]
    exact readers
  have hlen : ds.length = 1 := by
    obtain ⟨p, q, hA, _⟩ := id hW
    have h2 := (PRs.len hA)
    rw [Tryz.params17] at h2
    exact h2
  refine AUE (E := En (AQY z)) (f := 17) (fn := Tryz.f17) (s := Rows.rankReachesSpec) (tb := 4) hr (fun x hx => ?_) hval hW hG rfl (by kernel_rfl) Tryz.underlying4 ?_ laidOut parsOk
  · exact by
      obtain ⟨b1, b2, h1, k1, _⟩ := hx
      exact (AV3 (AQY z) (AY0 z) (AYL _) x.1 (A0H k1 (by omega)) []).mono fun v h' e => e.1
  · match ds, hlen with
    | [d0], _ => rfl

/-- A WORLD FOR THE WITNESS: the heap that the start-up text's own run leaves. -/
noncomputable def laidWorld (os : Os) : World := World.doorLaid Tryz.prog 400 os
theorem laid_met (os : Os) : laidMetH Tryz.prog Rows.rankReachesUptoRow.laid ((laidWorld os).forCall (fun _ _ => 0) ⟨#[], #[.agg #[.slice none 0 0, .slice none 0 0, .slice none 0 0]], []⟩).memory :=
  laidMetH_of_parts3 (fuel := 8) (laidMet_of_run' 8 (by kernel_rfl) (by kernel_rfl)) (by kernel_rfl) (by kernel_rfl)
theorem reads (os : Os) {H : Type} (enc : TypeId × Value → H) : ∃ places, DataW.whole enc Tryz.prog ((laidWorld os).forCall (fun _ _ => 0) ⟨#[], #[.agg #[.slice none 0 0, .slice none 0 0, .slice none 0 0]], []⟩).memory Tryz.f17.params.toList Rows.rankReachesSpec.vars false (#[.agg #[.slice none 0 0, .slice none 0 0, .slice none 0 0]] : Array Value).toList 8 = some ([.agg [.agg [.nil, .nil], .nil]], [], places) :=
  ⟨[], by kernel_rfl⟩

set_option maxRecDepth 100000 in
theorem liftedUpto (os : Os) (started : os.Started) (H : Type) (enc : TypeId × Value → H) (F : Stop.Interp) :
    ReturnsInHanded {} Tryz.checked os 17 .any ((Rows.OpenSpec.upto Rows.rankReachesSpec).preRow enc Tryz.prog Tryz.f17 Rows.rankReachesUptoRow.domain false Rows.rankReachesUptoRow.laid) (((Rows.OpenSpec.upto Rows.rankReachesSpec).at F).post enc Tryz.prog Tryz.f17 false true false false) := by
  obtain ⟨places, hx⟩ := reads os enc
  refine returnsInHanded_of_row (C := Tryz.checked) (s := Rows.OpenSpec.upto Rows.rankReachesSpec) own started (by kernel_rfl) Tryz.func17
    (witness_row_atRef (enc := enc) (C := Tryz.checked) false (laidWorld os) #[.agg #[.slice none 0 0, .slice none 0 0, .slice none 0 0]] rfl (by kernel_rfl) (by kernel_rfl) (by kernel_rfl)
      (OpenSpec.preRow_of_cond 8 hx (by kernel_rfl) (fun k hk => by cases hk; kernel_rfl) (by kernel_rfl) (laid_met os))) ?_
  intro W base args ds gs before hval hW _ hcond _ hL hsh _
  have hgs : gs = [] := by
    obtain ⟨p, q, _, hV, _⟩ := id hW
    exact (trodVars_none hV).1
  subst hgs
  have hb := hcond _ rfl
  rw [List.append_nil] at hb
  exact contract H enc W base args ds [] before hval hW hL hsh (of_decide_eq_true hb)

theorem closed : joinedFacts Tryz.pinned.checked.prog 17 Tryz.f17 (Rows.OpenSpec.upto Rows.rankReachesSpec).bare Rows.rankReachesUptoRow = true := by
  unfold joinedFacts
  rw [Head.AY5, Head.make_is, Head.AYE]
  kernel_rfl
theorem saidUpto : Rows.RankReachesUptoSaid :=
  OpenClaim.holds_of_cond 17 Tryz.f17 rfl rfl rfl rfl rfl rfl rfl ⟨rfl, rfl, rfl, rfl, rfl⟩ rfl rfl rfl rfl rfl (by kernel_rfl) Tryz.func17 closed
    (of_decide_eq_true (by kernel_rfl)) (by unfold Func.isWrapper; first | (rw [if_pos (by decide +kernel)]; kernel_rfl) | (rw [if_neg (by decide +kernel)]; exact ⟨rfl, rfl⟩))
    (fun os started H enc _ F => by rw [OpenClaim.pre_eq_preRow]; exact liftedUpto os started H enc F)

theorem plain (f : FuncId) (fn : Func) (hf : Tryz.pinned.checked.prog.funcNamed "testbench/testbenchlaw49.RankReaches" = some f) (hfn : Tryz.pinned.checked.prog.funcs[f]? = some fn) :
    false = Tryz.pinned.checked.prog.looks [] ∧ ∀ (j : Nat) t, fn.params[j]? = some t → Tryz.pinned.checked.prog.wantsStandIn t = false := by
  obtain rfl : f = 17 := Option.some.inj ((show Tryz.prog.funcNamed "testbench/testbenchlaw49.RankReaches" = some 17 by kernel_rfl).symm.trans hf) |>.symm
  obtain rfl : fn = Tryz.f17 := (Option.some.inj (Tryz.func17.symm.trans hfn)).symm
  refine ⟨by kernel_rfl, fun j t ht => ?_⟩
  rw [Tryz.params17] at ht
  have hm : t ∈ [75] := by simpa using Array.mem_of_getElem? ht
  have hall : ([75].all fun u => !Tryz.prog.wantsStandIn u) = true := by kernel_rfl
  exact (show Tryz.prog.wantsStandIn t = false by simpa using List.all_eq_true.1 hall t hm)

theorem goes : false = Rows.rankReachesUptoRow.goesBy Tryz.pinned.checked.prog := by kernel_rfl
/-- THE CARD -/
theorem cardUpto : Rows.RankReachesUptoCardSaid :=
  Claim7.holds_tied_plain_at .later [] _ _ _ _ saidUpto (fun _ h => by cases h) (by kernel_rfl) (fun _ h => by cases h) rankReachesUpto_row_tie rfl ⟨rfl, rfl⟩ (Head.A0A (s := Rows.rankReachesUptoCard.stood.harness.2) (by kernel_rfl)) rfl plain goes
end Go.Proofs.YtocilianjfhifaaGreatDoor.RankReaches
