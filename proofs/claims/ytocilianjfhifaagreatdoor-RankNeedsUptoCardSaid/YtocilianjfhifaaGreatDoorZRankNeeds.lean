/- RankNeeds: for every model and all coverages the law returns true and leaves its arguments as they were; where the arguments are of bulk at most 1048576, and the listed variables start as the text lays them. -/
import Derived.Test.YtocilianjfhifaaGreatDoorCards
import Derived.Test.YtocilianjfhifaaGreatDoorTie
import Derived.Test.YtocilianjfhifaaGreatDoorV13
import Derived.Deep.DeepHandedRow
import Derived.Deep.DeepWitnessRowRef
import Derived.Lib.LaidTab
set_option linter.unusedVariables false
namespace Go.Proofs.YtocilianjfhifaaGreatDoor.RankNeeds
open Go Go.ChangeShapes Go.WideShapes Go.ChangeAt Go.RowKit Go.Proofs.YtocilianjfhifaaGreatDoor.Sm Go.Proofs.YtocilianjfhifaaGreatDoor.Cov Go.Proofs.YtocilianjfhifaaGreatDoor.Rk

theorem own : ownKnob Tryz.prog.godebug = none := by kernel_rfl
theorem laidOut : laidOutB Tryz.prog = true := by kernel_rfl
theorem parsOk : Tryz.f11.params.toList.all (fun t => Tryz.prog.readableRec t && decide (t < Tryz.prog.types.size)) = true := by kernel_rfl
theorem readers : PRs Tryz.prog [75, 3] (fun x : Qs × Int × Unit => [.agg (JI x.1), .int .i64 x.2.1]) (fun x b => ∃ b1 b2, b1 + b2 ≤ b ∧ okQ x.1 b1 ∧ ∃ b3 b4, b3 + b4 ≤ b2 ∧ okI x.2.1 b3 ∧ okT x.2.2 b4) := AXJ (AZA rdQ (fun x _ => AHK x) AZ5 (by kernel_rfl)) (AXJ (AY0 rdI (av := fun z => .int .i64 z) (fun _ => rfl) (by kernel_rfl)) AYZ)

set_option maxRecDepth 100000 in
theorem contract (H : Type) (enc : TypeId × Value → H) (W : World) (base : Nat) (args : Array Value) (ds gs : List (DataW H)) (before : List MemPlace)
    (hval : ∀ (j : Nat) t v, Tryz.f11.params[j]? = some t → args[j]? = some v → Value.okWide Tryz.prog W .any base t v)
    (hW : DataW.Whole enc Tryz.prog Tryz.f11.params.toList Rows.rankNeedsSpec.vars false W args.toList ds gs before) (hL : laidMetH Tryz.prog Rows.rankNeedsUptoRow.laid W) (hsh : W.ShapedOpen Tryz.prog)
    (hb : Rows.uptoBulkAll ds ≤ 1048576) :
    Calls Tryz.prog 11 args W fun e W' => ∃ v, e = .returned v ∧ Rows.rankNeedsSpec.post enc Tryz.prog Tryz.f11 false true false false W args v W' := by
  obtain ⟨z, hG⟩ := AY3 hL hsh
  have hr : PRs Tryz.prog Tryz.f11.params.toList (fun x : Qs × Int × Unit => [.agg (JI x.1), .int .i64 x.2.1]) (fun x b => ∃ b1 b2, b1 + b2 ≤ b ∧ okQ x.1 b1 ∧ ∃ b3 b4, b3 + b4 ≤ b2 ∧ okI x.2.1 b3 ∧ okT x.2.2 b4) := by
    rw [Tryz.params11]
    exact readers
  have hlen : ds.length = 2 := by
    obtain ⟨p, q, hA, _⟩ := id hW
    have h2 := (PRs.len hA)
    rw [Tryz.params11] at h2
    exact h2
  refine AS3 (E := En (APO z)) (f := 11) (fn := Tryz.f11) (s := Rows.rankNeedsSpec) (tb := 4) hr (fun x hx => ?_) hval hW hG rfl (by kernel_rfl) Tryz.underlying4 ?_ laidOut parsOk
  · exact by
      obtain ⟨b1, b2, h1, k1, b3, b4, h2, k2, _⟩ := hx
      exact (AWZ (APO z) (AXR z) (AXC _) x.1 (AY9 k1 (by omega)) x.2.1 []).mono fun v h' e => e.1
  · match ds, hlen with
    | [d0, d1], _ => rfl

/-- A WORLD FOR THE WITNESS: the heap that the start-up text's own run leaves. -/
noncomputable def laidWorld (os : Os) : World := World.doorLaid Tryz.prog 400 os
theorem laid_met (os : Os) : laidMetH Tryz.prog Rows.rankNeedsUptoRow.laid ((laidWorld os).forCall (fun _ _ => 0) ⟨#[], #[.agg #[.slice none 0 0, .slice none 0 0, .slice none 0 0], .int .i64 0], []⟩).memory :=
  laidMetH_of_parts3 (fuel := 8) (laidMet_of_run' 8 (by kernel_rfl) (by kernel_rfl)) (by kernel_rfl) (by kernel_rfl)
theorem reads (os : Os) {H : Type} (enc : TypeId × Value → H) : ∃ places, DataW.whole enc Tryz.prog ((laidWorld os).forCall (fun _ _ => 0) ⟨#[], #[.agg #[.slice none 0 0, .slice none 0 0, .slice none 0 0], .int .i64 0], []⟩).memory Tryz.f11.params.toList Rows.rankNeedsSpec.vars false (#[.agg #[.slice none 0 0, .slice none 0 0, .slice none 0 0], .int .i64 0] : Array Value).toList 8 = some ([.agg [.agg [.nil, .nil], .nil], .lit (.int .i64 0)], [], places) :=
  ⟨[], by kernel_rfl⟩

set_option maxRecDepth 100000 in
theorem liftedUpto (os : Os) (started : os.Started) (H : Type) (enc : TypeId × Value → H) (F : Stop.Interp) :
    ReturnsInHanded {} Tryz.checked os 11 .any ((Rows.OpenSpec.upto Rows.rankNeedsSpec).preRow enc Tryz.prog Tryz.f11 Rows.rankNeedsUptoRow.domain false Rows.rankNeedsUptoRow.laid) (((Rows.OpenSpec.upto Rows.rankNeedsSpec).at F).post enc Tryz.prog Tryz.f11 false true false false) := by
  obtain ⟨places, hx⟩ := reads os enc
  refine returnsInHanded_of_row (C := Tryz.checked) (s := Rows.OpenSpec.upto Rows.rankNeedsSpec) own started (by kernel_rfl) Tryz.func11
    (witness_row_atRef (enc := enc) (C := Tryz.checked) false (laidWorld os) #[.agg #[.slice none 0 0, .slice none 0 0, .slice none 0 0], .int .i64 0] rfl (by kernel_rfl) (by kernel_rfl) (by kernel_rfl)
      (OpenSpec.preRow_of_cond 8 hx (by kernel_rfl) (fun k hk => by cases hk; kernel_rfl) (by kernel_rfl) (laid_met os))) ?_
  intro W base args ds gs before hval hW _ hcond _ hL hsh _
  have hgs : gs = [] := by
    obtain ⟨p, q, _, hV, _⟩ := id hW
    exact (trodVars_none hV).1
  subst hgs
  have hb := hcond _ rfl
  rw [List.append_nil] at hb
  exact contract H enc W base args ds [] before hval hW hL hsh (of_decide_eq_true hb)

theorem closed : joinedFacts Tryz.pinned.checked.prog 11 Tryz.f11 (Rows.OpenSpec.upto Rows.rankNeedsSpec).bare Rows.rankNeedsUptoRow = true := by
  unfold joinedFacts
  rw [Head.AXW, Head.AY1, Head.AW5]
  kernel_rfl
theorem saidUpto : Rows.RankNeedsUptoSaid :=
  OpenClaim.holds_of_cond 11 Tryz.f11 rfl rfl rfl rfl rfl rfl rfl ⟨rfl, rfl, rfl, rfl, rfl⟩ rfl rfl rfl rfl rfl (by kernel_rfl) Tryz.func11 closed
    (of_decide_eq_true (by kernel_rfl)) (by unfold Func.isWrapper; first | (rw [if_pos (by decide +kernel)]; kernel_rfl) | (rw [if_neg (by decide +kernel)]; exact ⟨rfl, rfl⟩))
    (fun os started H enc _ F => by rw [OpenClaim.pre_eq_preRow]; exact liftedUpto os started H enc F)

theorem plain (f : FuncId) (fn : Func) (hf : Tryz.pinned.checked.prog.funcNamed "testbench/testbenchlaw49.RankNeeds" = some f) (hfn : Tryz.pinned.checked.prog.funcs[f]? = some fn) :
    false = Tryz.pinned.checked.prog.looks [] ∧ ∀ (j : Nat) t, fn.params[j]? = some t → Tryz.pinned.checked.prog.wantsStandIn t = false := by
  obtain rfl : f = 11 := Option.some.inj ((show Tryz.prog.funcNamed "testbench/testbenchlaw49.RankNeeds" = some 11 by kernel_rfl).symm.trans hf) |>.symm
  obtain rfl : fn = Tryz.f11 := (Option.some.inj (Tryz.func11.symm.trans hfn)).symm
  refine ⟨by kernel_rfl, fun j t ht => ?_⟩
  rw [Tryz.params11] at ht
  have hm : t ∈ [75, 3] := by simpa using Array.mem_of_getElem? ht
  have hall : ([75, 3].all fun u => !Tryz.prog.wantsStandIn u) = true := by kernel_rfl
  exact (show Tryz.prog.wantsStandIn t = false by simpa using List.all_eq_true.1 hall t hm)

theorem goes : false = Rows.rankNeedsUptoRow.goesBy Tryz.pinned.checked.prog := by kernel_rfl
/-- THE CARD -/
theorem cardUpto : Rows.RankNeedsUptoCardSaid :=
  Claim7.holds_tied_plain_at .later [] _ _ _ _ saidUpto (fun _ h => by cases h) (by kernel_rfl) (fun _ h => by cases h) rankNeedsUpto_row_tie rfl ⟨rfl, rfl⟩ (Head.AY2 (s := Rows.rankNeedsUptoCard.stood.harness.2) (by kernel_rfl)) rfl plain goes
end Go.Proofs.YtocilianjfhifaaGreatDoor.RankNeeds
