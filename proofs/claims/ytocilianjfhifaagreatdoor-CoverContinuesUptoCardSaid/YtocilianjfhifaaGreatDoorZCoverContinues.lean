/- CoverContinues: for all arguments the law returns true and leaves them as they were; where the arguments are of bulk at most 1048576, and the listed variables start as the text lays them. -/
import Derived.Test.YtocilianjfhifaaGreatDoorCards
import Derived.Test.YtocilianjfhifaaGreatDoorTie
import Derived.Test.YtocilianjfhifaaGreatDoorYB13
import Derived.Deep.DeepHandedRow
import Derived.Deep.DeepWitnessRowRef
import Derived.Lib.LaidTab
set_option linter.unusedVariables false
namespace Go.Proofs.YtocilianjfhifaaGreatDoor.CoverContinues
open Go Go.ChangeShapes Go.WideShapes Go.ChangeAt Go.RowKit Go.Proofs.YtocilianjfhifaaGreatDoor.Sm Go.Proofs.YtocilianjfhifaaGreatDoor.Cov Go.Proofs.YtocilianjfhifaaGreatDoor.Xe

theorem own : ownKnob Tryz.prog.godebug = none := by kernel_rfl
theorem laidOut : laidOutB Tryz.prog = true := by kernel_rfl
theorem parsOk : Tryz.f16.params.toList.all (fun t => Tryz.prog.readableRec t && decide (t < Tryz.prog.types.size)) = true := by kernel_rfl
theorem readers : PRs Tryz.prog [25, 64, 3] (fun x : Mo × Rn × Int × Unit => [.agg (EC x.1), .sl x.2.1.m 1 (x.2.1.l.map KF), .int .i64 x.2.2.1]) (fun x b => ∃ b1 b2, b1 + b2 ≤ b ∧ okM x.1 b1 ∧ ∃ b3 b4, b3 + b4 ≤ b2 ∧ AV8 x.2.1 b3 ∧ ∃ b5 b6, b5 + b6 ≤ b4 ∧ okI x.2.2.1 b5 ∧ okT x.2.2.2 b6) := AV6 (AYK rdM (fun x _ => AOV x) AZC (by kernel_rfl)) (AV6 (AYA AZB (av := fun z => .sl z.m 1 (z.l.map KF)) (fun _ => rfl) (by kernel_rfl)) (AV6 (AYA rdI (av := fun z => .int .i64 z) (fun _ => rfl) (by kernel_rfl)) AX9))

set_option maxRecDepth 100000 in
theorem contract (H : Type) (enc : TypeId × Value → H) (W : World) (base : Nat) (args : Array Value) (ds gs : List (DataW H)) (before : List MemPlace)
    (hval : ∀ (j : Nat) t v, Tryz.f16.params[j]? = some t → args[j]? = some v → Value.okWide Tryz.prog W .any base t v)
    (hW : DataW.Whole enc Tryz.prog Tryz.f16.params.toList Rows.coverContinuesSpec.vars false W args.toList ds gs before) (hL : laidMetH Tryz.prog Rows.coverContinuesUptoRow.laid W) (hsh : W.ShapedOpen Tryz.prog)
    (hb : Rows.uptoBulkAll ds ≤ 1048576) :
    Calls Tryz.prog 16 args W fun e W' => ∃ v, e = .returned v ∧ Rows.coverContinuesSpec.post enc Tryz.prog Tryz.f16 false true false false W args v W' := by
  obtain ⟨z, hG⟩ := AYD hL hsh
  have hr : PRs Tryz.prog Tryz.f16.params.toList (fun x : Mo × Rn × Int × Unit => [.agg (EC x.1), .sl x.2.1.m 1 (x.2.1.l.map KF), .int .i64 x.2.2.1]) (fun x b => ∃ b1 b2, b1 + b2 ≤ b ∧ okM x.1 b1 ∧ ∃ b3 b4, b3 + b4 ≤ b2 ∧ AV8 x.2.1 b3 ∧ ∃ b5 b6, b5 + b6 ≤ b4 ∧ okI x.2.2.1 b5 ∧ okT x.2.2.2 b6) := by
    rw [Tryz.params16]
    exact readers
  have hlen : ds.length = 3 := by
    obtain ⟨p, q, hA, _⟩ := id hW
    have h2 := (PRs.len hA)
    rw [Tryz.params16] at h2
    exact h2
  refine ARS (E := En (AN5 z)) (f := 16) (fn := Tryz.f16) (s := Rows.coverContinuesSpec) (tb := 4) hr (fun x hx => ?_) hval hW hG rfl (by kernel_rfl) Tryz.underlying4 ?_ laidOut parsOk
  · exact by
      obtain ⟨b1, b2, h1, k1, b3, b4, h2, k2, b5, b6, h3, k3, _⟩ := hx
      exact (AP5 (AN5 z) (AWH z) (AVO _) x.1 (AYB k1 (by omega)) x.2.1.l x.2.1.m x.2.2.1 [] (AX8 k2 (by omega)).1 (AX8 k2 (by omega)).2).mono fun v h' e => e.1
  · match ds, hlen with
    | [d0, d1, d2], _ => rfl

/-- A WORLD FOR THE WITNESS: the heap that the start-up text's own run leaves. -/
noncomputable def laidWorld (os : Os) : World := World.doorLaid Tryz.prog 400 os
theorem laid_met (os : Os) : laidMetH Tryz.prog Rows.coverContinuesUptoRow.laid ((laidWorld os).forCall (fun _ _ => 0) ⟨#[], #[.agg #[.slice none 0 0, .slice none 0 0], .slice none 0 0, .int .i64 0], []⟩).memory :=
  laidMetH_of_parts3 (fuel := 8) (laidMet_of_run' 8 (by kernel_rfl) (by kernel_rfl)) (by kernel_rfl) (by kernel_rfl)
theorem reads (os : Os) {H : Type} (enc : TypeId × Value → H) : ∃ places, DataW.whole enc Tryz.prog ((laidWorld os).forCall (fun _ _ => 0) ⟨#[], #[.agg #[.slice none 0 0, .slice none 0 0], .slice none 0 0, .int .i64 0], []⟩).memory Tryz.f16.params.toList Rows.coverContinuesSpec.vars false (#[.agg #[.slice none 0 0, .slice none 0 0], .slice none 0 0, .int .i64 0] : Array Value).toList 8 = some ([.agg [.nil, .nil], .nil, .lit (.int .i64 0)], [], places) :=
  ⟨[], by kernel_rfl⟩

set_option maxRecDepth 100000 in
theorem liftedUpto (os : Os) (started : os.Started) (H : Type) (enc : TypeId × Value → H) (F : Stop.Interp) :
    ReturnsInHanded {} Tryz.checked os 16 .any ((Rows.OpenSpec.upto Rows.coverContinuesSpec).preRow enc Tryz.prog Tryz.f16 Rows.coverContinuesUptoRow.domain false Rows.coverContinuesUptoRow.laid) (((Rows.OpenSpec.upto Rows.coverContinuesSpec).at F).post enc Tryz.prog Tryz.f16 false true false false) := by
  obtain ⟨places, hx⟩ := reads os enc
  refine returnsInHanded_of_row (C := Tryz.checked) (s := Rows.OpenSpec.upto Rows.coverContinuesSpec) own started (by kernel_rfl) Tryz.func16
    (witness_row_atRef (enc := enc) (C := Tryz.checked) false (laidWorld os) #[.agg #[.slice none 0 0, .slice none 0 0], .slice none 0 0, .int .i64 0] rfl (by kernel_rfl) (by kernel_rfl) (by kernel_rfl)
      (OpenSpec.preRow_of_cond 8 hx (by kernel_rfl) (fun k hk => by cases hk; kernel_rfl) (by kernel_rfl) (laid_met os))) ?_
  intro W base args ds gs before hval hW _ hcond _ hL hsh _
  have hgs : gs = [] := by
    obtain ⟨p, q, _, hV, _⟩ := id hW
    exact (trodVars_none hV).1
  subst hgs
  have hb := hcond _ rfl
  rw [List.append_nil] at hb
  exact contract H enc W base args ds [] before hval hW hL hsh (of_decide_eq_true hb)

theorem closed : joinedFacts Tryz.pinned.checked.prog 16 Tryz.f16 (Rows.OpenSpec.upto Rows.coverContinuesSpec).bare Rows.coverContinuesUptoRow = true := by
  unfold joinedFacts
  rw [Head.AWP, Head.make_is, Head.AVG]
  kernel_rfl
theorem saidUpto : Rows.CoverContinuesUptoSaid :=
  OpenClaim.holds_of_cond 16 Tryz.f16 rfl rfl rfl rfl rfl rfl rfl ⟨rfl, rfl, rfl, rfl, rfl⟩ rfl rfl rfl rfl rfl (by kernel_rfl) Tryz.func16 closed
    (of_decide_eq_true (by kernel_rfl)) (by unfold Func.isWrapper; first | (rw [if_pos (by decide +kernel)]; kernel_rfl) | (rw [if_neg (by decide +kernel)]; exact ⟨rfl, rfl⟩))
    (fun os started H enc _ F => by rw [OpenClaim.pre_eq_preRow]; exact liftedUpto os started H enc F)

theorem plain (f : FuncId) (fn : Func) (hf : Tryz.pinned.checked.prog.funcNamed "testbench/testbenchlaw46.CoverContinues" = some f) (hfn : Tryz.pinned.checked.prog.funcs[f]? = some fn) :
    false = Tryz.pinned.checked.prog.looks [] ∧ ∀ (j : Nat) t, fn.params[j]? = some t → Tryz.pinned.checked.prog.wantsStandIn t = false := by
  obtain rfl : f = 16 := Option.some.inj ((show Tryz.prog.funcNamed "testbench/testbenchlaw46.CoverContinues" = some 16 by kernel_rfl).symm.trans hf) |>.symm
  obtain rfl : fn = Tryz.f16 := (Option.some.inj (Tryz.func16.symm.trans hfn)).symm
  refine ⟨by kernel_rfl, fun j t ht => ?_⟩
  rw [Tryz.params16] at ht
  have hm : t ∈ [25, 64, 3] := by simpa using Array.mem_of_getElem? ht
  have hall : ([25, 64, 3].all fun u => !Tryz.prog.wantsStandIn u) = true := by kernel_rfl
  exact (show Tryz.prog.wantsStandIn t = false by simpa using List.all_eq_true.1 hall t hm)

theorem goes : false = Rows.coverContinuesUptoRow.goesBy Tryz.pinned.checked.prog := by kernel_rfl
/-- THE CARD -/
theorem cardUpto : Rows.CoverContinuesUptoCardSaid :=
  Claim7.holds_tied_plain_at .later [] _ _ _ _ saidUpto (fun _ h => by cases h) (by kernel_rfl) (fun _ h => by cases h) coverContinuesUpto_row_tie rfl ⟨rfl, rfl⟩ (Head.AYC (s := Rows.coverContinuesUptoCard.stood.harness.2) (by kernel_rfl)) rfl plain goes
end Go.Proofs.YtocilianjfhifaaGreatDoor.CoverContinues
