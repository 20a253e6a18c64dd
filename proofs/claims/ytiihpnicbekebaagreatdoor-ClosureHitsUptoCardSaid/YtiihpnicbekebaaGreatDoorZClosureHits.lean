/- ClosureHits: for all arguments the law returns true and leaves them as they were; where the arguments are of bulk at most 1048576, and the listed variables start as the text lays them. -/
import Derived.Test.YtiihpnicbekebaaGreatDoorCards
import Derived.Test.YtiihpnicbekebaaGreatDoorTie
import Derived.Test.YtiihpnicbekebaaGreatDoorCH7
import Derived.Deep.DeepHandedRow
import Derived.Deep.DeepWitnessRowRef
import Derived.Lib.LaidTab
set_option linter.unusedVariables false
namespace Go.Proofs.YtiihpnicbekebaaGreatDoor.ClosureHits
open Go Go.ChangeShapes Go.WideShapes Go.ChangeAt Go.RowKit Go.Proofs.YtiihpnicbekebaaGreatDoor.Sm Go.Proofs.YtiihpnicbekebaaGreatDoor.Cov Go.Proofs.YtiihpnicbekebaaGreatDoor.Xe Go.Proofs.YtiihpnicbekebaaGreatDoor.Ho Go.Proofs.YtiihpnicbekebaaGreatDoor.Bd Go.Proofs.YtiihpnicbekebaaGreatDoor.Bd.Cl

theorem own : ownKnob Tryz.prog.godebug = none := by kernel_rfl
theorem laidOut : laidOutB Tryz.prog = true := by kernel_rfl
theorem parsOk : Tryz.f8.params.toList.all (fun t => Tryz.prog.readableRec t && decide (t < Tryz.prog.types.size)) = true := by kernel_rfl
theorem readers : PRs Tryz.prog [27, 31, 34] (fun x : Pr × Mo × Hl × Unit => [.agg (CW x.1), .agg (DR x.2.1), .agg (FX x.2.2.1)]) (fun x b => ∃ b1 b2, b1 + b2 ≤ b ∧ A5J x.1 b1 ∧ ∃ b3 b4, b3 + b4 ≤ b2 ∧ okM x.2.1 b3 ∧ ∃ b5 b6, b5 + b6 ≤ b4 ∧ A5K x.2.2.1 b5 ∧ okT x.2.2.2 b6) := A5G (A9K BAT (fun x _ => OE x) BAY (by kernel_rfl)) (A5G (A9K rdM (fun x _ => ATT x) BAX (by kernel_rfl)) (A5G (A9K BAU (fun x _ => AOS x) BAW (by kernel_rfl)) A8O))

set_option maxRecDepth 100000 in
theorem contract (H : Type) (enc : TypeId × Value → H) (W : World) (base : Nat) (args : Array Value) (ds gs : List (DataW H)) (before : List MemPlace)
    (hval : ∀ (j : Nat) t v, Tryz.f8.params[j]? = some t → args[j]? = some v → Value.okWide Tryz.prog W .any base t v)
    (hW : DataW.Whole enc Tryz.prog Tryz.f8.params.toList Rows.closureHitsSpec.vars false W args.toList ds gs before) (hL : laidMetH Tryz.prog Rows.closureHitsUptoRow.laid W) (hsh : W.ShapedOpen Tryz.prog)
    (hb : Rows.uptoBulkAll ds ≤ 1048576) :
    Calls Tryz.prog 8 args W fun e W' => ∃ v, e = .returned v ∧ Rows.closureHitsSpec.post enc Tryz.prog Tryz.f8 false true false false W args v W' := by
  obtain ⟨z, hG⟩ := A8S hL hsh
  have hr : PRs Tryz.prog Tryz.f8.params.toList (fun x : Pr × Mo × Hl × Unit => [.agg (CW x.1), .agg (DR x.2.1), .agg (FX x.2.2.1)]) (fun x b => ∃ b1 b2, b1 + b2 ≤ b ∧ A5J x.1 b1 ∧ ∃ b3 b4, b3 + b4 ≤ b2 ∧ okM x.2.1 b3 ∧ ∃ b5 b6, b5 + b6 ≤ b4 ∧ A5K x.2.2.1 b5 ∧ okT x.2.2.2 b6) := by
    rw [Tryz.params8];exact readers
  have hlen : ds.length = 3 := by
    obtain ⟨p, q, hA, _⟩ := id hW;have h2 := (PRs.len hA);rw [Tryz.params8] at h2;exact h2
  refine AX2 (E := En (AR9 z)) (f := 8) (fn := Tryz.f8) (s := Rows.closureHitsSpec) (tb := 4) hr (fun x hx => ?_) hval hW hG rfl (by kernel_rfl) Tryz.underlying4 ?_ laidOut parsOk
  . exact by
      obtain ⟨b1, b2, h1, k1, b3, b4, h2, k2, b5, b6, h3, k3, _⟩ := hx;exact (A56 (AR9 z) (A57 z) (A4V _) x.1 (A9L k1 (by omega)) x.2.1 (A8P k2 (by omega)) x.2.2.1 (A8U k3 (by omega)) []).mono fun v h' e => e.1
  . match ds, hlen with
    | [d0, d1, d2], _ => rfl

/-- A WORLD FOR THE WITNESS: the heap that the start-up text's own run leaves. -/
noncomputable def laidWorld (os : Os) : World := World.doorLaid Tryz.prog 400 os
theorem laid_met (os : Os) : laidMetH Tryz.prog Rows.closureHitsUptoRow.laid ((laidWorld os).forCall (fun _ _ => 0) ⟨#[], #[.agg #[.slice none 0 0, .slice none 0 0, .slice none 0 0, .slice none 0 0, .slice none 0 0], .agg #[.slice none 0 0, .slice none 0 0], .agg #[.bool false, .int .i64 0, .slice none 0 0]], []⟩).memory :=
  laidMetH_of_parts3 (fuel := 8) (laidMet_of_run' 8 (by kernel_rfl) (by kernel_rfl)) (by kernel_rfl) (by kernel_rfl)
theorem reads (os : Os) {H : Type} (enc : TypeId × Value → H) : ∃ places, DataW.whole enc Tryz.prog ((laidWorld os).forCall (fun _ _ => 0) ⟨#[], #[.agg #[.slice none 0 0, .slice none 0 0, .slice none 0 0, .slice none 0 0, .slice none 0 0], .agg #[.slice none 0 0, .slice none 0 0], .agg #[.bool false, .int .i64 0, .slice none 0 0]], []⟩).memory Tryz.f8.params.toList Rows.closureHitsSpec.vars false (#[.agg #[.slice none 0 0, .slice none 0 0, .slice none 0 0, .slice none 0 0, .slice none 0 0], .agg #[.slice none 0 0, .slice none 0 0], .agg #[.bool false, .int .i64 0, .slice none 0 0]] : Array Value).toList 8 = some ([.agg [.nil, .nil, .nil, .nil, .nil], .agg [.nil, .nil], .agg [.lit (.bool false), .lit (.int .i64 0), .nil]], [], places) :=
  ⟨[], by kernel_rfl⟩

set_option maxRecDepth 100000 in
theorem liftedUpto (os : Os) (started : os.Started) (H : Type) (enc : TypeId × Value → H) (F : Stop.Interp) :
    ReturnsInHanded {} Tryz.checked os 8 .any ((Rows.OpenSpec.upto Rows.closureHitsSpec).preRow enc Tryz.prog Tryz.f8 Rows.closureHitsUptoRow.domain false Rows.closureHitsUptoRow.laid) (((Rows.OpenSpec.upto Rows.closureHitsSpec).at F).post enc Tryz.prog Tryz.f8 false true false false) := by
  obtain ⟨places, hx⟩ := reads os enc
  refine returnsInHanded_of_row (C := Tryz.checked) (s := Rows.OpenSpec.upto Rows.closureHitsSpec) own started (by kernel_rfl) Tryz.func8
    (witness_row_atRef (enc := enc) (C := Tryz.checked) false (laidWorld os) #[.agg #[.slice none 0 0, .slice none 0 0, .slice none 0 0, .slice none 0 0, .slice none 0 0], .agg #[.slice none 0 0, .slice none 0 0], .agg #[.bool false, .int .i64 0, .slice none 0 0]] rfl (by kernel_rfl) (by kernel_rfl) (by kernel_rfl)
      (OpenSpec.preRow_of_cond 8 hx (by kernel_rfl) (fun k hk => by cases hk; kernel_rfl) (by kernel_rfl) (laid_met os))) ?_
  intro W base args ds gs before hval hW _ hcond _ hL hsh _
  have hgs : gs = [] := by
    obtain ⟨p, q, _, hV, _⟩ := id hW;exact (trodVars_none hV).1
  subst hgs;have hb := hcond _ rfl;rw [List.append_nil] at hb;exact contract H enc W base args ds [] before hval hW hL hsh (of_decide_eq_true hb)

theorem inPlace_is : Tryz.pinned.checked.prog.inPlace 8 = Rows.closureHitsUptoRow.inPlace := by kernel_rfl
theorem unfollowed_is : Tryz.pinned.checked.prog.unfollowed 8 = true := by kernel_rfl
theorem recurses_is : Tryz.pinned.checked.prog.recurses 8 = true := by kernel_rfl
theorem varsNamed_is : Tryz.pinned.checked.prog.varsNamed 8 = Rows.closureHitsUptoRow.named := by kernel_rfl
theorem plainKeys_is : Tryz.pinned.checked.prog.plainKeys = Rows.closureHitsUptoRow.plainKeys := by kernel_rfl
theorem closed : joinedFacts Tryz.pinned.checked.prog 8 Tryz.f8 (Rows.OpenSpec.upto Rows.closureHitsSpec).bare Rows.closureHitsUptoRow = true := by
  unfold joinedFacts;rw [Head.A6X, Head.make_is, Head.A4I, inPlace_is, unfollowed_is, recurses_is, varsNamed_is, Head.A6G, plainKeys_is, Head.A8T, Head.A8Q]
  kernel_rfl
theorem saidUpto : Rows.ClosureHitsUptoSaid :=
  OpenClaim.holds_of_cond 8 Tryz.f8 rfl rfl rfl rfl rfl rfl rfl ⟨rfl, rfl, rfl, rfl, rfl⟩ rfl rfl rfl rfl rfl (by kernel_rfl) Tryz.func8 closed
    (of_decide_eq_true (by kernel_rfl)) (by unfold Func.isWrapper; first | (rw [if_pos (by decide +kernel)]; kernel_rfl) | (rw [if_neg (by decide +kernel)]; exact ⟨rfl, rfl⟩))
    (fun os started H enc _ F => by rw [OpenClaim.pre_eq_preRow]; exact liftedUpto os started H enc F)

theorem plain (f : FuncId) (fn : Func) (hf : Tryz.pinned.checked.prog.funcNamed "testbench/testbenchlaw51.ClosureHits" = some f) (hfn : Tryz.pinned.checked.prog.funcs[f]? = some fn) :
    false = Tryz.pinned.checked.prog.looks [] ∧ ∀ (j : Nat) t, fn.params[j]? = some t → Tryz.pinned.checked.prog.wantsStandIn t = false := by
  obtain rfl : f = 8 := Option.some.inj ((show Tryz.prog.funcNamed "testbench/testbenchlaw51.ClosureHits" = some 8 by kernel_rfl).symm.trans hf) |>.symm
  obtain rfl : fn = Tryz.f8 := (Option.some.inj (Tryz.func8.symm.trans hfn)).symm;refine ⟨by kernel_rfl, fun j t ht => ?_⟩;rw [Tryz.params8] at ht;have hm : t ∈ [27, 31, 34] := by simpa using Array.mem_of_getElem? ht
  have hall : ([27, 31, 34].all fun u => !Tryz.prog.wantsStandIn u) = true := by kernel_rfl
  exact (show Tryz.prog.wantsStandIn t = false by simpa using List.all_eq_true.1 hall t hm)

theorem goes : false = Rows.closureHitsUptoRow.goesBy Tryz.pinned.checked.prog := by unfold OpenClaim.goesBy Program.goesAt; rw [Head.A8V Head.BAV]; rfl
/-- THE CARD -/
theorem cardUpto : Rows.ClosureHitsUptoCardSaid :=
  Claim7.holds_tied_plain_at .later [] _ _ _ _ saidUpto (fun _ h => by cases h) (by kernel_rfl) (fun _ h => by cases h) closureHitsUpto_row_tie rfl ⟨rfl, rfl⟩ (Head.A8R (s := Rows.closureHitsUptoCard.stood.harness.2) (by kernel_rfl)) rfl plain goes
end Go.Proofs.YtiihpnicbekebaaGreatDoor.ClosureHits
