/- ClosureItems: for all arguments the law returns true and leaves them as they were; where the arguments are of bulk at most 1048576, and the listed variables start as the text lays them. -/
import Derived.Test.YtiihpnicbekebaaGreatDoorCards
import Derived.Test.YtiihpnicbekebaaGreatDoorTie
import Derived.Test.YtiihpnicbekebaaGreatDoorCI6
import Derived.Deep.DeepHandedRow
import Derived.Deep.DeepWitnessRowRef
import Derived.Lib.LaidTab
set_option linter.unusedVariables false
namespace Go.Proofs.YtiihpnicbekebaaGreatDoor.ClosureItems
open Go Go.ChangeShapes Go.WideShapes Go.ChangeAt Go.RowKit Go.Proofs.YtiihpnicbekebaaGreatDoor.Sm Go.Proofs.YtiihpnicbekebaaGreatDoor.Cov Go.Proofs.YtiihpnicbekebaaGreatDoor.Xe Go.Proofs.YtiihpnicbekebaaGreatDoor.Ho Go.Proofs.YtiihpnicbekebaaGreatDoor.Bd Go.Proofs.YtiihpnicbekebaaGreatDoor.Bd.Cl

theorem own : ownKnob Tryz.prog.godebug = none := by kernel_rfl
theorem laidOut : laidOutB Tryz.prog = true := by kernel_rfl
theorem parsOk : Tryz.f6.params.toList.all (fun t => Tryz.prog.readableRec t && decide (t < Tryz.prog.types.size)) = true := by kernel_rfl
theorem readers : PRs Tryz.prog [9, 31, 34] (fun x : ByteArray × Mo × Hl × Unit => [.str x.1, .agg (DJ x.2.1), .agg (FQ x.2.2.1)]) (fun x b => ∃ b1 b2, b1 + b2 ≤ b ∧ okS x.1 b1 ∧ ∃ b3 b4, b3 + b4 ≤ b2 ∧ okM x.2.1 b3 ∧ ∃ b5 b6, b5 + b6 ≤ b4 ∧ A2U x.2.2.1 b5 ∧ okT x.2.2.2 b6) := A2P (A5Y rdStr (av := fun z => .str z) (fun _ => rfl) (by kernel_rfl)) (A2P (A6N rdM (fun x _ => AQ9 x) A7V (by kernel_rfl)) (A2P (A6N A7S (fun x _ => AL4 x) A7U (by kernel_rfl)) A5X))

set_option maxRecDepth 100000 in
theorem contract (H : Type) (enc : TypeId × Value → H) (W : World) (base : Nat) (args : Array Value) (ds gs : List (DataW H)) (before : List MemPlace)
    (hval : ∀ (j : Nat) t v, Tryz.f6.params[j]? = some t → args[j]? = some v → Value.okWide Tryz.prog W .any base t v)
    (hW : DataW.Whole enc Tryz.prog Tryz.f6.params.toList Rows.closureItemsSpec.vars false W args.toList ds gs before) (hL : laidMetH Tryz.prog Rows.closureItemsUptoRow.laid W) (hsh : W.ShapedOpen Tryz.prog)
    (hb : Rows.uptoBulkAll ds ≤ 1048576) :
    Calls Tryz.prog 6 args W fun e W' => ∃ v, e = .returned v ∧ Rows.closureItemsSpec.post enc Tryz.prog Tryz.f6 false true false false W args v W' := by
  obtain ⟨z, hG⟩ := A52 hL hsh
  have hr : PRs Tryz.prog Tryz.f6.params.toList (fun x : ByteArray × Mo × Hl × Unit => [.str x.1, .agg (DJ x.2.1), .agg (FQ x.2.2.1)]) (fun x b => ∃ b1 b2, b1 + b2 ≤ b ∧ okS x.1 b1 ∧ ∃ b3 b4, b3 + b4 ≤ b2 ∧ okM x.2.1 b3 ∧ ∃ b5 b6, b5 + b6 ≤ b4 ∧ A2U x.2.2.1 b5 ∧ okT x.2.2.2 b6) := by
    rw [Tryz.params6];exact readers
  have hlen : ds.length = 3 := by
    obtain ⟨p, q, hA, _⟩ := id hW;have h2 := (PRs.len hA);rw [Tryz.params6] at h2;exact h2
  refine AUZ (E := En (APQ z)) (f := 6) (fn := Tryz.f6) (s := Rows.closureItemsSpec) (tb := 4) hr (fun x hx => ?_) hval hW hG rfl (by kernel_rfl) Tryz.underlying4 ?_ laidOut parsOk
  . exact by
      obtain ⟨b1, b2, h1, k1, b3, b4, h2, k2, b5, b6, h3, k3, _⟩ := hx;exact (A1M (APQ z) (A3C z) x.1 (by have : x.1.size + 1 ≤ b1 := k1; omega) x.2.1 (A5Z k2 (by omega)) x.2.2.1 (A54 k3 (by omega)) []).mono fun v h' e => e.1
  . match ds, hlen with
    | [d0, d1, d2], _ => rfl

/-- A WORLD FOR THE WITNESS: the heap that the start-up text's own run leaves. -/
noncomputable def laidWorld (os : Os) : World := World.doorLaid Tryz.prog 400 os
theorem laid_met (os : Os) : laidMetH Tryz.prog Rows.closureItemsUptoRow.laid ((laidWorld os).forCall (fun _ _ => 0) ⟨#[], #[.string ⟨#[]⟩, .agg #[.slice none 0 0, .slice none 0 0], .agg #[.bool false, .int .i64 0, .slice none 0 0]], []⟩).memory :=
  laidMetH_of_parts3 (fuel := 8) (laidMet_of_run' 8 (by kernel_rfl) (by kernel_rfl)) (by kernel_rfl) (by kernel_rfl)
theorem reads (os : Os) {H : Type} (enc : TypeId × Value → H) : ∃ places, DataW.whole enc Tryz.prog ((laidWorld os).forCall (fun _ _ => 0) ⟨#[], #[.string ⟨#[]⟩, .agg #[.slice none 0 0, .slice none 0 0], .agg #[.bool false, .int .i64 0, .slice none 0 0]], []⟩).memory Tryz.f6.params.toList Rows.closureItemsSpec.vars false (#[.string ⟨#[]⟩, .agg #[.slice none 0 0, .slice none 0 0], .agg #[.bool false, .int .i64 0, .slice none 0 0]] : Array Value).toList 8 = some ([.lit (.string []), .agg [.nil, .nil], .agg [.lit (.bool false), .lit (.int .i64 0), .nil]], [], places) :=
  ⟨[], by kernel_rfl⟩

set_option maxRecDepth 100000 in
theorem liftedUpto (os : Os) (started : os.Started) (H : Type) (enc : TypeId × Value → H) (F : Stop.Interp) :
    ReturnsInHanded {} Tryz.checked os 6 .any ((Rows.OpenSpec.upto Rows.closureItemsSpec).preRow enc Tryz.prog Tryz.f6 Rows.closureItemsUptoRow.domain false Rows.closureItemsUptoRow.laid) (((Rows.OpenSpec.upto Rows.closureItemsSpec).at F).post enc Tryz.prog Tryz.f6 false true false false) := by
  obtain ⟨places, hx⟩ := reads os enc
  refine returnsInHanded_of_row (C := Tryz.checked) (s := Rows.OpenSpec.upto Rows.closureItemsSpec) own started (by kernel_rfl) Tryz.func6
    (witness_row_atRef (enc := enc) (C := Tryz.checked) false (laidWorld os) #[.string ⟨#[]⟩, .agg #[.slice none 0 0, .slice none 0 0], .agg #[.bool false, .int .i64 0, .slice none 0 0]] rfl (by kernel_rfl) (by kernel_rfl) (by kernel_rfl)
      (OpenSpec.preRow_of_cond 8 hx (by kernel_rfl) (fun k hk => by cases hk; kernel_rfl) (by kernel_rfl) (laid_met os))) ?_
  intro W base args ds gs before hval hW _ hcond _ hL hsh _
  have hgs : gs = [] := by
    obtain ⟨p, q, _, hV, _⟩ := id hW;exact (trodVars_none hV).1
  subst hgs;have hb := hcond _ rfl;rw [List.append_nil] at hb;exact contract H enc W base args ds [] before hval hW hL hsh (of_decide_eq_true hb)

theorem inPlace_is : Tryz.pinned.checked.prog.inPlace 6 = Rows.closureItemsUptoRow.inPlace := by kernel_rfl
theorem unfollowed_is : Tryz.pinned.checked.prog.unfollowed 6 = true := by kernel_rfl
theorem recurses_is : Tryz.pinned.checked.prog.recurses 6 = true := by kernel_rfl
theorem varsNamed_is : Tryz.pinned.checked.prog.varsNamed 6 = Rows.closureItemsUptoRow.named := by kernel_rfl
theorem plainKeys_is : Tryz.pinned.checked.prog.plainKeys = Rows.closureItemsUptoRow.plainKeys := by kernel_rfl
theorem closed : joinedFacts Tryz.pinned.checked.prog 6 Tryz.f6 (Rows.OpenSpec.upto Rows.closureItemsSpec).bare Rows.closureItemsUptoRow = true := by
  unfold joinedFacts;rw [Head.A32, Head.make_is, Head.A1N, inPlace_is, unfollowed_is, recurses_is, varsNamed_is, Head.A3L, plainKeys_is, Head.A53, Head.A50]
  kernel_rfl
theorem saidUpto : Rows.ClosureItemsUptoSaid :=
  OpenClaim.holds_of_cond 6 Tryz.f6 rfl rfl rfl rfl rfl rfl rfl ⟨rfl, rfl, rfl, rfl, rfl⟩ rfl rfl rfl rfl rfl (by kernel_rfl) Tryz.func6 closed
    (of_decide_eq_true (by kernel_rfl)) (by unfold Func.isWrapper; first | (rw [if_pos (by decide +kernel)]; kernel_rfl) | (rw [if_neg (by decide +kernel)]; exact ⟨rfl, rfl⟩))
    (fun os started H enc _ F => by rw [OpenClaim.pre_eq_preRow]; exact liftedUpto os started H enc F)

theorem plain (f : FuncId) (fn : Func) (hf : Tryz.pinned.checked.prog.funcNamed "testbench/testbenchlaw51.ClosureItems" = some f) (hfn : Tryz.pinned.checked.prog.funcs[f]? = some fn) :
    false = Tryz.pinned.checked.prog.looks [] ∧ ∀ (j : Nat) t, fn.params[j]? = some t → Tryz.pinned.checked.prog.wantsStandIn t = false := by
  obtain rfl : f = 6 := Option.some.inj ((show Tryz.prog.funcNamed "testbench/testbenchlaw51.ClosureItems" = some 6 by kernel_rfl).symm.trans hf) |>.symm
  obtain rfl : fn = Tryz.f6 := (Option.some.inj (Tryz.func6.symm.trans hfn)).symm;refine ⟨by kernel_rfl, fun j t ht => ?_⟩;rw [Tryz.params6] at ht;have hm : t ∈ [9, 31, 34] := by simpa using Array.mem_of_getElem? ht
  have hall : ([9, 31, 34].all fun u => !Tryz.prog.wantsStandIn u) = true := by kernel_rfl
  exact (show Tryz.prog.wantsStandIn t = false by simpa using List.all_eq_true.1 hall t hm)

theorem goes : false = Rows.closureItemsUptoRow.goesBy Tryz.pinned.checked.prog := by unfold OpenClaim.goesBy Program.goesAt; rw [Head.A55 Head.A7T]; rfl
/-- THE CARD -/
theorem cardUpto : Rows.ClosureItemsUptoCardSaid :=
  Claim7.holds_tied_plain_at .later [] _ _ _ _ saidUpto (fun _ h => by cases h) (by kernel_rfl) (fun _ h => by cases h) closureItemsUpto_row_tie rfl ⟨rfl, rfl⟩ (Head.A51 (s := Rows.closureItemsUptoCard.stood.harness.2) (by kernel_rfl)) rfl plain goes
end Go.Proofs.YtiihpnicbekebaaGreatDoor.ClosureItems
