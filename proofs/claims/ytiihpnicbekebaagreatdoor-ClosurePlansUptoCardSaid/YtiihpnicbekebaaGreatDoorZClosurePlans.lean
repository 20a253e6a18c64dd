/- ClosurePlans: for all arguments the law returns true and leaves them as they were; where the arguments are of bulk at most 1048576, and the listed variables start as the text lays them. -/
import Derived.Test.YtiihpnicbekebaaGreatDoorCards
import Derived.Test.YtiihpnicbekebaaGreatDoorTie
import Derived.Test.YtiihpnicbekebaaGreatDoorCL7
import Derived.Deep.DeepHandedRow
import Derived.Deep.DeepWitnessRowRef
import Derived.Lib.LaidTab
set_option linter.unusedVariables false
namespace Go.Proofs.YtiihpnicbekebaaGreatDoor.ClosurePlans
open Go Go.ChangeShapes Go.WideShapes Go.ChangeAt Go.RowKit Go.Proofs.YtiihpnicbekebaaGreatDoor.Sm Go.Proofs.YtiihpnicbekebaaGreatDoor.Cov Go.Proofs.YtiihpnicbekebaaGreatDoor.Xe Go.Proofs.YtiihpnicbekebaaGreatDoor.Ho Go.Proofs.YtiihpnicbekebaaGreatDoor.Bd Go.Proofs.YtiihpnicbekebaaGreatDoor.Bd.Cl

theorem own : ownKnob Tryz.prog.godebug = none := by kernel_rfl
theorem laidOut : laidOutB Tryz.prog = true := by kernel_rfl
theorem parsOk : Tryz.f4.params.toList.all (fun t => Tryz.prog.readableRec t && decide (t < Tryz.prog.types.size)) = true := by kernel_rfl
theorem readers : nf Tryz.prog [48] (fun x : m_ × Unit => [.agg (TM x.1)]) (fun x b => ∃ b1 b2, b1 + b2 ≤ b ∧ ub x.1 b1 ∧ ts x.2 b2) := MU (Qt BBB (fun x _ => eK x) BBD (by kernel_rfl)) Pz

set_option maxRecDepth 100000 in
theorem contract (H : Type) (enc : TypeId × Value → H) (W : World) (base : Nat) (args : Array Value) (ds gs : List (DataW H)) (before : List MemPlace)
    (hval : ∀ (j : Nat) t v, Tryz.f4.params[j]? = some t → args[j]? = some v → Value.okWide Tryz.prog W .any base t v)
    (hW : DataW.Whole enc Tryz.prog Tryz.f4.params.toList Rows.closurePlansSpec.vars false W args.toList ds gs before) (hL : laidMetH Tryz.prog Rows.closurePlansUptoRow.laid W) (hsh : W.ShapedOpen Tryz.prog)
    (hb : Rows.uptoBulkAll ds ≤ 1048576) :
    Calls Tryz.prog 4 args W fun e W' => ∃ v, e = .returned v ∧ Rows.closurePlansSpec.post enc Tryz.prog Tryz.f4 false true false false W args v W' := by
  obtain ⟨z, hG⟩ := Q2 hL hsh
  have hr : nf Tryz.prog Tryz.f4.params.toList (fun x : m_ × Unit => [.agg (TM x.1)]) (fun x b => ∃ b1 b2, b1 + b2 ≤ b ∧ ub x.1 b1 ∧ ts x.2 b2) := by
    rw [Tryz.params4];exact readers
  have hlen : ds.length = 1 := by
    obtain ⟨p, q, hA, _⟩ := id hW;have h2 := (nf.len hA);rw [Tryz.params4] at h2;exact h2
  refine AYY (E := En (s8 z)) (f := 4) (fn := Tryz.f4) (s := Rows.closurePlansSpec) (tb := 4) hr (fun x hx => ?_) hval hW hG rfl (by kernel_rfl) Tryz.underlying4 ?_ laidOut parsOk
  . exact by
      obtain ⟨b1, b2, h1, k1, _⟩ := hx;obtain ⟨c1, c2, _, c4⟩ := Pd k1 (by omega);exact (Nb (s8 z) (Oi z) x.1 c1 c2 c4 []).mono fun v h' e => e.1
  . match ds, hlen with
    | [d0], _ => rfl

/-- A WORLD FOR THE WITNESS: the heap that the start-up text's own run leaves. -/
noncomputable def laidWorld (os : Os) : World := World.doorLaid Tryz.prog 400 os
theorem laid_met (os : Os) : laidMetH Tryz.prog Rows.closurePlansUptoRow.laid ((laidWorld os).forCall (fun _ _ => 0) ⟨#[], #[.agg #[.slice none 0 0, .slice none 0 0, .slice none 0 0, .slice none 0 0, .slice none 0 0, .slice none 0 0, .slice none 0 0, .bool false, .int .i64 0, .slice none 0 0, .slice none 0 0, .slice none 0 0, .int .i64 0, .int .i64 0, .int .i64 0]], []⟩).memory :=
  laidMetH_of_parts3 (fuel := 8) (laidMet_of_run' 8 (by kernel_rfl) (by kernel_rfl)) (by kernel_rfl) (by kernel_rfl)
theorem reads (os : Os) {H : Type} (enc : TypeId × Value → H) : ∃ places, DataW.whole enc Tryz.prog ((laidWorld os).forCall (fun _ _ => 0) ⟨#[], #[.agg #[.slice none 0 0, .slice none 0 0, .slice none 0 0, .slice none 0 0, .slice none 0 0, .slice none 0 0, .slice none 0 0, .bool false, .int .i64 0, .slice none 0 0, .slice none 0 0, .slice none 0 0, .int .i64 0, .int .i64 0, .int .i64 0]], []⟩).memory Tryz.f4.params.toList Rows.closurePlansSpec.vars false (#[.agg #[.slice none 0 0, .slice none 0 0, .slice none 0 0, .slice none 0 0, .slice none 0 0, .slice none 0 0, .slice none 0 0, .bool false, .int .i64 0, .slice none 0 0, .slice none 0 0, .slice none 0 0, .int .i64 0, .int .i64 0, .int .i64 0]] : Array Value).toList 8 = some ([.agg [.agg [.nil, .nil, .nil, .nil, .nil], .agg [.nil, .nil], .agg [.lit (.bool false), .lit (.int .i64 0), .nil], .agg [.nil, .nil, .lit (.int .i64 0), .lit (.int .i64 0)], .lit (.int .i64 0)]], [], places) :=
  ⟨[], by kernel_rfl⟩

set_option maxRecDepth 100000 in
theorem liftedUpto (os : Os) (started : os.Started) (H : Type) (enc : TypeId × Value → H) (F : Stop.Interp) :
    ReturnsInHanded {} Tryz.checked os 4 .any ((Rows.OpenSpec.upto Rows.closurePlansSpec).preRow enc Tryz.prog Tryz.f4 Rows.closurePlansUptoRow.domain false Rows.closurePlansUptoRow.laid) (((Rows.OpenSpec.upto Rows.closurePlansSpec).at F).post enc Tryz.prog Tryz.f4 false true false false) := by
  obtain ⟨places, hx⟩ := reads os enc
  refine returnsInHanded_of_row (C := Tryz.checked) (s := Rows.OpenSpec.upto Rows.closurePlansSpec) own started (by kernel_rfl) Tryz.func4
    (witness_row_atRef (enc := enc) (C := Tryz.checked) false (laidWorld os) #[.agg #[.slice none 0 0, .slice none 0 0, .slice none 0 0, .slice none 0 0, .slice none 0 0, .slice none 0 0, .slice none 0 0, .bool false, .int .i64 0, .slice none 0 0, .slice none 0 0, .slice none 0 0, .int .i64 0, .int .i64 0, .int .i64 0]] rfl (by kernel_rfl) (by kernel_rfl) (by kernel_rfl)
      (OpenSpec.preRow_of_cond 8 hx (by kernel_rfl) (fun k hk => by cases hk; kernel_rfl) (by kernel_rfl) (laid_met os))) ?_
  intro W base args ds gs before hval hW _ hcond _ hL hsh _
  have hgs : gs = [] := by
    obtain ⟨p, q, _, hV, _⟩ := id hW;exact (trodVars_none hV).1
  subst hgs;have hb := hcond _ rfl;rw [List.append_nil] at hb;exact contract H enc W base args ds [] before hval hW hL hsh (of_decide_eq_true hb)

theorem inPlace_is : Tryz.pinned.checked.prog.inPlace 4 = Rows.closurePlansUptoRow.inPlace := by kernel_rfl
theorem unfollowed_is : Tryz.pinned.checked.prog.unfollowed 4 = true := by kernel_rfl
theorem recurses_is : Tryz.pinned.checked.prog.recurses 4 = true := by kernel_rfl
theorem varsNamed_is : Tryz.pinned.checked.prog.varsNamed 4 = Rows.closurePlansUptoRow.named := by kernel_rfl
theorem plainKeys_is : Tryz.pinned.checked.prog.plainKeys = Rows.closurePlansUptoRow.plainKeys := by kernel_rfl
theorem closed : joinedFacts Tryz.pinned.checked.prog 4 Tryz.f4 (Rows.OpenSpec.upto Rows.closurePlansSpec).bare Rows.closurePlansUptoRow = true := by
  unfold joinedFacts;rw [Head.Pc, Head.make_is, Head.Nc, inPlace_is, unfollowed_is, recurses_is, varsNamed_is, Head.Ot, plainKeys_is, Head.Q', Head.PA]
  kernel_rfl
theorem saidUpto : Rows.ClosurePlansUptoSaid :=
  OpenClaim.holds_of_cond 4 Tryz.f4 rfl rfl rfl rfl rfl rfl rfl ⟨rfl, rfl, rfl, rfl, rfl⟩ rfl rfl rfl rfl rfl (by kernel_rfl) Tryz.func4 closed
    (of_decide_eq_true (by kernel_rfl)) (by unfold Func.isWrapper; first | (rw [if_pos (by decide +kernel)]; kernel_rfl) | (rw [if_neg (by decide +kernel)]; exact ⟨rfl, rfl⟩))
    (fun os started H enc _ F => by rw [OpenClaim.pre_eq_preRow]; exact liftedUpto os started H enc F)

theorem plain (f : FuncId) (fn : Func) (hf : Tryz.pinned.checked.prog.funcNamed "testbench/testbenchlaw51.ClosurePlans" = some f) (hfn : Tryz.pinned.checked.prog.funcs[f]? = some fn) :
    false = Tryz.pinned.checked.prog.looks [] ∧ ∀ (j : Nat) t, fn.params[j]? = some t → Tryz.pinned.checked.prog.wantsStandIn t = false := by
  obtain rfl : f = 4 := Option.some.inj ((show Tryz.prog.funcNamed "testbench/testbenchlaw51.ClosurePlans" = some 4 by kernel_rfl).symm.trans hf) |>.symm
  obtain rfl : fn = Tryz.f4 := (Option.some.inj (Tryz.func4.symm.trans hfn)).symm;refine ⟨by kernel_rfl, fun j t ht => ?_⟩;rw [Tryz.params4] at ht;have hm : t ∈ [48] := by simpa using Array.mem_of_getElem? ht
  have hall : ([48].all fun u => !Tryz.prog.wantsStandIn u) = true := by kernel_rfl
  exact (show Tryz.prog.wantsStandIn t = false by simpa using List.all_eq_true.1 hall t hm)

theorem goes : false = Rows.closurePlansUptoRow.goesBy Tryz.pinned.checked.prog := by unfold OpenClaim.goesBy Program.goesAt; rw [Head.Q_ Head.BBC]; rfl
/-- THE CARD -/
theorem cardUpto : Rows.ClosurePlansUptoCardSaid :=
  Claim7.holds_tied_plain_at .later [] _ _ _ _ saidUpto (fun _ h => by cases h) (by kernel_rfl) (fun _ h => by cases h) closurePlansUpto_row_tie rfl ⟨rfl, rfl⟩ (Head.PB (s := Rows.closurePlansUptoCard.stood.harness.2) (by kernel_rfl)) rfl plain goes
end Go.Proofs.YtiihpnicbekebaaGreatDoor.ClosurePlans
