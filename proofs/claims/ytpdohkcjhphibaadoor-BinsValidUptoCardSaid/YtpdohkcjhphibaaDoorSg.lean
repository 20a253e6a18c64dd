/- From what a call's arguments read as to abstract values, and from an abstract contract back to the row's own words; no condition. -/
import Derived.Test.YtpdohkcjhphibaaDoorSw
import Derived.Test.YtpdohkcjhphibaaDoorRows
import Derived.Carry
import Derived.ReadAgain
import Derived.ChangeSame
import Derived.OpenShut
import Derived.WideKeyArgs
set_option linter.unusedVariables false
namespace Go.Proofs.YtpdohkcjhphibaaDoor.Sm
open Go

def M0 (W : World) : Nat → Option Obj := fun k => W.heap[k]?
def g0 (W : World) : Gh := ⟨M0 W, fun _ => none, W.os, W.tape, W.output⟩
theorem sim0 {E : Env} {W : World} (hG : ∀ n, RepF (M0 W) (E.G n) (.pointer (some ⟨n, 0, none⟩))) : SimH E (g0 W) [] W where
  os := rfl
  tape := rfl
  output := rfl
  fro k o h := h
  live b k xs h := by simp at h
  iter b s pos h := by simp at h
  inj b b' x x' l l' h := by simp at h
  fresh b _ := rfl
  glob := hG

theorem calls_below {E : Env} {f : FuncId} {avs : List AV} {args : Array Value} {W : World} (hc : ACalls E f avs [] fun v _ => v = .bool true)
    (hG : ∀ n, RepF (M0 W) (E.G n) (.pointer (some ⟨n, 0, none⟩))) (ha : RepL (g0 W) avs args) :
    Calls E.P f args W fun e w' => e = .returned (.bool true) ∧ RowKit.Below W.heap.size W w' := by
  refine (hc.2 (g0 W) W args (sim0 hG) ha).mono ?_
  rintro e w' ⟨v, cv, g', h', rfl, rfl, hle, S, hr⟩
  rw [hr.bool_inv]
  have hfro : ∀ k o, W.heap[k]? = some o → w'.heap[k]? = some o := fun k o h => S.fro k o (hle.M k o h)
  refine ⟨rfl, ?_, ?_, ?_, ?_, ?_⟩
  · rw [S.os, hle.os]; rfl
  · rw [S.tape, hle.tape]; rfl
  · rw [S.output, hle.output]; rfl
  · rcases Nat.lt_or_ge w'.heap.size W.heap.size with h | h
    · have h1 := hfro w'.heap.size _ (Array.getElem?_eq_getElem h)
      simp at h1
    · exact h
  · intro k hk
    rw [hfro k _ (Array.getElem?_eq_getElem hk), Array.getElem?_eq_getElem hk]

/-- what a law's row asks behind the call -/
theorem post_law {H : Type} {enc : TypeId × Value → H} {P : Program} {f : Func} {s : ChangeSpec} {tb : TypeId} {apart fresh handsOn : Bool} {W W' : World} {args : Array Value} {ds gs : List (DataW H)} {before : List MemPlace}
    (hW : DataW.Whole enc P f.params.toList s.vars apart W args.toList ds gs before) (hb : RowKit.Below W.heap.size W W')
    (hv : s.vars = []) (hr : f.resultTypes = #[tb]) (hub : P.underlying tb = some .bool)
    (hs : s.fn H ds = { results := [.lit (.bool true)], args := ds })
    (hl : laidOutB P = true) (hp : f.params.toList.all (fun t => P.readableRec t && decide (t < P.types.size)) = true) :
    s.post enc P f apart fresh handsOn false W args (.bool true) W' := by
  have hW0 := hW
  obtain ⟨p, q, hA, hV, rfl, _, _⟩ := hW
  rw [hv] at hV
  obtain ⟨rfl, rfl⟩ : gs = [] ∧ q = [] := by
    cases gs with
    | nil => exact ⟨rfl, hV⟩
    | cons => exact hV.elim
  have hfn : s.fn H (ds ++ []) = { results := [.lit (.bool true)], args := ds } := by rw [List.append_nil]; exact hs
  rw [List.append_nil] at hW0
  have hlt : ∀ x ∈ p, x.block < W.heap.size := fun x hx => hW0.lt x hx
  have hall : ∀ (sp : Nat → Bool), (∀ x ∈ p, sp x.block = true) → ∀ {ts : List TypeId} {vs : List Value} {ds : List (DataW H)} {ps : List MemPlace}, (ts.all (fun t => P.readableRec t && decide (t < P.types.size)) = true) →
      (∀ x ∈ ps, x ∈ p) → DataW.TrodAll enc P W 0 (fun _ => true) true ts vs ds ps → DataW.TrodAll enc P W' 0 sp true ts vs ds ps := by
    intro sp hsp ts
    induction ts with
    | nil =>
      intro vs ds ps _ _ h
      cases vs <;> cases ds <;> first | exact h | exact h.elim
    | cons t ts ih =>
      intro vs ds ps hts hm h
      cases vs with
      | nil => exact h.elim
      | cons v vs =>
        cases ds with
        | nil => exact h.elim
        | cons d ds =>
          obtain ⟨p1, q1, h1, h2, e⟩ := h
          simp only [List.all_cons, Bool.and_eq_true, decide_eq_true_eq] at hts
          have hm1 : ∀ x ∈ p1, x ∈ p := fun x hx => hm x (by rw [e]; exact List.mem_append_left _ hx)
          exact ⟨p1, q1, WideElems.Trod_stays hl hts.1.1 hts.1.2 h1 (fun x hx => hb.same (hlt x (hm1 x hx))) (fun x hx => hsp x (hm1 x hx)), ih hts.2 (fun x hx => hm x (by rw [e]; exact List.mem_append_right _ hx)) h2, e⟩
  have hold : ∀ x ∈ p, (fun b => decide (b < W.heap.size)) x.block = true := fun x hx => by simpa using hlt x hx
  refine ⟨ds, [], p, [], p, [], hW0, ?_, ?_, ?_, World.keptBut_mono (fun x hx => ⟨hx, .inr (.inl hx)⟩) (hb.frame (· ∈ p)), fun h => by cases h⟩
  · rw [hfn, hr]
    exact ChangeShapes.trodAll_mk1 (RowKit.shut_bool hub true)
  · rw [hfn]; exact hall _ hold hp (fun _ h => h) hA
  · rw [hv, hfn]; exact rfl

end Go.Proofs.YtpdohkcjhphibaaDoor.Sm
