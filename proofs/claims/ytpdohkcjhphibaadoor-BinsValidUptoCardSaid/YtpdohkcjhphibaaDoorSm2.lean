/- The abstract operations that leave memory alone, and that each is what the model does; no condition. -/
import Derived.Test.YtpdohkcjhphibaaDoorSm1
import Derived.Laws.StructEq
set_option linter.unusedVariables false
namespace Go.Proofs.YtpdohkcjhphibaaDoor.Sm
open Go

def szO (P : Program) (t : TypeId) : Option Nat := (P.info? t).map (·.size)
def zeroO (P : Program) (t : TypeId) : Option Value := (P.info? t).bind (·.zero)
def aggO (P : Program) (t : TypeId) : Option Bool := (P.underlying t).map fun d => match d with | .struct _ => true | .array _ _ => true | _ => false

theorem run_sizeOf_of {P : Program} {t : TypeId} {n : Nat} (h : szO P t = some n) (w : World) : (sizeOf t).run P w = .ok n w := by
  unfold szO at h
  cases hi : P.info? t with
  | none => simp [hi] at h
  | some i => simp [hi] at h; simp [sizeOf, typeInfo, hi, h]
theorem run_zeroValue_of {P : Program} {t : TypeId} {z : Value} (h : zeroO P t = some z) (w : World) : (zeroValue t).run P w = .ok z w := by
  unfold zeroO at h
  cases hi : P.info? t with
  | none => simp [hi] at h
  | some i => simp [hi] at h; simp [zeroValue, typeInfo, hi, h]
theorem run_underlying_of {P : Program} {t : TypeId} {d : TypeDesc} (h : P.underlying t = some d) (w : World) : (underlying t).run P w = .ok d w := by
  simp [underlying, h]
theorem run_isAgg_of {P : Program} {t : TypeId} {b : Bool} (h : aggO P t = some b) (w : World) : (isAgg t).run P w = .ok b w := by
  unfold aggO at h
  cases hd : P.underlying t with
  | none => simp [hd] at h
  | some d => simp [hd] at h; cases d <;> simp at h <;> simp [isAgg, underlying, hd, h]

/- ints -/
def aArith (op : BinOp) (k : IntKind) (a b : Int) : Option AV :=
  match op with
  | .add => some (.int k (k.wrap (a + b)))
  | .sub => some (.int k (k.wrap (a - b)))
  | .mul => some (.int k (k.wrap (a * b)))
  | .quo => if b = 0 then none else some (.int k (k.wrap (a.tdiv b)))
  | .rem => if b = 0 then none else some (.int k (a.tmod b))
  | .and => some (.int k (k.wrap (BitVec.ofInt k.bits a &&& BitVec.ofInt k.bits b).toNat))
  | .or => some (.int k (k.wrap (BitVec.ofInt k.bits a ||| BitVec.ofInt k.bits b).toNat))
  | .xor => some (.int k (k.wrap (BitVec.ofInt k.bits a ^^^ BitVec.ofInt k.bits b).toNat))
  | .andNot => some (.int k (k.wrap (BitVec.ofInt k.bits a &&& ~~~(BitVec.ofInt k.bits b)).toNat))
  | .eql => some (.bool (a == b))
  | .neq => some (.bool (a != b))
  | .lss => some (.bool (decide (a < b)))
  | .leq => some (.bool (decide (a ≤ b)))
  | .gtr => some (.bool (decide (a > b)))
  | .geq => some (.bool (decide (a ≥ b)))
  | _ => none
def aInt (op : BinOp) (k : IntKind) (a : Int) (k' : IntKind) (b : Int) : Option AV :=
  match op with
  | .shl => if b < 0 then none else some (.int k (k.wrap (a * 2 ^ (min b.toNat k.bits))))
  | .shr => if b < 0 then none else some (.int k (a.fdiv (2 ^ (min b.toNat k.bits))))
  | _ => if k = k' then aArith op k a b else none
def aStr (op : BinOp) (a b : ByteArray) : Option AV :=
  match op with
  | .add => if ((a.size + b.size : Nat) : Int) ≤ IntKind.i64.max then some (.str (a ++ b)) else none
  | .eql => some (.bool (a.toList == b.toList))
  | .neq => some (.bool (!(a.toList == b.toList)))
  | .lss => some (.bool (Op.bytesLess a.toList b.toList))
  | _ => none
def aBoolEq (P : Program) (t : TypeId) (op : BinOp) (a b : Bool) : Option AV :=
  match P.underlying t with
  | some .bool => match op with
    | .eql => some (.bool (a == b))
    | .neq => some (.bool (!(a == b)))
    | _ => none
  | _ => none

/-- two cells that are compared -/
def cellEq : Option TypeDesc → Option AV → Option AV → Option Bool
  | some (.int _), some (.int k a), some (.int k' b) => if k = k' then some (a == b) else none
  | some .bool, some (.bool a), some (.bool b) => some (a == b)
  | some .string, some (.str a), some (.str b) => some (a.toList == b.toList)
  | _, _, _ => none
def eqF (P : Program) (xs ys : List AV) : List Field → Option Bool
  | [] => some true
  | f :: fs => if f.name = "_" then none else match cellEq (P.underlying f.type) xs[f.offset]? ys[f.offset]?, eqF P xs ys fs with
    | some a, some b => some (a && b)
    | _, _ => none
def aAggEq (P : Program) (t : TypeId) (op : BinOp) (xs ys : List AV) : Option AV :=
  match P.underlying t with
  | some (.struct fs) => if P.stoodInHeld t = false ∧ P.eqGuardType P.depth t = false then match eqF P xs ys fs.toList with
      | some r => match op with
        | .eql => some (.bool r)
        | .neq => some (.bool (!r))
        | _ => none
      | none => none
    else none
  | _ => none
theorem cellEq_sound {P : Program} {d n : Nat} {t : TypeId} {xs ys : List AV} {vs us : Array Value} {g : Gh} {r : Bool} (w : World) (h : cellEq (P.underlying t) xs[n]? ys[n]? = some r)
    (h1 : vs.size = xs.length) (h2 : ∀ (i : Nat) (v : AV) (cv : Value), xs[i]? = some v → vs[i]? = some cv → Rep g v cv)
    (h3 : us.size = ys.length) (h4 : ∀ (i : Nat) (v : AV) (cv : Value), ys[i]? = some v → us[i]? = some cv → Rep g v cv) :
    ∃ a b, (part t vs n).run P w = .ok a w ∧ (part t us n).run P w = .ok b w ∧ (Op.equalIn (d + 1) t a b).run P w = .ok r w := by
  have get : ∀ {zs : List AV} {cs : Array Value} {x : AV}, cs.size = zs.length → (∀ (i : Nat) (v : AV) (cv : Value), zs[i]? = some v → cs[i]? = some cv → Rep g v cv) → zs[n]? = some x → ∃ c, cs[n]? = some c ∧ Rep g x c := by
    intro zs cs x hs hr hx
    have hlt : n < cs.size := by
      rw [hs]
      rcases Nat.lt_or_ge n zs.length with h | h
      · exact h
      · rw [List.getElem?_eq_none h] at hx; cases hx
    exact ⟨cs[n], by simp [hlt], hr n x cs[n] hx (by simp [hlt])⟩
  have prt : ∀ {cs : Array Value} {c : Value} {td : TypeDesc}, P.underlying t = some td → (match td with | .struct _ => true | .array _ _ => true | _ => false) = false → cs[n]? = some c → (part t cs n).run P w = .ok c w := by
    intro cs c td hd hn hc
    have ha : aggO P t = some false := by simp [aggO, hd, hn]
    simp [part, run_isAgg_of ha, hc]
  unfold cellEq at h
  split at h
  · rename_i ki k a k' b hu hx hy
    split at h
    · rename_i hk
      subst hk
      cases h
      obtain ⟨c1, p1, q1⟩ := get h1 h2 hx
      obtain ⟨c2, p2, q2⟩ := get h3 h4 hy
      rw [q1.int_inv] at p1; rw [q2.int_inv] at p2
      exact ⟨_, _, prt hu rfl p1, prt hu rfl p2, run_equalIn_int w d t k ki a b hu⟩
    · cases h
  · rename_i a b hu hx hy
    cases h
    obtain ⟨c1, p1, q1⟩ := get h1 h2 hx
    obtain ⟨c2, p2, q2⟩ := get h3 h4 hy
    rw [q1.bool_inv] at p1; rw [q2.bool_inv] at p2
    exact ⟨_, _, prt hu rfl p1, prt hu rfl p2, run_equalIn_bool' w d t a b hu⟩
  · rename_i a b hu hx hy
    cases h
    obtain ⟨c1, p1, q1⟩ := get h1 h2 hx
    obtain ⟨c2, p2, q2⟩ := get h3 h4 hy
    rw [q1.str_inv] at p1; rw [q2.str_inv] at p2
    exact ⟨_, _, prt hu rfl p1, prt hu rfl p2, run_equalIn_string w d t a b hu⟩
  · cases h
theorem eqF_sound {P : Program} {d : Nat} {xs ys : List AV} {vs us : Array Value} {g : Gh} (w : World)
    (h1 : vs.size = xs.length) (h2 : ∀ (i : Nat) (v : AV) (cv : Value), xs[i]? = some v → vs[i]? = some cv → Rep g v cv)
    (h3 : us.size = ys.length) (h4 : ∀ (i : Nat) (v : AV) (cv : Value), ys[i]? = some v → us[i]? = some cv → Rep g v cv) : ∀ (fs : List Field) (r : Bool), eqF P xs ys fs = some r → (Op.eqFields (d + 1) vs us fs).run P w = .ok r w
  | [], r, h => by simp [eqF] at h; subst h; simp [Op.eqFields]
  | f :: fs, r, h => by
    simp only [eqF] at h
    split at h
    · cases h
    rename_i hn
    split at h
    case h_2 => cases h
    rename_i a b ha hb
    cases h
    obtain ⟨c1, c2, p1, p2, p3⟩ := cellEq_sound (d := d) w ha h1 h2 h3 h4
    have ih := eqF_sound (d := d) w h1 h2 h3 h4 fs b hb
    simp only [Op.eqFields, ne_eq, hn, not_false_eq_true, if_true, Sem.run_bind, p1, p2, p3, Result.andThen_ok]
    cases a with
    | true => simpa using ih
    | false => simp
def isNilA : AV → Option Bool
  | .sl .nil _ _ => some true
  | .sl _ _ _ => some false
  | .own _ _ _ => some false
  | .nilp => some true
  | .ptr _ _ _ => some false
  | .fptr _ _ _ _ => some false
  | .nilfn => some true
  | .fn _ _ _ => some false
  | _ => none
/-- which kind of reference: 0 slice, 1 pointer, 2 function -/
def refA : AV → Option Nat
  | .sl _ _ _ => some 0
  | .own _ _ _ => some 0
  | .nilp => some 1
  | .ptr _ _ _ => some 1
  | .fptr _ _ _ _ => some 1
  | .nilfn => some 2
  | .fn _ _ _ => some 2
  | _ => none
def refT (P : Program) (t : TypeId) : Option Nat :=
  match P.underlying t with
  | some (.slice _) => some 0
  | some (.pointer _) => some 1
  | some (.func _ _ _) => some 2
  | _ => none
def aNilEq (P : Program) (t : TypeId) (op : BinOp) (x y : AV) : Option AV :=
  if refT P t = some 0 ∧ refA x = some 0 ∧ refA y = some 0 ∨ refT P t = some 1 ∧ refA x = some 1 ∧ refA y = some 1 ∨ refT P t = some 2 ∧ refA x = some 2 ∧ refA y = some 2 then
    match isNilA x, isNilA y with
    | some a, some true => match op with
      | .eql => some (.bool a)
      | .neq => some (.bool (!a))
      | _ => none
    | some true, some a => match op with
      | .eql => some (.bool a)
      | .neq => some (.bool (!a))
      | _ => none
    | _, _ => none
  else none
def aBin (P : Program) (t : TypeId) (op : BinOp) (x y : AV) : Option AV :=
  match x with
  | .int k a => match y with
    | .int k' b => aInt op k a k' b
    | _ => none
  | .str a => match y with
    | .str b => aStr op a b
    | _ => none
  | .bool a => match y with
    | .bool b => aBoolEq P t op a b
    | _ => none
  | .agg xs => match y with
    | .agg ys => aAggEq P t op xs ys
    | _ => none
  | .sl m k xs => aNilEq P t op (.sl m k xs) y
  | .own b o l => aNilEq P t op (.own b o l) y
  | .nilp => aNilEq P t op .nilp y
  | .ptr b i j => aNilEq P t op (.ptr b i j) y
  | .fptr k xs i j => aNilEq P t op (.fptr k xs i j) y
  | .nilfn => aNilEq P t op .nilfn y
  | .fn f a b => aNilEq P t op (.fn f a b) y
  | _ => none

def binRun (op : BinOp) (t : TypeId) (x y : Operand) (a b : Value) : Sem Value := do eqGuard op t x y a b; binOp op t a b

theorem aInt_sound {P : Program} {t : TypeId} {op : BinOp} {k k' : IntKind} {a b : Int} {v : AV} (g : Gh) (w : World) (x y : Operand) (h : aInt op k a k' b = some v) :
    ∃ cv, (binRun op t x y (.int k a) (.int k' b)).run P w = .ok cv w ∧ Rep g v cv := by
  unfold aInt at h
  cases op <;> simp only at h
  case shl =>
    split at h
    · cases h
    · cases h; rename_i hb; exact ⟨_, by simp [binRun, eqGuard, binOp, Op.shift, hb], .int _ _ _⟩
  case shr =>
    split at h
    · cases h
    · cases h; rename_i hb; exact ⟨_, by simp [binRun, eqGuard, binOp, Op.shift, hb], .int _ _ _⟩
  all_goals
    split at h
    case isFalse => cases h
    rename_i hk
    subst hk
    simp only [aArith] at h
  case quo =>
    split at h
    · cases h
    · cases h; rename_i hb; exact ⟨_, by simp [binRun, eqGuard, binOp, Op.intDiv, hb], .int _ _ _⟩
  case rem =>
    split at h
    · cases h
    · cases h; rename_i hb; exact ⟨_, by simp [binRun, eqGuard, binOp, Op.intDiv, hb], .int _ _ _⟩
  all_goals first
    | (cases h; done)
    | (cases h; exact ⟨_, by simp only [binRun, eqGuard, binOp, Sem.run_bind, ne_eq, not_true_eq_false, ↓reduceIte]; rfl, .int _ _ _⟩)
    | (cases h; exact ⟨_, by simp only [binRun, eqGuard, binOp, Sem.run_bind, ne_eq, not_true_eq_false, ↓reduceIte]; rfl, .bool _ _⟩)

theorem aStr_sound {P : Program} {t : TypeId} {op : BinOp} {a b : ByteArray} {v : AV} (g : Gh) (w : World) (x y : Operand) (h : aStr op a b = some v) :
    ∃ cv, (binRun op t x y (.string a) (.string b)).run P w = .ok cv w ∧ Rep g v cv := by
  unfold aStr at h
  cases op <;> simp only at h
  case add =>
    split at h
    · cases h
      rename_i hb
      have hb' : ¬ (((a.size + b.size : Nat) : Int) > IntKind.i64.max) := Int.not_lt.2 hb
      exact ⟨_, by simp only [binRun, eqGuard, binOp, Op.stringOp, if_neg hb', Sem.run_bind]; rfl, .str _ _⟩
    · cases h
  all_goals first
    | (cases h; done)
    | (cases h; exact ⟨_, by simp only [binRun, eqGuard, binOp, Op.stringOp, Sem.run_bind]; rfl, .bool _ _⟩)

theorem equal_succ (t : TypeId) (x y : Value) : Op.equal t x y = Op.equalIn (9999 + 1) t x y := rfl
theorem run_eq_bool {P : Program} {t : TypeId} (hu : P.underlying t = some .bool) (d : Nat) (a b : Bool) (w : World) :
    (Op.equalIn (d + 1) t (.bool a) (.bool b)).run P w = .ok (a == b) w := by simp [Op.equalIn, underlying, hu]
theorem run_eq_slice {P : Program} {t e : TypeId} (hu : P.underlying t = some (.slice e)) (d : Nat) (p q : Option Addr) (l c l' c' : Nat) (w : World) (h : p = none ∨ q = none) :
    (Op.equalIn (d + 1) t (.slice p l c) (.slice q l' c')).run P w = .ok (p.isNone && q.isNone) w := by
  cases p <;> cases q <;> simp at h <;> simp [Op.equalIn, underlying, hu]
theorem run_eq_pointer {P : Program} {t e : TypeId} (hu : P.underlying t = some (.pointer e)) (d : Nat) (p q : Option Addr) (w : World) (h : p = none ∨ q = none) :
    (Op.equalIn (d + 1) t (.pointer p) (.pointer q)).run P w = .ok (p.isNone && q.isNone) w := by
  cases p <;> cases q <;> simp at h <;> simp [Op.equalIn, underlying, hu]
theorem run_eq_fn {P : Program} {t : TypeId} {a b : Array TypeId} {c : Bool} (hu : P.underlying t = some (.func a b c)) (d : Nat) (w : World) :
    (Op.equalIn (d + 1) t .nilFunc .nilFunc).run P w = .ok true w ∧ (∀ f p q, (Op.equalIn (d + 1) t .nilFunc (.func f p q)).run P w = .ok false w) ∧
    ∀ f p q, (Op.equalIn (d + 1) t (.func f p q) .nilFunc).run P w = .ok false w := by
  simp [Op.equalIn, underlying, hu]
theorem run_binRun_bool {P : Program} {t : TypeId} (hu : P.underlying t = some .bool) (x y : Operand) (a b : Bool) (w : World) :
    (binRun .eql t x y (.bool a) (.bool b)).run P w = .ok (.bool (a == b)) w ∧ (binRun .neq t x y (.bool a) (.bool b)).run P w = .ok (.bool (!(a == b))) w := by
  simp only [binRun, eqGuard, binOp, equal_succ]
  constructor <;> simp [run_eq_bool hu]
theorem aBoolEq_sound {P : Program} {t : TypeId} {op : BinOp} {a b : Bool} {v : AV} (g : Gh) (w : World) (x y : Operand) (h : aBoolEq P t op a b = some v) :
    ∃ cv, (binRun op t x y (.bool a) (.bool b)).run P w = .ok cv w ∧ Rep g v cv := by
  unfold aBoolEq at h
  split at h
  · rename_i hu
    have k := run_binRun_bool hu x y a b w
    cases op <;> simp only at h <;> first
      | (cases h; done)
      | (cases h; exact ⟨_, k.1, .bool _ _⟩)
      | (cases h; exact ⟨_, k.2, .bool _ _⟩)
  · cases h

theorem aAggEq_sound {P : Program} {t : TypeId} {op : BinOp} {xs ys : List AV} {v : AV} {cx cy : Value} {g : Gh} (w : World) (x y : Operand) (h : aAggEq P t op xs ys = some v)
    (hx : Rep g (.agg xs) cx) (hy : Rep g (.agg ys) cy) : ∃ cv, (binRun op t x y cx cy).run P w = .ok cv w ∧ Rep g v cv := by
  obtain ⟨vs, rfl, h1, h2⟩ := hx.agg_inv
  obtain ⟨us, rfl, h3, h4⟩ := hy.agg_inv
  unfold aAggEq at h
  split at h
  case h_2 => cases h
  rename_i fs hu
  split at h
  case isFalse => cases h
  rename_i hc
  obtain ⟨hc1, hc2⟩ := hc
  split at h
  case h_2 => cases h
  rename_i r hr
  have hfs : P.fieldsOf t = fs := by simp [Program.fieldsOf, hu]
  have hE := eqF_sound (d := 9998) w h1 h2 h3 h4 fs.toList r hr
  have hI : (Op.equalIn 10000 t (.agg vs) (.agg us)).run P w = .ok r w := by
    rw [run_equalIn_agg w 9999 t vs us (by rw [hfs]; exact hu) hc1, hfs]; exact hE
  split at h
  · cases h
    refine ⟨.bool r, ?_, .bool g r⟩
    simp only [binRun, Sem.run_bind, run_eqGuard_agg w .eql t x y vs us hc2, Result.andThen_ok, run_eql_struct, hI]
  · cases h
    refine ⟨.bool (!r), ?_, .bool g _⟩
    simp only [binRun, Sem.run_bind, run_eqGuard_agg w .neq t x y vs us hc2, Result.andThen_ok, run_neq_struct, hI]
  · cases h

theorem aNilEq_sound {P : Program} {t : TypeId} {op : BinOp} {x y v : AV} {cx cy : Value} {g : Gh} (w : World) (ox oy : Operand) (h : aNilEq P t op x y = some v)
    (hx : Rep g x cx) (hy : Rep g y cy) : ∃ cv, (binRun op t ox oy cx cy).run P w = .ok cv w ∧ Rep g v cv := by
  have key : ∀ (a b : Bool), isNilA x = some a → isNilA y = some b → (a = true ∨ b = true) → (refT P t = some 0 ∧ refA x = some 0 ∧ refA y = some 0 ∨ refT P t = some 1 ∧ refA x = some 1 ∧ refA y = some 1 ∨ refT P t = some 2 ∧ refA x = some 2 ∧ refA y = some 2) →
      (Op.equal t cx cy).run P w = .ok (a && b) w ∧ (∀ (op : BinOp), (eqGuard op t ox oy cx cy).run P w = .ok () w) ∧ binOp .eql t cx cy = (do pure (.bool (← Op.equal t cx cy)) : Sem Value) ∧ binOp .neq t cx cy = (do pure (.bool (!(← Op.equal t cx cy))) : Sem Value) := by
    intro a b ha hb hab hr
    have hu : (refT P t = some 0 → ∃ e, P.underlying t = some (.slice e)) ∧ (refT P t = some 1 → ∃ e, P.underlying t = some (.pointer e)) ∧ (refT P t = some 2 → ∃ p r q, P.underlying t = some (.func p r q)) := by
      unfold refT
      refine ⟨fun h => ?_, fun h => ?_, fun h => ?_⟩ <;> split at h <;> simp at h <;> simp_all
    have hg : ∀ (op : BinOp) (c d : Value), (match c, d with | .nilIface, .nilIface => False | .agg _, .agg _ => False | _, _ => True) → (eqGuard op t ox oy c d).run P w = .ok () w := by
      intro op c d hcd
      unfold eqGuard
      cases op <;> simp
      all_goals (split <;> simp_all)
    rcases hr with ⟨h0, h1, h2⟩ | ⟨h0, h1, h2⟩ | ⟨h0, h1, h2⟩
    · obtain ⟨e, he⟩ := hu.1 h0
      have cxs : ∃ p l c, cx = .slice p l c ∧ (a = p.isNone) := by
        cases x <;> simp [refA] at h1
        case sl m k xs =>
          cases hx.sl_inv with
          | nil => simp [isNilA] at ha; exact ⟨none, 0, 0, rfl, ha ▸ rfl⟩
          | empty _ _ q cap hm _ => cases m <;> simp [isNilA] at ha hm <;> exact ⟨_, _, _, rfl, by simp [ha]⟩
          | sl _ _ _ cb co c e fz cap cv q1 hm => cases m <;> simp [isNilA] at ha hm <;> exact ⟨_, _, _, rfl, by simp [ha]⟩
        case own => rcases hx.own_inv with ⟨l, cap, _, _, _, e⟩ | ⟨_, q, e⟩ <;> subst e <;> simp [isNilA] at ha <;> exact ⟨_, _, _, rfl, by simp [ha]⟩
      have cys : ∃ p l c, cy = .slice p l c ∧ (b = p.isNone) := by
        cases y <;> simp [refA] at h2
        case sl m k xs =>
          cases hy.sl_inv with
          | nil => simp [isNilA] at hb; exact ⟨none, 0, 0, rfl, hb ▸ rfl⟩
          | empty _ _ q cap hm _ => cases m <;> simp [isNilA] at hb hm <;> exact ⟨_, _, _, rfl, by simp [hb]⟩
          | sl _ _ _ cb co c e fz cap cv q1 hm => cases m <;> simp [isNilA] at hb hm <;> exact ⟨_, _, _, rfl, by simp [hb]⟩
        case own => rcases hy.own_inv with ⟨l, cap, _, _, _, e⟩ | ⟨_, q, e⟩ <;> subst e <;> simp [isNilA] at hb <;> exact ⟨_, _, _, rfl, by simp [hb]⟩
      obtain ⟨p, l, c, rfl, hp⟩ := cxs
      obtain ⟨p', l', c', rfl, hp'⟩ := cys
      refine ⟨?_, fun op => hg op _ _ trivial, rfl, rfl⟩
      rw [equal_succ, run_eq_slice he _ _ _ _ _ _ _ _ (by cases p <;> cases p' <;> simp_all), hp, hp']
    · obtain ⟨e, he⟩ := hu.2.1 h0
      have cxs : ∃ p, cx = .pointer p ∧ (a = p.isNone) := by
        cases x <;> simp [refA] at h1
        case nilp => simp [isNilA] at ha; exact ⟨none, hx.nilp_inv, by simp [ha]⟩
        case ptr => obtain ⟨l, _, e⟩ := hx.ptr_inv; simp [isNilA] at ha; exact ⟨_, e, by simp [ha]⟩
        case fptr => cases hx.fptr_inv; simp [isNilA] at ha; exact ⟨_, rfl, by simp [ha]⟩
      have cys : ∃ p, cy = .pointer p ∧ (b = p.isNone) := by
        cases y <;> simp [refA] at h2
        case nilp => simp [isNilA] at hb; exact ⟨none, hy.nilp_inv, by simp [hb]⟩
        case ptr => obtain ⟨l, _, e⟩ := hy.ptr_inv; simp [isNilA] at hb; exact ⟨_, e, by simp [hb]⟩
        case fptr => cases hy.fptr_inv; simp [isNilA] at hb; exact ⟨_, rfl, by simp [hb]⟩
      obtain ⟨p, rfl, hp⟩ := cxs
      obtain ⟨p', rfl, hp'⟩ := cys
      refine ⟨?_, fun op => hg op _ _ trivial, rfl, rfl⟩
      rw [equal_succ, run_eq_pointer he _ _ _ _ (by cases p <;> cases p' <;> simp_all), hp, hp']
    · obtain ⟨e1, e2, e3, he⟩ := hu.2.2 h0
      have cxs : (cx = .nilFunc ∧ a = true) ∨ (∃ f p q, cx = .func f p q ∧ a = false) := by
        cases x <;> simp [refA] at h1
        case nilfn => simp [isNilA] at ha; exact .inl ⟨hx.nilfn_inv, ha⟩
        case fn => obtain ⟨p, q, e, _⟩ := hx.fn_inv; simp [isNilA] at ha; exact .inr ⟨_, _, _, e, ha⟩
      have cys : (cy = .nilFunc ∧ b = true) ∨ (∃ f p q, cy = .func f p q ∧ b = false) := by
        cases y <;> simp [refA] at h2
        case nilfn => simp [isNilA] at hb; exact .inl ⟨hy.nilfn_inv, hb⟩
        case fn => obtain ⟨p, q, e, _⟩ := hy.fn_inv; simp [isNilA] at hb; exact .inr ⟨_, _, _, e, hb⟩
      rcases cxs with ⟨rfl, rfl⟩ | ⟨f, p, q, rfl, rfl⟩ <;> rcases cys with ⟨rfl, rfl⟩ | ⟨f', p', q', rfl, rfl⟩
      · exact ⟨by rw [equal_succ, (run_eq_fn he _ _).1]; rfl, fun op => hg op _ _ trivial, rfl, rfl⟩
      · exact ⟨by rw [equal_succ, (run_eq_fn he _ _).2.1]; rfl, fun op => hg op _ _ trivial, rfl, rfl⟩
      · exact ⟨by rw [equal_succ, (run_eq_fn he _ _).2.2]; rfl, fun op => hg op _ _ trivial, rfl, rfl⟩
      · simp at hab
  unfold aNilEq at h
  split at h
  · rename_i hr
    split at h
    · rename_i a ha hb
      obtain ⟨k1, k2, k3, k4⟩ := key a true ha hb (.inr rfl) hr
      cases op <;> simp only at h <;> first
        | (cases h; done)
        | (cases h; exact ⟨.bool a, by simp [binRun, k2, k3, k1], .bool _ _⟩)
        | (cases h; exact ⟨.bool (!a), by simp [binRun, k2, k4, k1], .bool _ _⟩)
    · rename_i a _ ha hb
      obtain ⟨k1, k2, k3, k4⟩ := key true a ha hb (.inl rfl) hr
      cases op <;> simp only at h <;> first
        | (cases h; done)
        | (cases h; exact ⟨.bool a, by simp [binRun, k2, k3, k1], .bool _ _⟩)
        | (cases h; exact ⟨.bool (!a), by simp [binRun, k2, k4, k1], .bool _ _⟩)
    · cases h
  · cases h

theorem aBin_sound {P : Program} {t : TypeId} {op : BinOp} {x y v : AV} {cx cy : Value} {g : Gh} (w : World) (ox oy : Operand) (h : aBin P t op x y = some v)
    (hx : Rep g x cx) (hy : Rep g y cy) : ∃ cv, (binRun op t ox oy cx cy).run P w = .ok cv w ∧ Rep g v cv := by
  unfold aBin at h
  cases x <;> simp only at h
  case int k a =>
    cases y <;> simp only at h <;> first | (cases h; done) | skip
    rw [hx.int_inv, hy.int_inv]; exact aInt_sound g w ox oy h
  case str a =>
    cases y <;> simp only at h <;> first | (cases h; done) | skip
    rw [hx.str_inv, hy.str_inv]; exact aStr_sound g w ox oy h
  case bool a =>
    cases y <;> simp only at h <;> first | (cases h; done) | skip
    rw [hx.bool_inv, hy.bool_inv]; exact aBoolEq_sound g w ox oy h
  case agg a =>
    cases y <;> simp only at h <;> first | (cases h; done) | skip
    exact aAggEq_sound w ox oy h hx hy
  case tup => cases h
  case junk => cases h
  all_goals exact aNilEq_sound w ox oy h hx hy
end Go.Proofs.YtpdohkcjhphibaaDoor.Sm
