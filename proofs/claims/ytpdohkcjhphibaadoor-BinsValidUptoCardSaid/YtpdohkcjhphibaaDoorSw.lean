/- Equations for the values that occur most: numbers, slices of data, blocks of the call's own; no condition. -/
import Derived.Test.YtpdohkcjhphibaaDoorSv
set_option linter.unusedVariables false
namespace Go.Proofs.YtpdohkcjhphibaaDoor.Sm
open Go

theorem evp_nil (ρ : Operand → AV) : evp ρ [] = [] := rfl
theorem evp_cons (ρ : Operand → AV) (i : Nat) (x : Operand) (r : List (Nat × Operand)) : evp ρ ((i, x) :: r) = (i, ρ x) :: evp ρ r := rfl
theorem holdsO_of {o : Option (AV × Hp)} {K : AV → Hp → Prop} {v : AV} {h : Hp} (ho : o = some (v, h)) (hk : K v h) : holdsO o K := by rw [ho]; exact hk
theorem none_md (n : Nat) : Hint.none.md n = false := rfl
theorem none_fz (n : Nat) : Hint.none.fz n = [] := rfl
theorem frz_nil (s : Fr × Hp) : frzSlots s [] = s := rfl
theorem frz_cons (s : Fr × Hp) (i : Nat) (r : List Nat) : frzSlots s (i :: r) = frzSlots (frzSlot s i) r := rfl
/-- hints as lists of slots -/
def hint (md : List Nat) (fz : List (Nat × List Nat)) : Hint := ⟨fun n => md.contains n, fun n => match fz.find? (fun x => x.1 == n) with | some x => x.2 | none => []⟩

/- numbers -/
section
variable (P : Program) (t : TypeId) (k : IntKind) (a b : Int)
theorem bin_add : aBin P t .add (.int k a) (.int k b) = some (.int k (k.wrap (a + b))) := by simp [aBin, aInt, aArith]
theorem bin_sub : aBin P t .sub (.int k a) (.int k b) = some (.int k (k.wrap (a - b))) := by simp [aBin, aInt, aArith]
theorem bin_mul : aBin P t .mul (.int k a) (.int k b) = some (.int k (k.wrap (a * b))) := by simp [aBin, aInt, aArith]
theorem bin_quo (h : b ≠ 0) : aBin P t .quo (.int k a) (.int k b) = some (.int k (k.wrap (a.tdiv b))) := by simp [aBin, aInt, aArith, h]
theorem bin_rem (h : b ≠ 0) : aBin P t .rem (.int k a) (.int k b) = some (.int k (a.tmod b)) := by simp [aBin, aInt, aArith, h]
theorem bin_eql : aBin P t .eql (.int k a) (.int k b) = some (.bool (a == b)) := by simp [aBin, aInt, aArith]
theorem bin_neq : aBin P t .neq (.int k a) (.int k b) = some (.bool (a != b)) := by simp [aBin, aInt, aArith]
theorem bin_lss : aBin P t .lss (.int k a) (.int k b) = some (.bool (decide (a < b))) := by simp [aBin, aInt, aArith]
theorem bin_leq : aBin P t .leq (.int k a) (.int k b) = some (.bool (decide (a ≤ b))) := by simp [aBin, aInt, aArith]
theorem bin_gtr : aBin P t .gtr (.int k a) (.int k b) = some (.bool (decide (a > b))) := by simp [aBin, aInt, aArith]
theorem bin_geq : aBin P t .geq (.int k a) (.int k b) = some (.bool (decide (a ≥ b))) := by simp [aBin, aInt, aArith]
theorem bin_and : aBin P t .and (.int k a) (.int k b) = some (.int k (k.wrap (BitVec.ofInt k.bits a &&& BitVec.ofInt k.bits b).toNat)) := by simp [aBin, aInt, aArith]
theorem bin_or : aBin P t .or (.int k a) (.int k b) = some (.int k (k.wrap (BitVec.ofInt k.bits a ||| BitVec.ofInt k.bits b).toNat)) := by simp [aBin, aInt, aArith]
theorem bin_xor : aBin P t .xor (.int k a) (.int k b) = some (.int k (k.wrap (BitVec.ofInt k.bits a ^^^ BitVec.ofInt k.bits b).toNat)) := by simp [aBin, aInt, aArith]
theorem bin_shl (k' : IntKind) (h : ¬ b < 0) : aBin P t .shl (.int k a) (.int k' b) = some (.int k (k.wrap (a * 2 ^ (min b.toNat k.bits)))) := by simp [aBin, aInt, h]
theorem bin_shr (k' : IntKind) (h : ¬ b < 0) : aBin P t .shr (.int k a) (.int k' b) = some (.int k (a.fdiv (2 ^ (min b.toNat k.bits)))) := by simp [aBin, aInt, h]
theorem bin_seql (s u : ByteArray) : aBin P t .eql (.str s) (.str u) = some (.bool (s.toList == u.toList)) := rfl
theorem bin_sneq (s u : ByteArray) : aBin P t .neq (.str s) (.str u) = some (.bool (!(s.toList == u.toList))) := rfl
theorem bin_beql (p q : Bool) (hu : P.underlying t = some .bool) : aBin P t .eql (.bool p) (.bool q) = some (.bool (p == q)) := by simp [aBin, aBoolEq, hu]
theorem bin_bneq (p q : Bool) (hu : P.underlying t = some .bool) : aBin P t .neq (.bool p) (.bool q) = some (.bool (!(p == q))) := by simp [aBin, aBoolEq, hu]
theorem un_not (p : Bool) : aUn .not (.bool p) = some (.bool (!p)) := rfl
theorem un_neg : aUn .neg (.int k a) = some (.int k (k.wrap (0 - a))) := rfl
theorem max_ii : aFold aMax2 (.int k a) [.int k b] = some (.int k (max a b)) := by simp [aFold, aMax2]
theorem min_ii : aFold aMin2 (.int k a) [.int k b] = some (.int k (min a b)) := by simp [aFold, aMin2]
theorem conv_int {s d : TypeId} {k' : IntKind} {ds : TypeDesc} (h1 : P.underlying s = some ds) (h2 : P.underlying d = some (.int k')) : aConv P s d (.int k a) = some (.int k' (k'.wrap a)) := by simp [aConv, h1, h2]
end
theorem wrap_i64 {n : Int} (h0 : -9223372036854775808 ≤ n) (h1 : n ≤ 9223372036854775807) : IntKind.i64.wrap n = n := by
  unfold IntKind.wrap IntKind.bits IntKind.signed
  simp
  omega

/- slices -/
section
variable {α : Type} {P : Program}
theorem len_of {t e : TypeId} (hu : P.underlying t = some (.slice e)) : (∀ m k xs, aLen P t (.sl m k xs) = some (.int .i64 xs.length)) ∧ ∀ b off len, aLen P t (.own b off len) = some (.int .i64 len) := by
  constructor <;> intros <;> simp [aLen, hu]
theorem len_str {t : TypeId} (hu : P.underlying t = some .string) (s : ByteArray) : aLen P t (.str s) = some (.int .i64 s.size) := by simp [aLen, hu]
theorem ix_map {k : Nat} {h : Hp} {m : SM} {f : α → List AV} {xs : List α} {kk : IntKind} {n : Nat} (hn : n < xs.length) : ixSl k h (.sl m k (xs.map f)) (.int kk (n : Int)) = some (.fptr k (xs.map f) n 0) := by
  simp [ixSl, hn]
theorem ix_sl {k : Nat} {h : Hp} {m : SM} {xs : List (List AV)} {kk : IntKind} {i : Int} (h0 : 0 ≤ i) (h1 : i < (xs.length : Int)) : ixSl k h (.sl m k xs) (.int kk i) = some (.fptr k xs i.toNat 0) := by
  simp [ixSl, h0, h1]
theorem ix_own {k : Nat} {h : Hp} {b off len : Nat} {kk : IntKind} {n : Nat} {xs : List (List AV)} (hb : h[b]? = some (.live k xs)) (hn : n < len) : ixSl k h (.own b off len) (.int kk (n : Int)) = some (.ptr b (off + n) 0) := by
  simp [ixSl, hb, hn]
theorem ix_ownI {k : Nat} {h : Hp} {b off len : Nat} {kk : IntKind} {i : Int} {xs : List (List AV)} (hb : h[b]? = some (.live k xs)) (h0 : 0 ≤ i) (h1 : i < (len : Int)) : ixSl k h (.own b off len) (.int kk i) = some (.ptr b (off + i.toNat) 0) := by
  simp [ixSl, hb, h0, h1]
/-- one cell of an element -/
theorem load_map {h : Hp} {t : TypeId} {k n j : Nat} {f : α → List AV} {xs : List α} (hag : aggO P t = some false) (hn : n < xs.length) : aLoad P h t (.fptr k (xs.map f) n j) = (f xs[n])[j]? := by
  simp [aLoad, rowAt, hn, hag]
/-- a whole element -/
theorem load_mapA {h : Hp} {t : TypeId} {k n s : Nat} {f : α → List AV} {xs : List α} (hag : aggO P t = some true) (hs : szO P t = some s) (hl : ∀ x, (f x).length = s) (hn : n < xs.length) :
    aLoad P h t (.fptr k (xs.map f) n 0) = some (.agg (f xs[n])) := by
  have := hl xs[n]
  simp [aLoad, rowAt, hn, hag, hs, this]
  rw [List.take_of_length_le (by omega)]
theorem load_row {h : Hp} {t : TypeId} {b i j k : Nat} {xs : List (List AV)} {row : List AV} (hag : aggO P t = some false) (hb : h[b]? = some (.live k xs)) (hr : xs[i]? = some row) : aLoad P h t (.ptr b i j) = row[j]? := by
  simp [aLoad, rowAt, hb, hr, hag]
theorem load_rowA {h : Hp} {t : TypeId} {b i j k s : Nat} {xs : List (List AV)} {row : List AV} (hag : aggO P t = some true) (hs : szO P t = some s) (hb : h[b]? = some (.live k xs)) (hr : xs[i]? = some row) (hl : j + s ≤ row.length) :
    aLoad P h t (.ptr b i j) = some (.agg ((row.drop j).take s)) := by
  simp [aLoad, rowAt, hb, hr, hag, hs, hl]
end

/- blocks on top of the heap -/
theorem top_get (h : Hp) (x : ABlk) : (h ++ [x])[h.length]? = some x := by simp
theorem top_set (h : Hp) (x y : ABlk) : (h ++ [x]).set h.length y = h ++ [y] := by simp
theorem below_get {h : Hp} {x y : ABlk} {b : Nat} (hb : h[b]? = some y) : (h ++ [x])[b]? = some y := by
  rw [List.getElem?_append_left (lt_of_getElem? hb)]; exact hb
/-- a row of a variable, read -/
theorem load_top {P : Program} {h : Hp} {t : TypeId} {k j : Nat} {row : List AV} (hag : aggO P t = some false) : aLoad P (h ++ [.live k [row]]) t (.ptr h.length 0 j) = row[j]? := by
  simp [aLoad, rowAt, hag]
theorem load_topA {P : Program} {h : Hp} {t : TypeId} {k s j : Nat} {row : List AV} (hag : aggO P t = some true) (hs : szO P t = some s) (hl : j + s ≤ row.length) : aLoad P (h ++ [.live k [row]]) t (.ptr h.length 0 j) = some (.agg ((row.drop j).take s)) := by
  simp [aLoad, rowAt, hag, hs, hl]
theorem store_top {P : Program} {h : Hp} {t : TypeId} {k j : Nat} {row cs : List AV} {v : AV} (hc : acells v = some cs) (hs : szO P t = some cs.length) (hl : j + cs.length ≤ row.length) :
    aStore P (h ++ [.live k [row]]) t (.ptr h.length 0 j) v = some (h ++ [.live k [splice row j cs]]) := by
  simp [aStore, hc, hs, hl]
theorem box_of {h : Hp} {v : AV} {cs : List AV} (hc : acells v = some cs) : aBox h v = some (.ptr h.length 0 0, h ++ [.live cs.length [cs]]) := by simp [aBox, hc]
theorem ac_agg {cs : List AV} (hl : cs.all AV.leaf = true) : acells (.agg cs) = some cs := by simp only [acells, hl, if_true]
theorem ac_int (k : IntKind) (n : Int) : acells (.int k n) = some [.int k n] := rfl
theorem ac_bool (b : Bool) : acells (.bool b) = some [.bool b] := rfl
theorem ac_str (s : ByteArray) : acells (.str s) = some [.str s] := rfl
theorem ac_sl (m : SM) (k : Nat) (xs : List (List AV)) : acells (.sl m k xs) = some [.sl m k xs] := rfl
theorem ac_own (a b c : Nat) : acells (.own a b c) = some [.own a b c] := rfl
theorem ac_ptr (a b c : Nat) : acells (.ptr a b c) = some [.ptr a b c] := rfl
theorem ac_fn (f : Fn) (a b : List AV) : acells (.fn f a b) = some [.fn f a b] := rfl
theorem toL {α : Type} (l : List α) : l.toArray.toList = l := rfl
theorem wrap_nat {n : Nat} (h : n ≤ 9223372036854775807) : IntKind.i64.wrap (n : Int) = (n : Int) := wrap_i64 (by omega) (by omega)
theorem wrap_succ {n : Nat} (h : n < 9223372036854775807) : IntKind.i64.wrap ((n : Int) + 1) = ((n + 1 : Nat) : Int) := by rw [wrap_i64 (by omega) (by omega)]; omega
theorem hint_md (l : List Nat) (f : List (Nat × List Nat)) (n : Nat) : (hint l f).md n = l.contains n := rfl
theorem alloc_of {P : Program} {h : Hp} {t : TypeId} {row : List AV} (hz : zeroRow P t = some row) : aAlloc P h t = some (.ptr h.length 0 0, h ++ [.live row.length [row]]) := by
  unfold zeroRow at hz
  unfold aAlloc aBox
  split at hz
  · rename_i z hz2; simp only [hz2, hz]
  · cases hz
theorem box_int (h : Hp) (k : IntKind) (n : Int) : aBox h (.int k n) = some (.ptr h.length 0 0, h ++ [.live 1 [[.int k n]]]) := rfl
theorem box_bool (h : Hp) (b : Bool) : aBox h (.bool b) = some (.ptr h.length 0 0, h ++ [.live 1 [[.bool b]]]) := rfl
theorem box_str (h : Hp) (b : ByteArray) : aBox h (.str b) = some (.ptr h.length 0 0, h ++ [.live 1 [[.str b]]]) := rfl
theorem box_sl (h : Hp) (m : SM) (k : Nat) (xs : List (List AV)) : aBox h (.sl m k xs) = some (.ptr h.length 0 0, h ++ [.live 1 [[.sl m k xs]]]) := rfl
theorem box_agg {h : Hp} {cs : List AV} (hl : cs.all AV.leaf = true) : aBox h (.agg cs) = some (.ptr h.length 0 0, h ++ [.live cs.length [cs]]) := box_of (ac_agg hl)
/-- reading below the top -/
theorem load_app {P : Program} {h x : Hp} {t : TypeId} {b i j : Nat} {v : AV} (hv : aLoad P h t (.ptr b i j) = some v) : aLoad P (h ++ x) t (.ptr b i j) = some v := by
  have hb : b < h.length := by
    rcases Nat.lt_or_ge b h.length with hb | hb
    · exact hb
    · have : h[b]? = none := List.getElem?_eq_none hb
      simp [aLoad, rowAt, this] at hv
  have : (h ++ x)[b]? = h[b]? := List.getElem?_append_left hb
  unfold aLoad at hv ⊢
  simp only [rowAt, this] at hv ⊢
  exact hv
/-- reading the block on top -/
theorem load_last {P : Program} {h : Hp} {t : TypeId} {k j : Nat} {row : List AV} (hag : aggO P t = some false) : aLoad P (h ++ [.live k [row]]) t (.ptr h.length 0 j) = row[j]? := by
  simp [aLoad, rowAt, hag]
/-- arguments that no caller can give -/
theorem ACalls.of_rep {E : Env} {f : FuncId} {args : List AV} {h : Hp} {R : AV → Hp → Prop} (hok : CallOk E.P f) (hh : (∃ (g : Gh) (cargs : Array Value), RepL g args cargs) → ACalls E f args h R) : ACalls E f args h R :=
  ⟨hok, fun g w cargs S ha => (hh ⟨g, cargs, ha⟩).2 g w cargs S ha⟩
theorem nil_of_rep {g : Gh} {args : List AV} {cargs : Array Value} {i k : Nat} {xs : List (List AV)} (ha : RepL g args cargs) (hi : args[i]? = some (.sl .nil k xs)) : xs = [] := by
  have hlt : i < cargs.size := by rw [ha.1]; exact lt_of_getElem? hi
  have := (ha.2 i _ cargs[i] hi (by simp [hlt])).sl_inv
  generalize cargs[i] = cv at this
  cases this with
  | nil => rfl
  | empty => rfl
  | sl _ _ _ _ _ _ _ _ _ _ _ h => exact absurd rfl h
theorem load_fix {P : Program} {h : Hp} {t : TypeId} {k i j : Nat} {xs : List (List AV)} {row : List AV} {v : AV} (hag : aggO P t = some false) (hr : xs[i]? = some row) (hv : row[j]? = some v) : aLoad P h t (.fptr k xs i j) = some v := by
  simp [aLoad, rowAt, hag, hr, hv]
theorem store_row {P : Program} {h : Hp} {t : TypeId} {b i j k : Nat} {xs : List (List AV)} {row cs : List AV} {v : AV} (hc : acells v = some cs) (hs : szO P t = some cs.length) (hb : h[b]? = some (.live k xs)) (hr : xs[i]? = some row) (hl : j + cs.length ≤ row.length) :
    aStore P h t (.ptr b i j) v = some (h.set b (.live k (xs.set i (splice row j cs)))) := by
  simp [aStore, hc, hs, hb, hr, hl]
/-- what has only grown above h -/
def ext (h H : Hp) : Prop := ∃ x, H = h ++ x
theorem ext.rfl' (h : Hp) : ext h h := ⟨[], by simp⟩
theorem ext.app {h H : Hp} (he : ext h H) (x : Hp) : ext h (H ++ x) := by obtain ⟨y, rfl⟩ := he; exact ⟨y ++ x, by rw [List.append_assoc]⟩
theorem ext.set {h H : Hp} (he : ext h H) {b : Nat} (hb : h.length ≤ b) (y : ABlk) : ext h (H.set b y) := by
  obtain ⟨x, rfl⟩ := he
  exact ⟨x.set (b - h.length) y, by rw [List.set_append_right _ _ hb]⟩
theorem ext.trans {a b c : Hp} (h1 : ext a b) (h2 : ext b c) : ext a c := by obtain ⟨x, rfl⟩ := h1; exact h2.casesOn fun y e => ⟨x ++ y, by rw [e, List.append_assoc]⟩
theorem ext.le {h H : Hp} (he : ext h H) : h.length ≤ H.length := by obtain ⟨x, rfl⟩ := he; simp
theorem get_set_ne {h : Hp} {b o : Nat} {x : Option ABlk} {y : ABlk} (ho : h[o]? = x) (hne : o ≠ b) : (h.set b y)[o]? = x := by rw [List.getElem?_set, if_neg (fun e => hne e.symm)]; exact ho
theorem get_set_eq {h : Hp} {b : Nat} {x y : ABlk} (hb : h[b]? = some x) : (h.set b y)[b]? = some y := by
  have := lt_of_getElem? hb
  rw [List.getElem?_set, if_pos rfl, if_pos this]
/- parts of slices -/
def cutM (m : SM) (u n : Nat) : SM := match m with | .nil => .nil | .full => if u = n then .full else .any | .any => .any
section
variable {P : Program} {t e : TypeId} {k : Nat} (hu : P.underlying t = some (.slice e)) (hs : szO P e = some k)
include hu hs
theorem sl_from {h : Hp} {m : SM} {kk : IntKind} {xs : List (List AV)} {l : Nat} (hl : l ≤ xs.length) : aSlice P h t (.sl m k xs) (some (.int kk (l : Int))) none none = some (.sl m k (xs.drop l)) := by
  have h1 : boundA (some (.int kk (l : Int))) (some 0) = some l := by simp [boundA]
  have h2 : boundA none (some xs.length) = some xs.length := rfl
  simp only [aSlice, hu, h1, h2, hs, true_and]
  rw [if_pos ⟨hl, Nat.le_refl _⟩, List.take_of_length_le (by simp)]
  cases m <;> simp
theorem sl_to {h : Hp} {m : SM} {kk : IntKind} {xs : List (List AV)} {u : Nat} (hl : u ≤ xs.length) : aSlice P h t (.sl m k xs) none (some (.int kk (u : Int))) none = some (.sl (cutM m u xs.length) k (xs.take u)) := by
  have h1 : boundA (some (.int kk (u : Int))) (some xs.length) = some u := by simp [boundA]
  have h2 : boundA none (some 0) = some 0 := rfl
  simp only [aSlice, hu, h1, h2, hs, true_and]
  rw [if_pos ⟨Nat.zero_le _, hl⟩]
  cases m <;> simp [cutM]
theorem own_to {h : Hp} {kk : IntKind} {b off len u : Nat} {xs : List (List AV)} (hb : h[b]? = some (.live k xs)) (hl : u ≤ len) : aSlice P h t (.own b off len) none (some (.int kk (u : Int))) none = some (.own b off u) := by
  have h1 : boundA (some (.int kk (u : Int))) (some len) = some u := by simp [boundA]
  have h2 : boundA none (some 0) = some 0 := rfl
  simp only [aSlice, hu, h1, h2, hs, hb, true_and]
  rw [if_pos ⟨Nat.zero_le _, hl⟩]
  simp
theorem own_from {h : Hp} {kk : IntKind} {b off len l : Nat} {xs : List (List AV)} (hb : h[b]? = some (.live k xs)) (hl : l ≤ len) : aSlice P h t (.own b off len) (some (.int kk (l : Int))) none none = some (.own b (off + l) (len - l)) := by
  have h1 : boundA (some (.int kk (l : Int))) (some 0) = some l := by simp [boundA]
  have h2 : boundA none (some len) = some len := rfl
  simp only [aSlice, hu, h1, h2, hs, hb, true_and]
  rw [if_pos ⟨hl, Nat.le_refl _⟩]
end
/- appending -/
section
variable {P : Program} {t e : TypeId} {k b : Nat} (hu : P.underlying t = some (.slice e)) (hs : szO P e = some k) (hz : zszO P e = some k) (hb : bytesO P e = some b)
include hu hs hz hb
theorem app_full {h : Hp} {xs ys : List (List AV)} {x : AV} (hy : conts h x = some (k, ys)) (hne : ys ≠ []) (hr : room (xs.length + ys.length) b) :
    aAppend P true h t t (.sl .full k xs) x = some (.own h.length 0 (xs.length + ys.length), h ++ [.live k (xs ++ ys)]) := by
  have hl : ¬ ys.length = 0 := by simpa using hne
  simp [aAppend, hu, hs, srcA, hy, bump, hz, hb, hr, hl]
theorem app_nil {h : Hp} {k' : Nat} {xs ys : List (List AV)} {x : AV} (hy : conts h x = some (k, ys)) (hne : ys ≠ []) (hr : room ys.length b) :
    aAppend P true h t t (.sl .nil k' xs) x = some (.own h.length 0 ys.length, h ++ [.live k ys]) := by
  have hl : ¬ ys.length = 0 := by simpa using hne
  simp [aAppend, hu, hs, srcA, hy, bump, hz, hb, hr, hl]
theorem app_own {h : Hp} {o off len : Nat} {xs ys : List (List AV)} {x : AV} (hc : conts h (.own o off len) = some (k, xs)) (hy : conts h x = some (k, ys)) (hne : ys ≠ []) (hr : room (xs.length + ys.length) b) :
    aAppend P true h t t (.own o off len) x = some (.own h.length 0 (xs.length + ys.length), h.set o .dead ++ [.live k (xs ++ ys)]) := by
  have hl : ¬ ys.length = 0 := by simpa using hne
  simp [aAppend, hu, hs, srcA, hy, bump, hz, hb, hr, hl, hc]
theorem app_frozen {h : Hp} {xs ys : List (List AV)} {x : AV} (hy : conts h x = some (k, ys)) (hne : ys ≠ []) (hr : room (xs.length + ys.length) b) :
    aAppend P false h t t (.sl .full k xs) x = some (.sl .any k (xs ++ ys), h) := by
  have hl : ¬ ys.length = 0 := by simpa using hne
  simp [aAppend, hu, hs, srcA, hy, bump, hz, hb, hr, hl]
omit hz hb in
theorem app_none {h : Hp} {own : Bool} {m m' : SM} {k' : Nat} {xs : List (List AV)} (hm : m = .nil ∨ m = .full) : aAppend P own h t t (.sl m k xs) (.sl m' k' []) = some (.sl m k xs, h) := by
  rcases hm with rfl | rfl <;> simp [aAppend, hu, hs, srcA, conts, bump]
end
theorem conts_sl (h : Hp) (m : SM) (k : Nat) (xs : List (List AV)) : conts h (.sl m k xs) = some (k, xs) := rfl
theorem conts_own {h : Hp} {o k off len : Nat} {xs : List (List AV)} (hb : h[o]? = some (.live k xs)) (hl : off + len ≤ xs.length) : conts h (.own o off len) = some (k, (xs.drop off).take len) := by simp [conts, hb, hl]
theorem conts_top {h : Hp} {k : Nat} {xs : List (List AV)} : conts (h ++ [.live k xs]) (.own h.length 0 xs.length) = some (k, xs) := by simp [conts]
theorem frozenArgs_of {P : Program} {t e : TypeId} {k : Nat} {h : Hp} {xs ys : List (List AV)} {s x : AV} (hu : P.underlying t = some (.slice e)) (hs : szO P e = some k) (hx : conts h s = some (k, xs)) (hy : conts h x = some (k, ys))
    (hf : (xs ++ ys).all (·.all AV.frozen) = true) : frozenArgs P h t t s x = true := by
  unfold frozenArgs
  simp only [hu, hs, srcA, hy, hx, or_true, if_true]
  exact hf
/-- a field lies there -/
def faOk (P : Program) (t : TypeId) (f off : Nat) : Bool := match P.underlying t with
  | some (.struct fields) => match fields[f]? with
    | some fl => fl.offset == off && (match szO P fl.type with
      | some n => Nat.ble 1 n
      | none => false)
    | none => false
  | _ => false
theorem fa_of {P : Program} {t : TypeId} {f off : Nat} (h : faOk P t f off = true) :
    (∀ b i j, aFieldAddr P t (.ptr b i j) f = some (.ptr b i (j + off))) ∧ (∀ k xs i j, aFieldAddr P t (.fptr k xs i j) f = some (.fptr k xs i (j + off))) := by
  unfold faOk at h
  split at h
  case h_2 => cases h
  rename_i fields hu
  split at h
  case h_2 => cases h
  rename_i fl hf
  simp only [Bool.and_eq_true, beq_iff_eq] at h
  obtain ⟨h1, h2⟩ := h
  split at h2
  case h_2 => cases h2
  rename_i n hs
  have h3 : 1 ≤ n := Nat.le_of_ble_eq_true h2
  obtain ⟨m, rfl⟩ : ∃ m, n = m + 1 := ⟨n - 1, by omega⟩
  exact fieldAddr_of hu hf hs off h1
end Go.Proofs.YtpdohkcjhphibaaDoor.Sm
