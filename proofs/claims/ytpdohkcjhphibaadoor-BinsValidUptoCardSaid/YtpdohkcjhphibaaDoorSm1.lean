/- The relation between concrete states of the model and abstract ones (deep frozen values, a small heap of own blocks); no condition. -/
import Derived.Orders
import Derived.Laws.World
import Derived.Laws.Cells
import Derived.Laws.Append
import Derived.Deep.LoopGhost
set_option linter.unusedVariables false
namespace Go.Proofs.YtpdohkcjhphibaaDoor.Sm
open Go

/-- how a frozen slice lies: nil; not nil with no spare place; whatever. -/
inductive SM where
  | nil | full | any
  deriving DecidableEq

/-- abstract values -/
inductive AV where
  | int (k : IntKind) (n : Int)
  | bool (b : Bool)
  | str (s : ByteArray)
  | sl (m : SM) (k : Nat) (xs : List (List AV))
  | own (b off len : Nat)
  | ptr (b i j : Nat)
  | fptr (k : Nat) (xs : List (List AV)) (i j : Nat)
  | nilp
  | fn (f : Fn) (first caps : List AV)
  | nilfn
  | agg (cs : List AV)
  | tup (vs : List AV)
  | junk

def AV.leaf : AV → Bool
  | .agg _ => false
  | .tup _ => false
  | .junk => false
  | _ => true

inductive ABlk where
  | dead
  | live (k : Nat) (xs : List (List AV))
  | iter (s : ByteArray) (pos : Nat)

structure Loc where
  cb : Nat
  co : Nat
  k : Nat
  sz : Nat

structure Gh where
  M : Nat → Option Obj
  μ : Nat → Option Loc
  os : Os
  tape : Nat → Question → Nat
  output : Array (Nat × ByteArray)

structure Env where
  P : Program
  G : Nat → AV

def rowsOk (k : Nat) (xs : List (List AV)) : Prop := ∀ (i : Nat) (row : List AV), xs[i]? = some row → row.length = k ∧ ∀ (j : Nat) (v : AV), row[j]? = some v → v.leaf = true

inductive RepF (M : Nat → Option Obj) : AV → Value → Prop
  | int (k : IntKind) (n : Int) : RepF M (.int k n) (.int k n)
  | bool (b : Bool) : RepF M (.bool b) (.bool b)
  | str (s : ByteArray) : RepF M (.str s) (.string s)
  | nil (k : Nat) : RepF M (.sl .nil k []) (.slice none 0 0)
  | empty (m : SM) (k : Nat) (a : Addr) (cap : Nat) : m ≠ .nil → (m = .full → cap = 0) → RepF M (.sl m k []) (.slice (some a) 0 cap)
  | sl (m : SM) (k : Nat) (xs : List (List AV)) (cb co : Nat) (c : Array Value) (e : TypeId) (fz : Nat × Nat) (cap : Nat) (cv : Nat → Nat → Value) :
      xs ≠ [] → m ≠ .nil → M cb = some (.cells c e fz) → rowsOk k xs →
      (∀ (i j : Nat), i < xs.length → j < k → c[co + i * k + j]? = some (cv i j)) →
      (∀ (i j : Nat) (row : List AV) (v : AV), xs[i]? = some row → row[j]? = some v → RepF M v (cv i j)) →
      xs.length ≤ cap → (m = .full → cap = xs.length) →
      RepF M (.sl m k xs) (.slice (some ⟨cb, co, none⟩) xs.length cap)
  | fptr (k : Nat) (xs : List (List AV)) (i j cb co : Nat) (c : Array Value) (e : TypeId) (fz : Nat × Nat) (cv : Nat → Nat → Value) :
      M cb = some (.cells c e fz) → rowsOk k xs →
      (∀ (i j : Nat), i < xs.length → j < k → c[co + i * k + j]? = some (cv i j)) →
      (∀ (i j : Nat) (row : List AV) (v : AV), xs[i]? = some row → row[j]? = some v → RepF M v (cv i j)) →
      RepF M (.fptr k xs i j) (.pointer (some ⟨cb, co + i * k + j, none⟩))
  | nilp : RepF M .nilp (.pointer none)
  | fn (f : Fn) (first caps : List AV) (first' caps' : Array Value) : first'.size = first.length → caps'.size = caps.length →
      (∀ (i : Nat) (v : AV) (cv : Value), first[i]? = some v → first'[i]? = some cv → RepF M v cv) → (∀ (i : Nat) (v : AV) (cv : Value), caps[i]? = some v → caps'[i]? = some cv → RepF M v cv) →
      RepF M (.fn f first caps) (.func f first' caps')
  | nilfn : RepF M .nilfn .nilFunc
  | agg (cs : List AV) (vs : Array Value) : vs.size = cs.length → (∀ (i : Nat) (v : AV) (cv : Value), cs[i]? = some v → vs[i]? = some cv → RepF M v cv) → RepF M (.agg cs) (.agg vs)
  | tup (cs : List AV) (vs : Array Value) : vs.size = cs.length → (∀ (i : Nat) (v : AV) (cv : Value), cs[i]? = some v → vs[i]? = some cv → RepF M v cv) → RepF M (.tup cs) (.tuple vs)
  | junk (v : Value) : RepF M .junk v

inductive Rep (g : Gh) : AV → Value → Prop
  | fro {v : AV} {cv : Value} : RepF g.M v cv → Rep g v cv
  | own (b off len cap : Nat) (l : Loc) : g.μ b = some l → len ≤ cap → l.co + (off + cap) * l.k ≤ l.sz →
      Rep g (.own b off len) (.slice (some ⟨l.cb, l.co + off * l.k, none⟩) len cap)
  | ownz (b off : Nat) (a : Addr) (l : Loc) : g.μ b = some l → Rep g (.own b off 0) (.slice (some a) 0 0)
  | ptr (b i j : Nat) (l : Loc) : g.μ b = some l → Rep g (.ptr b i j) (.pointer (some ⟨l.cb, l.co + i * l.k + j, none⟩))
  | fn (f : Fn) (first caps : List AV) (first' caps' : Array Value) : first'.size = first.length → caps'.size = caps.length →
      (∀ (i : Nat) (v : AV) (cv : Value), first[i]? = some v → first'[i]? = some cv → Rep g v cv) → (∀ (i : Nat) (v : AV) (cv : Value), caps[i]? = some v → caps'[i]? = some cv → Rep g v cv) →
      Rep g (.fn f first caps) (.func f first' caps')
  | agg (cs : List AV) (vs : Array Value) : vs.size = cs.length → (∀ (i : Nat) (v : AV) (cv : Value), cs[i]? = some v → vs[i]? = some cv → Rep g v cv) → Rep g (.agg cs) (.agg vs)
  | tup (cs : List AV) (vs : Array Value) : vs.size = cs.length → (∀ (i : Nat) (v : AV) (cv : Value), cs[i]? = some v → vs[i]? = some cv → Rep g v cv) → Rep g (.tup cs) (.tuple vs)

structure Gh.le (g g' : Gh) : Prop where
  M : ∀ k o, g.M k = some o → g'.M k = some o
  μ : ∀ b l, g.μ b = some l → g'.μ b = some l
  os : g'.os = g.os
  tape : g'.tape = g.tape
  output : g'.output = g.output

theorem Gh.le.refl (g : Gh) : g.le g := ⟨fun _ _ h => h, fun _ _ h => h, rfl, rfl, rfl⟩
theorem Gh.le.trans {a b c : Gh} (h : a.le b) (k : b.le c) : a.le c :=
  ⟨fun _ _ x => k.M _ _ (h.M _ _ x), fun _ _ x => k.μ _ _ (h.μ _ _ x), k.os.trans h.os, k.tape.trans h.tape, k.output.trans h.output⟩

theorem RepF.mono {M M' : Nat → Option Obj} (hM : ∀ k o, M k = some o → M' k = some o) {v : AV} {cv : Value} (h : RepF M v cv) : RepF M' v cv := by
  induction h with
  | int k n => exact .int k n
  | bool b => exact .bool b
  | str s => exact .str s
  | nil k => exact .nil k
  | empty m k a cap h1 h2 => exact .empty m k a cap h1 h2
  | sl m k xs cb co c e fz cap cv h1 h2 h3 h4 h5 _ h7 h8 ih => exact .sl m k xs cb co c e fz cap cv h1 h2 (hM _ _ h3) h4 h5 ih h7 h8
  | fptr k xs i j cb co c e fz cv h3 h4 h5 _ ih => exact .fptr k xs i j cb co c e fz cv (hM _ _ h3) h4 h5 ih
  | nilp => exact .nilp
  | fn f first caps first' caps' h1 h2 _ _ ih1 ih2 => exact .fn f first caps first' caps' h1 h2 ih1 ih2
  | nilfn => exact .nilfn
  | agg cs vs h1 _ ih => exact .agg cs vs h1 ih
  | tup cs vs h1 _ ih => exact .tup cs vs h1 ih
  | junk v => exact .junk v

theorem Rep.mono {g g' : Gh} (hg : g.le g') {v : AV} {cv : Value} (h : Rep g v cv) : Rep g' v cv := by
  induction h with
  | fro h => exact .fro (h.mono hg.M)
  | own b off len cap l h1 h2 h3 => exact .own b off len cap l (hg.μ _ _ h1) h2 h3
  | ownz b off a l h1 => exact .ownz b off a l (hg.μ _ _ h1)
  | ptr b i j l h1 => exact .ptr b i j l (hg.μ _ _ h1)
  | fn f first caps first' caps' h1 h2 _ _ ih1 ih2 => exact .fn f first caps first' caps' h1 h2 ih1 ih2
  | agg cs vs h1 _ ih => exact .agg cs vs h1 ih
  | tup cs vs h1 _ ih => exact .tup cs vs h1 ih

theorem Rep.junk (g : Gh) (v : Value) : Rep g .junk v := .fro (.junk v)
theorem Rep.int (g : Gh) (k : IntKind) (n : Int) : Rep g (.int k n) (.int k n) := .fro (.int k n)
theorem Rep.bool (g : Gh) (b : Bool) : Rep g (.bool b) (.bool b) := .fro (.bool b)
theorem Rep.str (g : Gh) (s : ByteArray) : Rep g (.str s) (.string s) := .fro (.str s)

/- reading a value off its relation -/
theorem Rep.int_inv {g : Gh} {k : IntKind} {n : Int} {cv : Value} (h : Rep g (.int k n) cv) : cv = .int k n := by
  cases h with | fro h => cases h; rfl
theorem Rep.bool_inv {g : Gh} {b : Bool} {cv : Value} (h : Rep g (.bool b) cv) : cv = .bool b := by
  cases h with | fro h => cases h; rfl
theorem Rep.str_inv {g : Gh} {s : ByteArray} {cv : Value} (h : Rep g (.str s) cv) : cv = .string s := by
  cases h with | fro h => cases h; rfl
theorem Rep.nilp_inv {g : Gh} {cv : Value} (h : Rep g .nilp cv) : cv = .pointer none := by
  cases h with | fro h => cases h; rfl
theorem Rep.nilfn_inv {g : Gh} {cv : Value} (h : Rep g .nilfn cv) : cv = .nilFunc := by
  cases h with | fro h => cases h; rfl
theorem Rep.agg_inv {g : Gh} {cs : List AV} {cv : Value} (h : Rep g (.agg cs) cv) :
    ∃ vs : Array Value, cv = .agg vs ∧ vs.size = cs.length ∧ ∀ (i : Nat) (v : AV) (cv : Value), cs[i]? = some v → vs[i]? = some cv → Rep g v cv := by
  cases h with
  | fro h => cases h with | agg _ vs h1 h2 => exact ⟨vs, rfl, h1, fun i v cv a b => .fro (h2 i v cv a b)⟩
  | agg _ vs h1 h2 => exact ⟨vs, rfl, h1, h2⟩
theorem Rep.tup_inv {g : Gh} {cs : List AV} {cv : Value} (h : Rep g (.tup cs) cv) :
    ∃ vs : Array Value, cv = .tuple vs ∧ vs.size = cs.length ∧ ∀ (i : Nat) (v : AV) (cv : Value), cs[i]? = some v → vs[i]? = some cv → Rep g v cv := by
  cases h with
  | fro h => cases h with | tup _ vs h1 h2 => exact ⟨vs, rfl, h1, fun i v cv a b => .fro (h2 i v cv a b)⟩
  | tup _ vs h1 h2 => exact ⟨vs, rfl, h1, h2⟩
theorem Rep.fn_inv {g : Gh} {f : Fn} {first caps : List AV} {cv : Value} (h : Rep g (.fn f first caps) cv) :
    ∃ first' caps' : Array Value, cv = .func f first' caps' ∧ first'.size = first.length ∧ caps'.size = caps.length ∧
      (∀ (i : Nat) (v : AV) (cv : Value), first[i]? = some v → first'[i]? = some cv → Rep g v cv) ∧ ∀ (i : Nat) (v : AV) (cv : Value), caps[i]? = some v → caps'[i]? = some cv → Rep g v cv := by
  cases h with
  | fro h => cases h with | fn _ _ _ a b h1 h2 h3 h4 => exact ⟨a, b, rfl, h1, h2, fun i v cv x y => .fro (h3 i v cv x y), fun i v cv x y => .fro (h4 i v cv x y)⟩
  | fn _ _ _ a b h1 h2 h3 h4 => exact ⟨a, b, rfl, h1, h2, h3, h4⟩
theorem Rep.ptr_inv {g : Gh} {b i j : Nat} {cv : Value} (h : Rep g (.ptr b i j) cv) :
    ∃ l, g.μ b = some l ∧ cv = .pointer (some ⟨l.cb, l.co + i * l.k + j, none⟩) := by
  cases h with
  | fro h => cases h
  | ptr _ _ _ l h1 => exact ⟨l, h1, rfl⟩
theorem Rep.own_inv {g : Gh} {b off len : Nat} {cv : Value} (h : Rep g (.own b off len) cv) :
    (∃ l cap, g.μ b = some l ∧ len ≤ cap ∧ l.co + (off + cap) * l.k ≤ l.sz ∧ cv = .slice (some ⟨l.cb, l.co + off * l.k, none⟩) len cap) ∨
    (len = 0 ∧ ∃ a, cv = .slice (some a) 0 0) := by
  cases h with
  | fro h => cases h
  | own _ _ _ cap l h1 h2 h3 => exact .inl ⟨l, cap, h1, h2, h3, rfl⟩
  | ownz _ _ a => exact .inr ⟨rfl, a, rfl⟩
theorem Rep.own_dom {g : Gh} {b off len : Nat} {cv : Value} (h : Rep g (.own b off len) cv) : ∃ l, g.μ b = some l := by
  cases h with
  | fro h => cases h
  | own _ _ _ cap l h1 h2 h3 => exact ⟨l, h1⟩
  | ownz _ _ a l h1 => exact ⟨l, h1⟩
theorem Rep.sl_inv {g : Gh} {m : SM} {k : Nat} {xs : List (List AV)} {cv : Value} (h : Rep g (.sl m k xs) cv) : RepF g.M (.sl m k xs) cv := by
  cases h with | fro h => exact h
theorem Rep.fptr_inv {g : Gh} {k : Nat} {xs : List (List AV)} {i j : Nat} {cv : Value} (h : Rep g (.fptr k xs i j) cv) : RepF g.M (.fptr k xs i j) cv := by
  cases h with | fro h => exact h

theorem Rep.leaf_one {g : Gh} {v : AV} {cv : Value} (h : Rep g v cv) (hl : v.leaf = true) : cv.oneCell' = true ∧ cv.cells = #[cv] := by
  cases h with
  | fro h => cases h <;> first | exact ⟨rfl, rfl⟩ | cases hl
  | own => exact ⟨rfl, rfl⟩
  | ownz => exact ⟨rfl, rfl⟩
  | ptr => exact ⟨rfl, rfl⟩
  | fn => exact ⟨rfl, rfl⟩
  | agg => cases hl
  | tup => cases hl

structure SimH (E : Env) (g : Gh) (h : List ABlk) (w : World) : Prop where
  os : w.os = g.os
  tape : w.tape = g.tape
  output : w.output = g.output
  fro : ∀ k o, g.M k = some o → w.heap[k]? = some o
  live : ∀ b k xs, h[b]? = some (.live k xs) → ∃ l c e, g.μ b = some l ∧ l.k = k ∧ g.M l.cb = none ∧ w.heap[l.cb]? = some (.cells c e (0, 0)) ∧ c.size = l.sz ∧
    l.co + xs.length * k ≤ l.sz ∧ rowsOk k xs ∧ ∀ (i j : Nat) (row : List AV) (v : AV), xs[i]? = some row → row[j]? = some v → ∃ cv, c[l.co + i * k + j]? = some cv ∧ Rep g v cv
  iter : ∀ b s pos, h[b]? = some (.iter s pos) → ∃ l, g.μ b = some l ∧ l.co = 0 ∧ l.k = 0 ∧ g.M l.cb = none ∧ w.heap[l.cb]? = some (.stringIter s pos)
  inj : ∀ b b' x x' l l', h[b]? = some x → x ≠ .dead → h[b']? = some x' → x' ≠ .dead → g.μ b = some l → g.μ b' = some l' → l.cb = l'.cb → b = b'
  fresh : ∀ b, h.length ≤ b → g.μ b = none
  glob : ∀ n, RepF g.M (E.G n) (.pointer (some ⟨n, 0, none⟩))

structure Sim (E : Env) (n : Nat) (g : Gh) (F : Nat → AV) (h : List ABlk) (a : Act) (w : World) : Prop where
  simH : SimH E g h w
  defers : a.defers = []
  size : a.tmps.size = n
  frame : ∀ i, Rep g (F i) (a.tmps.getD i undef)

def upd (F : Nat → AV) (d : Nat) (v : AV) : Nat → AV := fun i => if i = d then v else F i
theorem upd_eq (F : Nat → AV) (d : Nat) (v : AV) : upd F d v d = v := by simp [upd]
theorem upd_ne (F : Nat → AV) (d i : Nat) (v : AV) (h : i ≠ d) : upd F d v i = F i := by simp [upd, h]
def aput (F : Nat → AV) : Option Nat → AV → Nat → AV
  | some d, v => upd F d v
  | none, _ => F
def undefA : AV := .tup []
theorem Rep.undef (g : Gh) : Rep g undefA undef := .fro (.tup [] #[] rfl (by simp))

theorem frame_put {g : Gh} {F : Nat → AV} {a : Act} {n : Nat} {d : Option Tmp} {v : AV} {cv : Value} (hs : a.tmps.size = n) (hd : ∀ x, d = some x → x < n)
    (hf : ∀ i, Rep g (F i) (a.tmps.getD i Go.undef)) (hv : Rep g v cv) : ∀ i, Rep g (aput F d v i) ((a.put d cv).tmps.getD i Go.undef) := by
  intro i
  cases d with
  | none => exact hf i
  | some d =>
    have hlt : d < a.tmps.size := hs ▸ hd d rfl
    simp only [aput, upd, Act.put]
    by_cases hi : i = d
    · subst hi; simpa [hlt] using hv
    · have : d ≠ i := fun e => hi e.symm
      simpa [hi, Array.getElem?_setIfInBounds_ne this] using hf i

theorem Sim.put {E : Env} {n : Nat} {g g' : Gh} {F : Nat → AV} {h h' : List ABlk} {a : Act} {w w' : World} {d : Option Tmp} {v : AV} {cv : Value} (s : Sim E n g F h a w)
    (hd : ∀ x, d = some x → x < n) (hg : g.le g') (hH : SimH E g' h' w') (hv : Rep g' v cv) : Sim E n g' (aput F d v) h' (a.put d cv) w' where
  simH := hH
  defers := by cases d <;> exact s.defers
  size := by cases d <;> simp [Act.put, s.size]
  frame := frame_put s.size hd (fun i => (s.frame i).mono hg) hv
end Go.Proofs.YtpdohkcjhphibaaDoor.Sm
