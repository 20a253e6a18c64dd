/- The proposition to be shown of code, written out step by step: the equations by which it is rewritten; no condition. -/
import Derived.Test.YtpdohkcjhphibaaDoorSm13
set_option linter.unusedVariables false
set_option linter.unusedSimpArgs false
namespace Go.Proofs.YtpdohkcjhphibaaDoor.Sm
open Go

def seqQ (E : Env) (H : Hint) (b : Code) (Q : AEx → Fr → Hp → Prop) : AEx → Fr → Hp → Prop := thenA (fun F h => awp E H b F h Q) Q
theorem seqQ_n (E : Env) (H : Hint) (b : Code) (Q : AEx → Fr → Hp → Prop) (F : Fr) (h : Hp) : seqQ E H b Q .normal F h = awp E H b F h Q := rfl
theorem seqQ_e (E : Env) (H : Hint) (b : Code) (Q : AEx → Fr → Hp → Prop) (F : Fr) (h : Hp) (i : Nat) : seqQ E H b Q (.exit i) F h = Q (.exit i) F h := rfl
theorem seqQ_r (E : Env) (H : Hint) (b : Code) (Q : AEx → Fr → Hp → Prop) (F : Fr) (h : Hp) : seqQ E H b Q .ret F h = Q .ret F h := rfl
theorem blk_n (id : Nat) (Q : AEx → Fr → Hp → Prop) (F : Fr) (h : Hp) : inBlockA id Q .normal F h = Q .normal F h := rfl
theorem blk_r (id : Nat) (Q : AEx → Fr → Hp → Prop) (F : Fr) (h : Hp) : inBlockA id Q .ret F h = Q .ret F h := rfl
theorem blk_e (id i : Nat) (Q : AEx → Fr → Hp → Prop) (F : Fr) (h : Hp) : inBlockA id Q (.exit i) F h = if i = id then Q .normal F h else Q (.exit i) F h := rfl
/-- the end of a loop's round -/
def rndQ (I : Nat → Fr → Hp → Prop) (n : Nat) (Q : AEx → Fr → Hp → Prop) : AEx → Fr → Hp → Prop := thenA (fun F' h' => ∃ m, m < n ∧ I m F' h') Q
theorem rnd_n (I : Nat → Fr → Hp → Prop) (n : Nat) (Q : AEx → Fr → Hp → Prop) (F : Fr) (h : Hp) : rndQ I n Q .normal F h = ∃ m, m < n ∧ I m F h := rfl
theorem rnd_e (I : Nat → Fr → Hp → Prop) (n : Nat) (Q : AEx → Fr → Hp → Prop) (F : Fr) (h : Hp) (i : Nat) : rndQ I n Q (.exit i) F h = Q (.exit i) F h := rfl
theorem rnd_r (I : Nat → Fr → Hp → Prop) (n : Nat) (Q : AEx → Fr → Hp → Prop) (F : Fr) (h : Hp) : rndQ I n Q .ret F h = Q .ret F h := rfl
/-- the end of a function -/
def endQ (P : Program) (rs : List ResultVar) (R : AV → Hp → Prop) : AEx → Fr → Hp → Prop := fun e F h' => (match e with | .exit _ => False | _ => True) ∧ ∃ r, ares P h' F rs = some r ∧ R r h'
theorem end_r (P : Program) (t : Nat) (R : AV → Hp → Prop) (F : Fr) (h : Hp) : endQ P [.tmp t] R .ret F h = R (F t) h := by simp [endQ, ares, ares1]
theorem end_n (P : Program) (t : Nat) (R : AV → Hp → Prop) (F : Fr) (h : Hp) : endQ P [.tmp t] R .normal F h = R (F t) h := by simp [endQ, ares, ares1]
theorem end_r0 (P : Program) (R : AV → Hp → Prop) (F : Fr) (h : Hp) : endQ P [] R .ret F h = R (.tup []) h := by simp [endQ, ares, aresL]
theorem end_n0 (P : Program) (R : AV → Hp → Prop) (F : Fr) (h : Hp) : endQ P [] R .normal F h = R (.tup []) h := by simp [endQ, ares, aresL]
theorem end_r2 (P : Program) (t u : Nat) (R : AV → Hp → Prop) (F : Fr) (h : Hp) : endQ P [.tmp t, .tmp u] R .ret F h = R (.tup [F t, F u]) h := by simp [endQ, ares, aresL, ares1]
theorem end_r3 (P : Program) (t u v : Nat) (R : AV → Hp → Prop) (F : Fr) (h : Hp) : endQ P [.tmp t, .tmp u, .tmp v] R .ret F h = R (.tup [F t, F u, F v]) h := by simp [endQ, ares, aresL, ares1]
theorem end_r4 (P : Program) (t u v x : Nat) (R : AV → Hp → Prop) (F : Fr) (h : Hp) : endQ P [.tmp t, .tmp u, .tmp v, .tmp x] R .ret F h = R (.tup [F t, F u, F v, F x]) h := by simp [endQ, ares, aresL, ares1]
theorem end_rc (P : Program) (a t : Nat) (R : AV → Hp → Prop) (F : Fr) (h : Hp) (b i j : Nat) (hF : F a = .ptr b i j) : endQ P [.cell a t] R .ret F h = ∃ r, aLoad P h t (.ptr b i j) = some r ∧ R r h := by simp [endQ, ares, ares1, hF]

def condA (E : Env) (H : Hint) (x y : Code) (F : Fr) (h : Hp) (Q : AEx → Fr → Hp → Prop) (v : AV) : Prop := match v with
  | .bool t => (t = true → awp E H x F h Q) ∧ (t = false → awp E H y F h Q)
  | _ => False
theorem cond_t (E : Env) (H : Hint) (x y : Code) (F : Fr) (h : Hp) (Q : AEx → Fr → Hp → Prop) : condA E H x y F h Q (.bool true) = awp E H x F h Q := by simp [condA]
theorem cond_f (E : Env) (H : Hint) (x y : Code) (F : Fr) (h : Hp) (Q : AEx → Fr → Hp → Prop) : condA E H x y F h Q (.bool false) = awp E H y F h Q := by simp [condA]
theorem cond_of {E : Env} {H : Hint} {x y : Code} {F : Fr} {h : Hp} {Q : AEx → Fr → Hp → Prop} {b : Bool} (h1 : b = true → awp E H x F h Q) (h2 : b = false → awp E H y F h Q) : condA E H x y F h Q (.bool b) := ⟨h1, h2⟩

theorem awp_skip (E : Env) (H : Hint) (F : Fr) (h : Hp) (Q : AEx → Fr → Hp → Prop) : awp E H .skip F h Q = Q .normal F h := rfl
theorem awp_ret (E : Env) (H : Hint) (F : Fr) (h : Hp) (Q : AEx → Fr → Hp → Prop) : awp E H .ret F h Q = Q .ret F h := rfl
theorem awp_exit (E : Env) (H : Hint) (i : Nat) (F : Fr) (h : Hp) (Q : AEx → Fr → Hp → Prop) : awp E H (.exit i) F h Q = Q (.exit i) F h := rfl
theorem awp_seq (E : Env) (H : Hint) (a b : Code) (F : Fr) (h : Hp) (Q : AEx → Fr → Hp → Prop) : awp E H (.seq a b) F h Q = awp E H a F h (seqQ E H b Q) := rfl
theorem awp_block (E : Env) (H : Hint) (id : Nat) (b : Code) (F : Fr) (h : Hp) (Q : AEx → Fr → Hp → Prop) : awp E H (.block id b) F h Q = awp E H b F h (inBlockA id Q) := rfl
theorem awp_cond (E : Env) (H : Hint) (c : Operand) (x y : Code) (F : Fr) (h : Hp) (Q : AEx → Fr → Hp → Prop) : awp E H (.cond c x y) F h Q = condA E H x y F h Q (ev E F c) := rfl
theorem awp_loop {E : Env} {H : Hint} {b : Code} {F : Fr} {h : Hp} {Q : AEx → Fr → Hp → Prop} (I : Nat → Fr → Hp → Prop) (n : Nat) (h0 : I n F h) (hr : ∀ n F h, I n F h → awp E H b F h (rndQ I n Q)) : awp E H (.loop b) F h Q := ⟨I, ⟨n, h0⟩, hr⟩

/- lists of operations -/
def gdstO : List Oper → Nat → Option Tmp
  | [], _ => none
  | o :: _, 0 => o.dst
  | _ :: r, j + 1 => gdstO r j
theorem gdstO_eq : ∀ (l : List Oper) (j : Nat), gdst (l.map (·.dst)) j = gdstO l j
  | [], j => by simp [gdst, gdstO]
  | o :: l, 0 => by simp [gdst, gdstO]
  | o :: l, j + 1 => by simp [gdst, gdstO, gdstO_eq l j]
def WW (E : Env) (H : Hint) (ops : List Oper) (l : List Oper) (F : Fr) (h : Hp) (K : Fr → Hp → Prop) : Prop := W E H (ops.map (·.dst)) l F h K
def wcont (E : Env) (H : Hint) (ops : List Oper) (d : Option Tmp) (r : List Oper) (F : Fr) (K : Fr → Hp → Prop) : AV → Hp → Prop := fun v h' => WW E H ops r (aput F d v) h' K
theorem wcont_s (E : Env) (H : Hint) (ops : List Oper) (d : Tmp) (r : List Oper) (F : Fr) (K : Fr → Hp → Prop) (v : AV) (h : Hp) : wcont E H ops (some d) r F K v h = WW E H ops r (upd F d v) h K := rfl
theorem wcont_n (E : Env) (H : Hint) (ops : List Oper) (r : List Oper) (F : Fr) (K : Fr → Hp → Prop) (v : AV) (h : Hp) : wcont E H ops none r F K v h = WW E H ops r F h K := rfl
/-- one operation -/
def X1 (E : Env) (own : Bool) (op : Op) (s : Fr × Hp) (c : Fr → AV → Hp → Prop) : Prop := aexec E own op s.1 s.2 (c s.1)
def wc (E : Env) (H : Hint) (ops : List Oper) (d : Option Tmp) (r : List Oper) (K : Fr → Hp → Prop) : Fr → AV → Hp → Prop := fun F => wcont E H ops d r F K
/-- a guarded operation -/
def G1 (E : Env) (H : Hint) (ops : List Oper) (d : Option Tmp) (op : Op) (r : List Oper) (F : Fr) (h : Hp) (K : Fr → Hp → Prop) (want : Bool) (v : AV) : Prop :=
  match v with
  | .bool b => ((b == want) = true → X1 E (ownOp op (H.md (d.getD 0))) op (frzSlots (F, h) (H.fz (d.getD 0))) (wc E H ops d r K)) ∧ ((b == want) = false → WW E H ops r (aput F d undefA) h K)
  | .tup [] => WW E H ops r (aput F d undefA) h K
  | _ => False

theorem WW_nil (E : Env) (H : Hint) (ops : List Oper) (F : Fr) (h : Hp) (K : Fr → Hp → Prop) : WW E H ops [] F h K = K F h := rfl
theorem WW_one (E : Env) (H : Hint) (ops : List Oper) (d : Option Tmp) (op : Op) (t : TypeId) (p : String) (e : Array Edge) (r : List Oper) (F : Fr) (h : Hp) (K : Fr → Hp → Prop) :
    WW E H ops (⟨d, op, t, p, e, none⟩ :: r) F h K = X1 E (ownOp op (H.md (d.getD 0))) op (frzSlots (F, h) (H.fz (d.getD 0))) (wc E H ops d r K) := by
  simp only [WW, W, wantA, true_imp_iff, Bool.true_eq_false, false_imp_iff, and_true, X1]
  rfl
theorem WW_guard (E : Env) (H : Hint) (ops : List Oper) (d : Option Tmp) (op : Op) (t : TypeId) (p : String) (e : Array Edge) (j : Nat) (want : Bool) (r : List Oper) (F : Fr) (h : Hp) (K : Fr → Hp → Prop) (g : Tmp) (hg : gdstO ops j = some g) :
    WW E H ops (⟨d, op, t, p, e, some (j, want)⟩ :: r) F h K = G1 E H ops d op r F h K want (F g) := by
  simp only [WW, W, wantA, gdstO_eq, hg, G1]
  generalize F g = v
  cases v with
  | bool b => rfl
  | tup vs => cases vs with
    | nil => simp
    | cons => rfl
  | _ => rfl
def GX (E : Env) (H : Hint) (ops : List Oper) (d : Option Tmp) (op : Op) (r : List Oper) (F : Fr) (h : Hp) (K : Fr → Hp → Prop) (want : Bool) (o : Option Tmp) : Prop := match o with
  | some g => G1 E H ops d op r F h K want (F g)
  | none => WW E H ops r (aput F d undefA) h K
theorem GX_some (E : Env) (H : Hint) (ops : List Oper) (d : Option Tmp) (op : Op) (r : List Oper) (F : Fr) (h : Hp) (K : Fr → Hp → Prop) (want : Bool) (g : Tmp) : GX E H ops d op r F h K want (some g) = G1 E H ops d op r F h K want (F g) := rfl
theorem WW_guardE (E : Env) (H : Hint) (ops : List Oper) (d : Option Tmp) (op : Op) (t : TypeId) (p : String) (e : Array Edge) (j : Nat) (want : Bool) (r : List Oper) (F : Fr) (h : Hp) (K : Fr → Hp → Prop) :
    WW E H ops (⟨d, op, t, p, e, some (j, want)⟩ :: r) F h K = GX E H ops d op r F h K want (gdstO ops j) := by
  cases hg : gdstO ops j with
  | some g => exact WW_guard E H ops d op t p e j want r F h K g hg
  | none => simp [WW, W, wantA, gdstO_eq, hg, GX]
theorem G1_of {E : Env} {H : Hint} {ops : List Oper} {d : Option Tmp} {op : Op} {r : List Oper} {F : Fr} {h : Hp} {K : Fr → Hp → Prop} {want b : Bool} (ht : b = true → G1 E H ops d op r F h K want (.bool true)) (hf : b = false → G1 E H ops d op r F h K want (.bool false)) : G1 E H ops d op r F h K want (.bool b) := by
  cases b
  · exact hf rfl
  · exact ht rfl
theorem G1_tt (E : Env) (H : Hint) (ops : List Oper) (d : Option Tmp) (op : Op) (r : List Oper) (F : Fr) (h : Hp) (K : Fr → Hp → Prop) : G1 E H ops d op r F h K true (.bool true) = X1 E (ownOp op (H.md (d.getD 0))) op (frzSlots (F, h) (H.fz (d.getD 0))) (wc E H ops d r K) := by simp [G1]
theorem G1_ff (E : Env) (H : Hint) (ops : List Oper) (d : Option Tmp) (op : Op) (r : List Oper) (F : Fr) (h : Hp) (K : Fr → Hp → Prop) : G1 E H ops d op r F h K false (.bool false) = X1 E (ownOp op (H.md (d.getD 0))) op (frzSlots (F, h) (H.fz (d.getD 0))) (wc E H ops d r K) := by simp [G1]
theorem G1_tf (E : Env) (H : Hint) (ops : List Oper) (d : Option Tmp) (op : Op) (r : List Oper) (F : Fr) (h : Hp) (K : Fr → Hp → Prop) : G1 E H ops d op r F h K true (.bool false) = WW E H ops r (aput F d undefA) h K := by simp [G1]
theorem G1_ft (E : Env) (H : Hint) (ops : List Oper) (d : Option Tmp) (op : Op) (r : List Oper) (F : Fr) (h : Hp) (K : Fr → Hp → Prop) : G1 E H ops d op r F h K false (.bool true) = WW E H ops r (aput F d undefA) h K := by simp [G1]
theorem G1_u (E : Env) (H : Hint) (ops : List Oper) (d : Option Tmp) (op : Op) (r : List Oper) (F : Fr) (h : Hp) (K : Fr → Hp → Prop) (want : Bool) : G1 E H ops d op r F h K want undefA = WW E H ops r (aput F d undefA) h K := rfl

def holdsO (o : Option (AV × Hp)) (K : AV → Hp → Prop) : Prop := match o with
  | some (v, h) => K v h
  | none => False
theorem holdsO_some (v : AV) (h : Hp) (K : AV → Hp → Prop) : holdsO (some (v, h)) K = K v h := rfl
theorem holdsO_ofO (v : AV) (h : Hp) (K : AV → Hp → Prop) : holdsO (ofO h (some v)) K = K v h := rfl
theorem holdsO_ofS (h : Hp) (K : AV → Hp → Prop) : holdsO (ofS (some h)) K = K undefA h := rfl
theorem holdsO_if {c : Prop} [Decidable c] {o : Option (AV × Hp)} {K : AV → Hp → Prop} (hc : c) (ho : holdsO o K) : holdsO (if c then o else none) K := by rw [if_pos hc]; exact ho
def callA (E : Env) (f : AV) (args : List AV) (h : Hp) (K : AV → Hp → Prop) : Prop := match f with
  | .fn (.func fid) first caps => ACalls E fid (first ++ (args ++ caps)) h K
  | _ => False
theorem callA_fn (E : Env) (fid : FuncId) (args caps : List AV) (h : Hp) (K : AV → Hp → Prop) : callA E (.fn (.func fid) [] caps) args h K = ACalls E fid (args ++ caps) h K := rfl
theorem X1_call (E : Env) (own : Bool) (f : Operand) (as : Array Operand) (ts : Array TypeId) (F : Fr) (h : Hp) (c : Fr → AV → Hp → Prop) :
    X1 E own (.call { callee := .value f, args := as, argTypes := ts }) (F, h) c = callA E (ev E F f) (as.toList.map (ev E F)) h (c F) := by
  unfold X1 aexec callA
  rfl
theorem X1_op (E : Env) (own : Bool) (op : Op) (F : Fr) (h : Hp) (c : Fr → AV → Hp → Prop) (hop : (match op with | .call { callee := .value _, .. } => false | _ => true) = true) :
    X1 E own op (F, h) c = holdsO (aop E.P own h (ev E F) op) (c F) := by
  unfold X1 aexec holdsO
  split
  · simp at hop
  · rfl
theorem wc_app (E : Env) (H : Hint) (ops : List Oper) (d : Option Tmp) (r : List Oper) (K : Fr → Hp → Prop) (F : Fr) : wc E H ops d r K F = wcont E H ops d r F K := rfl
theorem awp_reg (E : Env) (H : Hint) (i : Nat) (l : List Oper) (F : Fr) (h : Hp) (Q : AEx → Fr → Hp → Prop) : awp E H (.region i l.toArray false) F h Q = WW E H l l F h (Q .normal) := rfl

theorem upd_app (F : Nat → AV) (d i : Nat) (v : AV) : upd F d v i = if i = d then v else F i := rfl
theorem ev_tmp (E : Env) (F : Fr) (t : Nat) : ev E F (.tmp t) = F t := rfl
theorem ev_const (E : Env) (F : Fr) (v : Value) : ev E F (.const v) = avOf v := rfl
theorem ev_func (E : Env) (F : Fr) (f : Nat) : ev E F (.func f) = .fn (.func f) [] [] := rfl
theorem ev_glob (E : Env) (F : Fr) (f : Nat) : ev E F (.global f) = E.G f := rfl
theorem av_int (k : IntKind) (n : Int) : avOf (.int k n) = .int k n := rfl
theorem av_bool (b : Bool) : avOf (.bool b) = .bool b := rfl
theorem av_str (s : ByteArray) : avOf (.string s) = .str s := rfl
theorem av_nil : avOf (.slice none 0 0) = .sl .nil 0 [] := rfl
theorem av_nilp : avOf (.pointer none) = .nilp := rfl
theorem av_nilfn : avOf .nilFunc = .nilfn := rfl

/- the operations, one by one -/
section
variable (E : Env) (own : Bool) (F : Fr) (h : Hp) (c : Fr → AV → Hp → Prop)
theorem x_move (x : Operand) : X1 E own (.move x) (F, h) c = c F (ev E F x) h := rfl
theorem x_assign (x : Operand) : X1 E own (.assign x) (F, h) c = c F (ev E F x) h := rfl
def pickA (a b : AV) (h : Hp) (K : AV → Hp → Prop) (v : AV) : Prop := match v with
  | .bool true => K a h
  | .bool false => K b h
  | _ => False
theorem x_pick (x a b : Operand) : X1 E own (.pick x a b) (F, h) c = pickA (ev E F a) (ev E F b) h (c F) (ev E F x) := by
  simp only [X1, aexec, aop, pickA]
  generalize ev E F x = v
  cases v with
  | bool b => cases b <;> rfl
  | _ => rfl
theorem pick_t (a b : AV) (K : AV → Hp → Prop) : pickA a b h K (.bool true) = K a h := rfl
theorem pick_f (a b : AV) (K : AV → Hp → Prop) : pickA a b h K (.bool false) = K b h := rfl
theorem x_alloc (e : TypeId) : X1 E own (.alloc e) (F, h) c = holdsO (aAlloc E.P h e) (c F) := rfl
theorem x_box (e : TypeId) (x : Operand) : X1 E own (.box e x) (F, h) c = holdsO (aBox h (ev E F x)) (c F) := rfl
theorem x_build (t : TypeId) (ps : List (Nat × Operand)) : X1 E own (.build t ps.toArray) (F, h) c = holdsO (ofO h (aBuild E.P t (evp (ev E F) ps))) (c F) := rfl
theorem x_buildSlice (t : TypeId) (n : Nat) (ps : List (Nat × Operand)) : X1 E own (.buildSlice t n ps.toArray) (F, h) c = holdsO (aBuildSlice E.P own h t n (evp (ev E F) ps)) (c F) := rfl
theorem x_load (t : TypeId) (a : Operand) : X1 E own (.load t a) (F, h) c = holdsO (ofO h (aLoad E.P h t (ev E F a))) (c F) := rfl
theorem x_store (t : TypeId) (a x : Operand) : X1 E own (.store t a x) (F, h) c = holdsO (ofS (aStore E.P h t (ev E F a) (ev E F x))) (c F) := rfl
theorem x_bin (op : BinOp) (t u : TypeId) (x y : Operand) : X1 E own (.binOp op t x y u) (F, h) c = holdsO (ofO h (aBin E.P t op (ev E F x) (ev E F y))) (c F) := rfl
theorem x_un (op : UnOp) (t : TypeId) (x : Operand) : X1 E own (.unOp op t x) (F, h) c = holdsO (ofO h (aUn op (ev E F x))) (c F) := rfl
theorem x_conv (s d : TypeId) (x : Operand) : X1 E own (.convert s d x) (F, h) c = holdsO (ofO h (aConv E.P s d (ev E F x))) (c F) := rfl
theorem x_makeFunc (fn : Fn) (a b : List Operand) : X1 E own (.makeFunc fn a.toArray b.toArray) (F, h) c = c F (.fn fn (a.map (ev E F)) (b.map (ev E F))) h := rfl
theorem x_makeSlice (t : TypeId) (l k : Operand) : X1 E own (.makeSlice t l k) (F, h) c = holdsO (aMakeSlice E.P own h t (ev E F l) (ev E F k)) (c F) := rfl
theorem x_slice (t : TypeId) (x : Operand) (lo hi mx : Option Operand) : X1 E own (.slice t x lo hi mx) (F, h) c = holdsO (ofO h (aSlice E.P h t (ev E F x) (lo.map (ev E F)) (hi.map (ev E F)) (mx.map (ev E F)))) (c F) := rfl
theorem x_fieldAddr (t : TypeId) (x : Operand) (f : Nat) : X1 E own (.fieldAddr t x f) (F, h) c = holdsO (ofO h (aFieldAddr E.P t (ev E F x) f)) (c F) := rfl
theorem x_field (t : TypeId) (x : Operand) (f : Nat) : X1 E own (.field t x f) (F, h) c = holdsO (ofO h (aField E.P t (ev E F x) f)) (c F) := rfl
theorem x_indexAddr (t : TypeId) (x i : Operand) : X1 E own (.indexAddr t x i) (F, h) c = holdsO (ofO h (aIndexAddr E.P h t (ev E F x) (ev E F i))) (c F) := rfl
theorem x_index (t : TypeId) (x i : Operand) : X1 E own (.index t x i) (F, h) c = holdsO (ofO h (aIndex E.P t (ev E F x) (ev E F i))) (c F) := rfl
theorem x_range (t : TypeId) (x : Operand) : X1 E own (.range t x) (F, h) c = holdsO (aRange E.P h t (ev E F x)) (c F) := rfl
theorem x_next (it : Operand) (s : Bool) : X1 E own (.next it s) (F, h) c = holdsO (aNext h (ev E F it) s) (c F) := rfl
def extA (h : Hp) (i : Nat) (K : AV → Hp → Prop) (v : AV) : Prop := match v with
  | .tup vs => holdsO (ofO h vs[i]?) K
  | _ => False
theorem x_extract (t : Operand) (i : Nat) : X1 E own (.extract t i) (F, h) c = extA h i (c F) (ev E F t) := by
  simp only [X1, aexec, aop, extA, holdsO]
  cases ev E F t <;> rfl
theorem ext_tup (vs : List AV) (i : Nat) (K : AV → Hp → Prop) : extA h i K (.tup vs) = holdsO (ofO h vs[i]?) K := rfl
theorem x_len (a : Operand) (t : TypeId) : X1 E own (.call { callee := .builtin .len, args := #[a], argTypes := #[t] }) (F, h) c = holdsO (ofO h (aLen E.P t (ev E F a))) (c F) := rfl
theorem x_max (a b : Operand) (ts : Array TypeId) : X1 E own (.call { callee := .builtin .max, args := #[a, b], argTypes := ts }) (F, h) c = holdsO (ofO h (aFold aMax2 (ev E F a) [ev E F b])) (c F) := rfl
theorem x_min (a b : Operand) (ts : Array TypeId) : X1 E own (.call { callee := .builtin .min, args := #[a, b], argTypes := ts }) (F, h) c = holdsO (ofO h (aFold aMin2 (ev E F a) [ev E F b])) (c F) := rfl
theorem x_append (s x : Operand) (t0 t1 : TypeId) : X1 E true (.call { callee := .builtin .append, args := #[s, x], argTypes := #[t0, t1] }) (F, h) c = holdsO (aAppend E.P true h t0 t1 (ev E F s) (ev E F x)) (c F) := rfl
theorem x_appendF (s x : Operand) (t0 t1 : TypeId) : X1 E false (.call { callee := .builtin .append, args := #[s, x], argTypes := #[t0, t1] }) (F, h) c = holdsO (if frozenArgs E.P h t0 t1 (ev E F s) (ev E F x) = true then aAppend E.P false h t0 t1 (ev E F s) (ev E F x) else none) (c F) := by
  simp only [X1, aexec, aop, aBuiltin, holdsO]
  rfl
theorem x_copy (s x : Operand) (t0 t1 : TypeId) : X1 E own (.call { callee := .builtin .copy, args := #[s, x], argTypes := #[t0, t1] }) (F, h) c = holdsO (aCopy E.P h t0 (ev E F s) (ev E F x)) (c F) := rfl
theorem x_clear (s : Operand) (t0 : TypeId) : X1 E own (.call { callee := .builtin .clear, args := #[s], argTypes := #[t0] }) (F, h) c = holdsO (aClear E.P h t0 (ev E F s)) (c F) := rfl
end

/- the types -/
theorem fieldAddr_of {P : Program} {t : TypeId} {fields : Array Field} {f : Nat} {fl : Field} {n : Nat} (hu : P.underlying t = some (.struct fields)) (hf : fields[f]? = some fl) (hs : szO P fl.type = some (n + 1)) (off : Nat) (ho : fl.offset = off) :
    (∀ b i j, aFieldAddr P t (.ptr b i j) f = some (.ptr b i (j + off))) ∧ (∀ k xs i j, aFieldAddr P t (.fptr k xs i j) f = some (.fptr k xs i (j + off))) := by
  subst ho
  constructor <;> intros <;> simp [aFieldAddr, hu, hf, hs]
def ixSl (k : Nat) (h : Hp) (a ix : AV) : Option AV := match ix with
  | .int _ i => match a with
    | .sl _ k' xs => if k = k' ∧ 0 ≤ i ∧ i < (xs.length : Int) then some (.fptr k' xs i.toNat 0) else none
    | .own b off len => match h[b]? with
      | some (.live k' _) => if k = k' ∧ 0 ≤ i ∧ i < (len : Int) then some (.ptr b (off + i.toNat) 0) else none
      | _ => none
    | _ => none
  | _ => none
theorem indexAddr_of {P : Program} {t e : TypeId} {k : Nat} (hu : P.underlying t = some (.slice e)) (hk : szO P e = some k) (h : Hp) (a ix : AV) : aIndexAddr P h t a ix = ixSl k h a ix := by
  unfold aIndexAddr ixSl
  cases ix <;> simp only
  simp only [hu, hk, Option.some.injEq]
  rfl
/- drawn regions, in the order of the text -/
def isVC : Op → Bool
  | .call { callee := .value _, .. } => true
  | _ => false
def callP (E : Env) (f : AV) (args : List AV) (h : Hp) (K : AV → Hp → Prop) : Prop := match f with
  | .fn (.func fid) first caps => ∃ r, PCall E fid (first ++ (args ++ caps)) h r ∧ K r h
  | _ => False
theorem callP_fn (E : Env) (fid : FuncId) (args caps : List AV) (h : Hp) (K : AV → Hp → Prop) : callP E (.fn (.func fid) [] caps) args h K = ∃ r, PCall E fid (args ++ caps) h r ∧ K r h := rfl
theorem callP_of {E : Env} {fid : FuncId} {args caps : List AV} {h : Hp} {K : AV → Hp → Prop} (r : AV) (hp : PCall E fid (args ++ caps) h r) (hK : K r h) : callP E (.fn (.func fid) [] caps) args h K := ⟨r, hp, hK⟩
theorem callA_of {E : Env} {fid : FuncId} {args caps : List AV} {h : Hp} {K : AV → Hp → Prop} (r : AV) (hp : PCall E fid (args ++ caps) h r) (hK : K r h) : callA E (.fn (.func fid) [] caps) args h K := hp.use hK
def Y1 (E : Env) (own : Bool) (op : Op) (s : Fr × Hp) (c : Fr → AV → Hp → Prop) : Prop := match op with
  | .call { callee := .value f, args := as, .. } => callP E (ev E s.1 f) (as.toList.map (ev E s.1)) s.2 (c s.1)
  | op => X1 E own op s c
theorem Y1_call (E : Env) (own : Bool) (f : Operand) (as : Array Operand) (ts : Array TypeId) (F : Fr) (h : Hp) (c : Fr → AV → Hp → Prop) :
    Y1 E own (.call { callee := .value f, args := as, argTypes := ts }) (F, h) c = callP E (ev E F f) (as.toList.map (ev E F)) h (c F) := rfl
theorem Y1_op (E : Env) (own : Bool) (op : Op) (s : Fr × Hp) (c : Fr → AV → Hp → Prop) (hop : isVC op = false) : Y1 E own op s c = X1 E own op s c := by
  unfold Y1
  split
  · simp [isVC] at hop
  · rfl
theorem isVC_true {op : Op} (h : isVC op = true) : ∃ f as ts, op = .call { callee := .value f, args := as, argTypes := ts } := by
  cases op <;> simp only [isVC] at h <;> try (cases h; done)
  rename_i c
  obtain ⟨cl, as, ts⟩ := c
  cases cl with
  | value f => exact ⟨f, as, ts, rfl⟩
  | _ => simp [isVC] at h
theorem DEx_op {E : Env} {own : Bool} {op : Op} {F : Fr} {h h' : Hp} {v : AV} (hop : isVC op = false) : DEx E own op F h v h' = (aop E.P own h (ev E F) op = some (v, h')) := by
  unfold DEx
  split
  · simp [isVC] at hop
  · rfl
theorem Y1_spec (E : Env) (own : Bool) (op : Op) (s : Fr × Hp) (c : Fr → AV → Hp → Prop) : (∃ v h', DEx E own op s.1 s.2 v h' ∧ c s.1 v h') = Y1 E own op s c := by
  apply propext
  cases hop : isVC op with
  | true =>
    obtain ⟨f, as, ts, rfl⟩ := isVC_true hop
    obtain ⟨F, h⟩ := s
    rw [Y1_call]
    unfold DEx callP
    simp only
    generalize ev E F f = fv
    cases fv with
    | fn fn first caps =>
      cases fn with
      | func fid =>
        constructor
        · rintro ⟨v, h', ⟨rfl, h1⟩, h2⟩; exact ⟨v, h1, h2⟩
        · rintro ⟨r, h1, h2⟩; exact ⟨r, h, ⟨rfl, h1⟩, h2⟩
      | _ => constructor <;> (intro hh; first | exact hh.elim | (obtain ⟨_, _, hh, _⟩ := hh; exact hh.elim))
    | _ => constructor <;> (intro hh; first | exact hh.elim | (obtain ⟨_, _, hh, _⟩ := hh; exact hh.elim))
  | false =>
    obtain ⟨F, h⟩ := s
    rw [Y1_op _ _ _ _ _ hop, X1_op _ _ _ _ _ _ (by
      split
      · simp [isVC] at hop
      · rfl)]
    simp only [DEx_op hop]
    unfold holdsO
    constructor
    · rintro ⟨v, h', h1, h2⟩; rw [h1]; exact h2
    · intro hy
      split at hy
      · rename_i v h' he; exact ⟨v, h', he, hy⟩
      · exact hy.elim
def DD (E : Env) (md : Nat → Bool) (ops : List Oper) (l : List Oper) (F : Fr) (h : Hp) (K : Fr → Hp → Prop) : Prop := D E md (ops.map (·.dst)) l F h K
def dcont (E : Env) (md : Nat → Bool) (ops : List Oper) (d : Option Tmp) (r : List Oper) (F : Fr) (K : Fr → Hp → Prop) : AV → Hp → Prop := fun v h' => DD E md ops r (aput F d v) h' K
theorem dcont_s (E : Env) (md : Nat → Bool) (ops : List Oper) (d : Tmp) (r : List Oper) (F : Fr) (K : Fr → Hp → Prop) (v : AV) (h : Hp) : dcont E md ops (some d) r F K v h = DD E md ops r (upd F d v) h K := rfl
theorem dcont_n (E : Env) (md : Nat → Bool) (ops : List Oper) (r : List Oper) (F : Fr) (K : Fr → Hp → Prop) (v : AV) (h : Hp) : dcont E md ops none r F K v h = DD E md ops r F h K := rfl
def dc (E : Env) (md : Nat → Bool) (ops : List Oper) (d : Option Tmp) (r : List Oper) (K : Fr → Hp → Prop) : Fr → AV → Hp → Prop := fun F => dcont E md ops d r F K
theorem dc_app (E : Env) (md : Nat → Bool) (ops : List Oper) (d : Option Tmp) (r : List Oper) (K : Fr → Hp → Prop) (F : Fr) : dc E md ops d r K F = dcont E md ops d r F K := rfl
theorem DD_nil (E : Env) (md : Nat → Bool) (ops : List Oper) (F : Fr) (h : Hp) (K : Fr → Hp → Prop) : DD E md ops [] F h K = K F h := rfl
theorem awp_draw {E : Env} {H : Hint} {i : Nat} {l : List Oper} {F : Fr} {h : Hp} {Q : AEx → Fr → Hp → Prop} (hl : lexA H.md l.toArray = true) (hd : DD E H.md l l F h (Q .normal)) : awp E H (.region i l.toArray true) F h Q := ⟨hl, hd⟩
theorem DD_one (E : Env) (md : Nat → Bool) (ops : List Oper) (d : Option Tmp) (op : Op) (t : TypeId) (p : String) (e : Array Edge) (r : List Oper) (F : Fr) (h : Hp) (K : Fr → Hp → Prop) :
    DD E md ops (⟨d, op, t, p, e, none⟩ :: r) F h K = Y1 E (md (d.getD 0)) op (F, h) (dc E md ops d r K) := by
  rw [← Y1_spec]
  simp only [DD, D, wantA, true_imp_iff, Bool.true_eq_false, false_imp_iff, and_true]
  rfl
/-- a guarded operation of a drawn region -/
def GD (E : Env) (md : Nat → Bool) (ops : List Oper) (d : Option Tmp) (op : Op) (r : List Oper) (F : Fr) (h : Hp) (K : Fr → Hp → Prop) (want : Bool) (v : AV) : Prop :=
  match v with
  | .bool b => ((b == want) = true → Y1 E (md (d.getD 0)) op (F, h) (dc E md ops d r K)) ∧ ((b == want) = false → DD E md ops r (aput F d undefA) h K)
  | .tup [] => DD E md ops r (aput F d undefA) h K
  | _ => False
theorem DD_guard (E : Env) (md : Nat → Bool) (ops : List Oper) (d : Option Tmp) (op : Op) (t : TypeId) (p : String) (e : Array Edge) (j : Nat) (want : Bool) (r : List Oper) (F : Fr) (h : Hp) (K : Fr → Hp → Prop) (g : Tmp) (hg : gdstO ops j = some g) :
    DD E md ops (⟨d, op, t, p, e, some (j, want)⟩ :: r) F h K = GD E md ops d op r F h K want (F g) := by
  simp only [DD, D, wantA, gdstO_eq, hg, GD, ← Y1_spec]
  generalize F g = v
  cases v with
  | bool b => rfl
  | tup vs => cases vs with
    | nil => simp
    | cons => rfl
  | _ => rfl
def GY (E : Env) (md : Nat → Bool) (ops : List Oper) (d : Option Tmp) (op : Op) (r : List Oper) (F : Fr) (h : Hp) (K : Fr → Hp → Prop) (want : Bool) (o : Option Tmp) : Prop := match o with
  | some g => GD E md ops d op r F h K want (F g)
  | none => DD E md ops r (aput F d undefA) h K
theorem GY_some (E : Env) (md : Nat → Bool) (ops : List Oper) (d : Option Tmp) (op : Op) (r : List Oper) (F : Fr) (h : Hp) (K : Fr → Hp → Prop) (want : Bool) (g : Tmp) : GY E md ops d op r F h K want (some g) = GD E md ops d op r F h K want (F g) := rfl
theorem DD_guardE (E : Env) (md : Nat → Bool) (ops : List Oper) (d : Option Tmp) (op : Op) (t : TypeId) (p : String) (e : Array Edge) (j : Nat) (want : Bool) (r : List Oper) (F : Fr) (h : Hp) (K : Fr → Hp → Prop) :
    DD E md ops (⟨d, op, t, p, e, some (j, want)⟩ :: r) F h K = GY E md ops d op r F h K want (gdstO ops j) := by
  cases hg : gdstO ops j with
  | some g => exact DD_guard E md ops d op t p e j want r F h K g hg
  | none => simp [DD, D, wantA, gdstO_eq, hg, GY]
theorem GD_of {E : Env} {md : Nat → Bool} {ops : List Oper} {d : Option Tmp} {op : Op} {r : List Oper} {F : Fr} {h : Hp} {K : Fr → Hp → Prop} {want b : Bool} (ht : b = true → GD E md ops d op r F h K want (.bool true)) (hf : b = false → GD E md ops d op r F h K want (.bool false)) : GD E md ops d op r F h K want (.bool b) := by
  cases b
  · exact hf rfl
  · exact ht rfl
section
variable (E : Env) (md : Nat → Bool) (ops : List Oper) (d : Option Tmp) (op : Op) (r : List Oper) (F : Fr) (h : Hp) (K : Fr → Hp → Prop)
theorem GD_tt : GD E md ops d op r F h K true (.bool true) = Y1 E (md (d.getD 0)) op (F, h) (dc E md ops d r K) := by simp [GD]
theorem GD_ff : GD E md ops d op r F h K false (.bool false) = Y1 E (md (d.getD 0)) op (F, h) (dc E md ops d r K) := by simp [GD]
theorem GD_tf : GD E md ops d op r F h K true (.bool false) = DD E md ops r (aput F d undefA) h K := by simp [GD]
theorem GD_ft : GD E md ops d op r F h K false (.bool true) = DD E md ops r (aput F d undefA) h K := by simp [GD]
theorem GD_u (want : Bool) : GD E md ops d op r F h K want undefA = DD E md ops r (aput F d undefA) h K := rfl
theorem y_move (own : Bool) (x : Operand) (c : Fr → AV → Hp → Prop) : Y1 E own (.move x) (F, h) c = c F (ev E F x) h := rfl
theorem y_assign (own : Bool) (x : Operand) (c : Fr → AV → Hp → Prop) : Y1 E own (.assign x) (F, h) c = c F (ev E F x) h := rfl
variable (own : Bool) (c : Fr → AV → Hp → Prop)
theorem y_pick (x a b : Operand) : Y1 E own (.pick x a b) (F, h) c = X1 E own (.pick x a b) (F, h) c := rfl
theorem y_alloc (t : TypeId) : Y1 E own (.alloc t) (F, h) c = X1 E own (.alloc t) (F, h) c := rfl
theorem y_box (t : TypeId) (x : Operand) : Y1 E own (.box t x) (F, h) c = X1 E own (.box t x) (F, h) c := rfl
theorem y_build (t : TypeId) (ps : Array (Nat × Operand)) : Y1 E own (.build t ps) (F, h) c = X1 E own (.build t ps) (F, h) c := rfl
theorem y_buildSlice (t : TypeId) (n : Nat) (ps : Array (Nat × Operand)) : Y1 E own (.buildSlice t n ps) (F, h) c = X1 E own (.buildSlice t n ps) (F, h) c := rfl
theorem y_load (t : TypeId) (x : Operand) : Y1 E own (.load t x) (F, h) c = X1 E own (.load t x) (F, h) c := rfl
theorem y_store (t : TypeId) (x y : Operand) : Y1 E own (.store t x y) (F, h) c = X1 E own (.store t x y) (F, h) c := rfl
theorem y_bin (o : BinOp) (t u : TypeId) (x y : Operand) : Y1 E own (.binOp o t x y u) (F, h) c = X1 E own (.binOp o t x y u) (F, h) c := rfl
theorem y_un (o : UnOp) (t : TypeId) (x : Operand) : Y1 E own (.unOp o t x) (F, h) c = X1 E own (.unOp o t x) (F, h) c := rfl
theorem y_conv (t u : TypeId) (x : Operand) : Y1 E own (.convert t u x) (F, h) c = X1 E own (.convert t u x) (F, h) c := rfl
theorem y_makeFunc (fn : Fn) (a b : Array Operand) : Y1 E own (.makeFunc fn a b) (F, h) c = X1 E own (.makeFunc fn a b) (F, h) c := rfl
theorem y_makeSlice (t : TypeId) (x y : Operand) : Y1 E own (.makeSlice t x y) (F, h) c = X1 E own (.makeSlice t x y) (F, h) c := rfl
theorem y_slice (t : TypeId) (x : Operand) (lo hi mx : Option Operand) : Y1 E own (.slice t x lo hi mx) (F, h) c = X1 E own (.slice t x lo hi mx) (F, h) c := rfl
theorem y_fieldAddr (t : TypeId) (x : Operand) (i : Nat) : Y1 E own (.fieldAddr t x i) (F, h) c = X1 E own (.fieldAddr t x i) (F, h) c := rfl
theorem y_field (t : TypeId) (x : Operand) (i : Nat) : Y1 E own (.field t x i) (F, h) c = X1 E own (.field t x i) (F, h) c := rfl
theorem y_indexAddr (t : TypeId) (x y : Operand) : Y1 E own (.indexAddr t x y) (F, h) c = X1 E own (.indexAddr t x y) (F, h) c := rfl
theorem y_index (t : TypeId) (x y : Operand) : Y1 E own (.index t x y) (F, h) c = X1 E own (.index t x y) (F, h) c := rfl
theorem y_range (t : TypeId) (x : Operand) : Y1 E own (.range t x) (F, h) c = X1 E own (.range t x) (F, h) c := rfl
theorem y_next (x : Operand) (b : Bool) : Y1 E own (.next x b) (F, h) c = X1 E own (.next x b) (F, h) c := rfl
theorem y_extract (x : Operand) (i : Nat) : Y1 E own (.extract x i) (F, h) c = X1 E own (.extract x i) (F, h) c := rfl
theorem y_builtin (b : Builtin) (as : Array Operand) (ts : Array TypeId) : Y1 E own (.call { callee := .builtin b, args := as, argTypes := ts }) (F, h) c = X1 E own (.call { callee := .builtin b, args := as, argTypes := ts }) (F, h) c := rfl
end

/- weakening: what is shown with one aim holds with a weaker one -/
theorem aexec_mono {E : Env} {own : Bool} {op : Op} {F : Fr} {h : Hp} {K K' : AV → Hp → Prop} (hk : ∀ v h, K v h → K' v h) (ha : aexec E own op F h K) : aexec E own op F h K' := by
  unfold aexec at *
  split at ha
  · split at ha
    · rename_i hf; exact ha.mono hk
    · exact ha.elim
  · split at ha
    · rename_i v h' he; exact hk v h' ha
    · exact ha.elim
theorem W_mono {E : Env} {H : Hint} {ds : List (Option Tmp)} {K K' : Fr → Hp → Prop} (hk : ∀ F h, K F h → K' F h) : ∀ (l : List Oper) (F : Fr) (h : Hp), W E H ds l F h K → W E H ds l F h K'
  | [], F, h, hw => hk F h hw
  | o :: r, F, h, hw => by
    simp only [W] at hw ⊢
    split at hw
    · exact ⟨fun hc => aexec_mono (fun v h' hv => W_mono hk r _ _ hv) (hw.1 hc), fun hc => W_mono hk r _ _ (hw.2 hc)⟩
    · exact hw.elim
theorem D_mono {E : Env} {md : Nat → Bool} {ds : List (Option Tmp)} {K K' : Fr → Hp → Prop} (hk : ∀ F h, K F h → K' F h) : ∀ (l : List Oper) (F : Fr) (h : Hp), D E md ds l F h K → D E md ds l F h K'
  | [], F, h, hw => hk F h hw
  | o :: r, F, h, hw => by
    simp only [D] at hw ⊢
    split at hw
    · exact ⟨fun hc => let ⟨v, h', h1, h2⟩ := hw.1 hc; ⟨v, h', h1, D_mono hk r _ _ h2⟩, fun hc => D_mono hk r _ _ (hw.2 hc)⟩
    · exact hw.elim
theorem thenA_mono {next next' : Fr → Hp → Prop} {Q Q' : AEx → Fr → Hp → Prop} (hn : ∀ F h, next F h → next' F h) (hq : ∀ e F h, Q e F h → Q' e F h) : ∀ e F h, thenA next Q e F h → thenA next' Q' e F h := by
  intro e F h ht
  cases e with
  | normal => exact hn F h ht
  | exit i => exact hq _ F h ht
  | ret => exact hq _ F h ht
theorem awp_mono {E : Env} {H : Hint} : ∀ (c : Code) {F : Fr} {h : Hp} {Q Q' : AEx → Fr → Hp → Prop}, (∀ e F h, Q e F h → Q' e F h) → awp E H c F h Q → awp E H c F h Q' := by
  intro c
  induction c with
  | skip => intro F h Q Q' hq hw; exact hq _ _ _ hw
  | label l => intro F h Q Q' hq hw; exact hq _ _ _ hw
  | ret => intro F h Q Q' hq hw; exact hq _ _ _ hw
  | exit i => intro F h Q Q' hq hw; exact hq _ _ _ hw
  | seq x y ihx ihy => intro F h Q Q' hq hw; exact ihx (thenA_mono (fun F h hh => ihy hq hh) hq) hw
  | block id b ih =>
    intro F h Q Q' hq hw
    refine ih (fun e F h hh => ?_) hw
    cases e with
    | normal => exact hq _ _ _ hh
    | exit i =>
      simp only [inBlockA] at hh ⊢
      split
      · rename_i hi; rw [if_pos hi] at hh; exact hq _ _ _ hh
      · rename_i hi; rw [if_neg hi] at hh; exact hq _ _ _ hh
    | ret => exact hq _ _ _ hh
  | cond c x y ihx ihy =>
    intro F h Q Q' hq hw
    simp only [awp] at hw ⊢
    split at hw
    · exact ⟨fun hc => ihx hq (hw.1 hc), fun hc => ihy hq (hw.2 hc)⟩
    · exact hw.elim
  | loop b ih =>
    intro F h Q Q' hq hw
    obtain ⟨I, h0, hr⟩ := hw
    exact ⟨I, h0, fun n F h hI => ih (thenA_mono (fun _ _ hh => hh) hq) (hr n F h hI)⟩
  | region i ops draw =>
    intro F h Q Q' hq hw
    simp only [awp] at hw ⊢
    cases draw with
    | false => exact W_mono (hq _) _ _ _ hw
    | true => exact ⟨hw.1, D_mono (hq _) _ _ _ hw.2⟩
  | _ => intro F h Q Q' hq hw; simp only [awp] at hw
/-- a stop on the way: what is known behind the first piece of code suffices for the rest -/
theorem awp_cut {E : Env} {H : Hint} {c : Code} {F : Fr} {h : Hp} {Q : AEx → Fr → Hp → Prop} (C : AEx → Fr → Hp → Prop) (hw : awp E H c F h C) (hc : ∀ e F h, C e F h → Q e F h) : awp E H c F h Q := awp_mono c hc hw
/-- a stop behind which the code goes on as usual, or has returned -/
def midQ (N : Fr → Hp → Prop) (R : Fr → Hp → Prop) : AEx → Fr → Hp → Prop
  | .normal, F, h => N F h
  | .ret, F, h => R F h
  | .exit _, _, _ => False
theorem mid_n (N R : Fr → Hp → Prop) (F : Fr) (h : Hp) : midQ N R .normal F h = N F h := rfl
theorem mid_r (N R : Fr → Hp → Prop) (F : Fr) (h : Hp) : midQ N R .ret F h = R F h := rfl
theorem awp_mid {E : Env} {H : Hint} {c : Code} {F : Fr} {h : Hp} {Q : AEx → Fr → Hp → Prop} (N R : Fr → Hp → Prop) (hw : awp E H c F h (midQ N R)) (hn : ∀ F h, N F h → Q .normal F h) (hr : ∀ F h, R F h → Q .ret F h) : awp E H c F h Q :=
  awp_mono c (fun e F h hh => by
    cases e with
    | normal => exact hn F h hh
    | ret => exact hr F h hh
    | exit i => exact hh.elim) hw
theorem G1_mid {E : Env} {H : Hint} {ops : List Oper} {d : Option Tmp} {op : Op} {r : List Oper} {F : Fr} {h : Hp} {K : Fr → Hp → Prop} {want : Bool} {v : AV} (K' : Fr → Hp → Prop) (hw : G1 E H ops d op r F h K' want v) (hk : ∀ F h, K' F h → K F h) : G1 E H ops d op r F h K want v := by
  unfold G1 at *
  split at hw
  · exact ⟨fun hc => aexec_mono (fun v h' hv => W_mono hk r _ _ hv) (hw.1 hc), fun hc => W_mono hk r _ _ (hw.2 hc)⟩
  · exact W_mono hk r _ _ hw
  · exact hw.elim
theorem WW_mid {E : Env} {H : Hint} {ops r : List Oper} {F : Fr} {h : Hp} {K : Fr → Hp → Prop} (K' : Fr → Hp → Prop) (hw : WW E H ops r F h K') (hk : ∀ F h, K' F h → K F h) : WW E H ops r F h K := W_mono hk r _ _ hw
theorem DD_mid {E : Env} {md : Nat → Bool} {ops r : List Oper} {F : Fr} {h : Hp} {K : Fr → Hp → Prop} (K' : Fr → Hp → Prop) (hw : DD E md ops r F h K') (hk : ∀ F h, K' F h → K F h) : DD E md ops r F h K := D_mono hk r _ _ hw
theorem GD_mid {E : Env} {md : Nat → Bool} {ops : List Oper} {d : Option Tmp} {op : Op} {r : List Oper} {F : Fr} {h : Hp} {K : Fr → Hp → Prop} {want : Bool} {v : AV} (K' : Fr → Hp → Prop) (hw : GD E md ops d op r F h K' want v) (hk : ∀ F h, K' F h → K F h) : GD E md ops d op r F h K want v := by
  unfold GD at *
  simp only [← Y1_spec] at *
  split at hw
  · refine ⟨fun hc => ?_, fun hc => D_mono hk r _ _ (hw.2 hc)⟩
    obtain ⟨v, h', h1, h2⟩ := hw.1 hc
    exact ⟨v, h', h1, D_mono hk r _ _ h2⟩
  · exact D_mono hk r _ _ hw
  · exact hw.elim
/-- a stop behind a loop that is left by one exit, or by a return -/
def lpQ (i : Nat) (N : Fr → Hp → Prop) (R : Fr → Hp → Prop) : AEx → Fr → Hp → Prop
  | .normal, _, _ => False
  | .ret, F, h => R F h
  | .exit j, F, h => if j = i then N F h else False
theorem lp_e (i j : Nat) (N R : Fr → Hp → Prop) (F : Fr) (h : Hp) : lpQ i N R (.exit j) F h = if j = i then N F h else False := rfl
theorem lp_r (i : Nat) (N R : Fr → Hp → Prop) (F : Fr) (h : Hp) : lpQ i N R .ret F h = R F h := rfl
theorem awp_lp {E : Env} {H : Hint} {c : Code} {F : Fr} {h : Hp} {Q : AEx → Fr → Hp → Prop} (i : Nat) (N R : Fr → Hp → Prop) (hw : awp E H c F h (lpQ i N R)) (hn : ∀ F h, N F h → Q (.exit i) F h) (hr : ∀ F h, R F h → Q .ret F h) : awp E H c F h Q :=
  awp_mono c (fun e F h hh => by
    cases e with
    | normal => exact hh.elim
    | ret => exact hr F h hh
    | exit j =>
      simp only [lpQ] at hh
      split at hh
      · rename_i e; subst e; exact hn F h hh
      · exact hh.elim) hw
theorem wcont_mid {E : Env} {H : Hint} {ops r : List Oper} {d : Option Tmp} {F : Fr} {h : Hp} {K : Fr → Hp → Prop} {v : AV} (K' : Fr → Hp → Prop) (hw : wcont E H ops d r F K' v h) (hk : ∀ F h, K' F h → K F h) : wcont E H ops d r F K v h := W_mono hk r _ _ hw
end Go.Proofs.YtpdohkcjhphibaaDoor.Sm
