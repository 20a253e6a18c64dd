/- What is to be shown of a function's body, and that it gives the function's contract; freezing what a call hands back; no condition. -/
import Derived.Test.YtpdohkcjhphibaaDoorSm11
set_option linter.unusedVariables false
namespace Go.Proofs.YtpdohkcjhphibaaDoor.Sm
open Go

inductive AEx where
  | normal | exit (id : Nat) | ret
def AEx.to : AEx → Exit
  | .normal => .normal
  | .exit id => .exit id
  | .ret => .ret
def thenA (next : Fr → Hp → Prop) (Q : AEx → Fr → Hp → Prop) : AEx → Fr → Hp → Prop
  | .normal, F, h => next F h
  | .exit id, F, h => Q (.exit id) F h
  | .ret, F, h => Q .ret F h
def inBlockA (id : Nat) (Q : AEx → Fr → Hp → Prop) : AEx → Fr → Hp → Prop
  | .normal, F, h => Q .normal F h
  | .exit i, F, h => if i = id then Q .normal F h else Q (.exit i) F h
  | .ret, F, h => Q .ret F h

/-- what is to be shown of code -/
def awp (E : Env) (H : Hint) : Code → Fr → Hp → (AEx → Fr → Hp → Prop) → Prop
  | .skip, F, h, Q => Q .normal F h
  | .label _, F, h, Q => Q .normal F h
  | .ret, F, h, Q => Q .ret F h
  | .exit id, F, h, Q => Q (.exit id) F h
  | .seq a b, F, h, Q => awp E H a F h (thenA (fun F h => awp E H b F h Q) Q)
  | .block id b, F, h, Q => awp E H b F h (inBlockA id Q)
  | .cond c a b, F, h, Q => match ev E F c with
    | .bool t => (t = true → awp E H a F h Q) ∧ (t = false → awp E H b F h Q)
    | _ => False
  | .loop b, F, h, Q => ∃ I : Nat → Fr → Hp → Prop, (∃ n, I n F h) ∧ ∀ n F h, I n F h → awp E H b F h (thenA (fun F' h' => ∃ m, m < n ∧ I m F' h') Q)
  | .region _ ops draw, F, h, Q => match draw with
    | false => W E H (ops.toList.map (·.dst)) ops.toList F h (Q .normal)
    | true => lexA H.md ops = true ∧ D E H.md (ops.toList.map (·.dst)) ops.toList F h (Q .normal)
  | _, _, _, _ => False

def dstOk (n : Nat) : Code → Bool
  | .seq a b => dstOk n a && dstOk n b
  | .block _ b => dstOk n b
  | .cond _ a b => dstOk n a && dstOk n b
  | .loop b => dstOk n b
  | .region _ ops _ => ops.toList.all fun o => match o.dst with
    | some d => decide (d < n)
    | none => true
  | _ => true

/-- the states behind a piece of code -/
def After (E : Env) (n : Nat) (g : Gh) (Q : AEx → Fr → Hp → Prop) (e : Exit) (a : Act) (w : World) : Prop :=
  ∃ x g' F h, e = x.to ∧ Q x F h ∧ g.le g' ∧ Sim E n g' F h a w

theorem after_then {E : Env} {n : Nat} {g : Gh} {next : Fr → Hp → Prop} {Q : AEx → Fr → Hp → Prop} {e : Exit} {a : Act} {w : World} {k : Act → World → Prop} {Q' : Exit → Act → World → Prop} (h : After E n g (thenA next Q) e a w)
    (h1 : ∀ F h g', next F h → g.le g' → Sim E n g' F h a w → k a w) (h2 : After E n g Q e a w → e ≠ .normal → Q' e a w) : Exit.then k Q' e a w := by
  obtain ⟨x, g', F, hp, rfl, hq, hg, s⟩ := h
  cases x with
  | normal => exact h1 F hp g' hq hg s
  | exit id => exact h2 ⟨.exit id, g', F, hp, rfl, hq, hg, s⟩ (by simp [AEx.to])
  | ret => exact h2 ⟨.ret, g', F, hp, rfl, hq, hg, s⟩ (by simp [AEx.to])

theorem After.mono_g {E : Env} {n : Nat} {g g1 : Gh} {Q : AEx → Fr → Hp → Prop} {e : Exit} {a : Act} {w : World} (hg : g.le g1) (h : After E n g1 Q e a w) : After E n g Q e a w := by
  obtain ⟨x, g', F, hp, e1, hq, h1, s⟩ := h
  exact ⟨x, g', F, hp, e1, hq, hg.trans h1, s⟩

theorem dst_all {n : Nat} {ops : Array Oper} (h : (ops.toList.all fun o => match o.dst with | some d => decide (d < n) | none => true) = true) : ∀ o ∈ ops.toList, ∀ d, o.dst = some d → d < n := by
  intro o ho d hd
  rw [List.all_eq_true] at h
  have := h o ho
  rw [hd] at this
  simpa using this

theorem awp_sound {E : Env} {H : Hint} {n : Nat} (hm : E.P.follows .mixedOrders = true) : ∀ (c : Code) (F : Fr) (h : Hp) (Q : AEx → Fr → Hp → Prop) (g : Gh) (a : Act) (w : World),
    awp E H c F h Q → dstOk n c = true → Sim E n g F h a w → c.wp E.P (After E n g Q) a w := by
  intro c
  induction c with
  | skip => intro F h Q g a w hw _ s; exact wp_skip ⟨.normal, g, F, h, rfl, hw, Gh.le.refl g, s⟩
  | label l => intro F h Q g a w hw _ s; exact wp_label ⟨.normal, g, F, h, rfl, hw, Gh.le.refl g, s⟩
  | ret => intro F h Q g a w hw _ s; exact wp_ret ⟨.ret, g, F, h, rfl, hw, Gh.le.refl g, s⟩
  | exit id => intro F h Q g a w hw _ s; exact wp_exit ⟨.exit id, g, F, h, rfl, hw, Gh.le.refl g, s⟩
  | seq x y ihx ihy =>
    intro F h Q g a w hw hd s
    simp only [dstOk, Bool.and_eq_true] at hd
    refine wp_seq (wp_mono (ihx F h _ g a w hw hd.1 s) fun e a' w' q => ?_)
    exact after_then q (fun F' h' g' hn hg s' => wp_mono (ihy F' h' Q g' a' w' hn hd.2 s') fun e a w q => q.mono_g hg) fun q _ => q
  | block id b ih =>
    intro F h Q g a w hw hd s
    refine wp_block (wp_mono (ih F h _ g a w hw hd s) fun e a' w' q => ?_)
    obtain ⟨x, g', F', h', rfl, hq, hg, s'⟩ := q
    cases x with
    | normal => exact ⟨.normal, g', F', h', rfl, hq, hg, s'⟩
    | exit i =>
      simp only [AEx.to, Exit.inBlock, inBlockA] at *
      split
      · rename_i hi; rw [if_pos hi] at hq; exact ⟨.normal, g', F', h', rfl, hq, hg, s'⟩
      · rename_i hi; rw [if_neg hi] at hq; exact ⟨.exit i, g', F', h', rfl, hq, hg, s'⟩
    | ret => exact ⟨.ret, g', F', h', rfl, hq, hg, s'⟩
  | cond c x y ihx ihy =>
    intro F h Q g a w hw hd s
    simp only [dstOk, Bool.and_eq_true] at hd
    simp only [awp] at hw
    have hr := ev_rep s c
    split at hw
    · rename_i t ht
      rw [ht] at hr
      refine wp_cond hr.bool_inv ?_
      cases t with
      | true => exact ihx F h Q g a w (hw.1 rfl) hd.1 s
      | false => exact ihy F h Q g a w (hw.2 rfl) hd.2 s
    · exact hw.elim
  | loop b ih =>
    intro F h Q g a w hw hd s
    obtain ⟨I, ⟨n0, h0⟩, hround⟩ := hw
    refine wp_loop_ghost (fun k a w => ∃ g' F h, I k F h ∧ g.le g' ∧ Sim E n g' F h a w) n0 ⟨g, F, h, h0, Gh.le.refl g, s⟩ ?_
    rintro k a1 w1 ⟨g1, F1, h1, hI, hg1, s1⟩
    refine wp_mono (ih F1 h1 _ g1 a1 w1 (hround k F1 h1 hI) hd s1) fun e a' w' q => ?_
    exact after_then q (fun F' h' g' hn hg s' => by obtain ⟨m, hm1, hm2⟩ := hn; exact ⟨m, hm1, g', F', h', hm2, hg1.trans hg, s'⟩) fun q _ => q.mono_g hg1
  | region id ops draw =>
    intro F h Q g a w hw hd s
    have hdst := dst_all (n := n) (ops := ops) hd
    simp only [awp] at hw
    cases draw with
    | false =>
      refine wp_region_list (W_sound (n := n) (g0 := g) ops.toList F h g a w hw s (Gh.le.refl g) hdst fun F' h' g' a' w' hk hg s' => ⟨.normal, g', F', h', rfl, hk, hg, s'⟩)
    | true =>
      obtain ⟨hl, hD⟩ := hw
      have sd : Sim E n g F h a { w with drawn := w.drawn + 1 } := ⟨s.simH.world rfl rfl rfl fun _ _ => rfl, s.defers, s.size, s.frame⟩
      refine wp_region_any hm ?_
      refine wpAny_of_A (n := n) (g0 := g) (md := H.md) (K := fun s => Q .normal s.1 s.2) (fun i o ho => hdst o ?_) (fun F' h' g' a' w' hk hg s' => ⟨.normal, g', F', h', rfl, hk, hg, s'⟩) ops.size _ F h g a _ ?_ (Gh.le.refl g) sd
      · have : ops.toList[i]? = some o := by simpa using ho
        exact List.mem_of_getElem? this
      · have := anyA_lex (E := E) (md := H.md) (ops := ops) (K := Q .normal) ops.toList 0 (Array.replicate ops.size false) F h (by simp) (by simpa [lexA] using hl) hD
        simpa using this
  | _ => intro F h Q g a w hw _ s; simp only [awp] at hw

/- results -/
def ares1 (P : Program) (h : Hp) (F : Fr) : ResultVar → Option AV
  | .tmp t => some (F t)
  | .cell a t => match F a with
    | .ptr b i j => aLoad P h t (.ptr b i j)
    | _ => none
def aresL (P : Program) (h : Hp) (F : Fr) : List ResultVar → Option (List AV)
  | [] => some []
  | r :: l => match ares1 P h F r, aresL P h F l with
    | some v, some vs => some (v :: vs)
    | _, _ => none
def ares (P : Program) (h : Hp) (F : Fr) : List ResultVar → Option AV
  | [r] => ares1 P h F r
  | l => match aresL P h F l with
    | some vs => some (.tup vs)
    | none => none

def resOne (tmps : Array Value) : ResultVar → Sem Value
  | .tmp t => pure (tmps.getD t undef)
  | .cell a t => do loadVar t (← asAddr (tmps.getD a undef))

theorem ares1_sound {E : Env} {n : Nat} {g : Gh} {F : Fr} {h : Hp} {a : Act} {w : World} {r : ResultVar} {v : AV} (s : Sim E n g F h a w) (hr : ares1 E.P h F r = some v) : ∃ cv, (resOne a.tmps r).run E.P w = .ok cv w ∧ Rep g v cv := by
  cases r with
  | tmp t => simp only [ares1] at hr; cases hr; exact ⟨_, rfl, s.frame t⟩
  | cell x t =>
    simp only [ares1] at hr
    have hx := s.frame x
    split at hr
    · rename_i b i j hb
      rw [hb] at hx
      obtain ⟨cv, h1, h2⟩ := load_sound s.simH hr hx
      obtain ⟨l, _, he⟩ := hx.ptr_inv
      rw [he] at h1
      refine ⟨cv, ?_, h2⟩
      simp only [resOne, he, asAddr, Sem.run_bind, Sem.run_pure, Result.andThen_ok]
      simpa [Instr.loadAt, Instr.sureAddr] using h1
    · cases hr

theorem aresL_sound {E : Env} {n : Nat} {g : Gh} {F : Fr} {h : Hp} {a : Act} {w : World} (s : Sim E n g F h a w) : ∀ (l : List ResultVar) (vs : List AV), aresL E.P h F l = some vs →
    ∃ cvs : List Value, (l.mapM (resOne a.tmps)).run E.P w = .ok cvs w ∧ cvs.length = vs.length ∧ ∀ (i : Nat) (v : AV) (cv : Value), vs[i]? = some v → cvs[i]? = some cv → Rep g v cv
  | [], vs, hr => by simp [aresL] at hr; subst hr; exact ⟨[], by simp, rfl, by simp⟩
  | r :: l, vs, hr => by
    simp only [aresL] at hr
    cases h1 : ares1 E.P h F r with
    | none => simp [h1] at hr
    | some v =>
      cases h2 : aresL E.P h F l with
      | none => simp [h1, h2] at hr
      | some vs' =>
        simp [h1, h2] at hr
        subst hr
        obtain ⟨cv, k1, k2⟩ := ares1_sound s h1
        obtain ⟨cvs, q1, q2, q3⟩ := aresL_sound s l vs' h2
        refine ⟨cv :: cvs, by simp [List.mapM_cons, k1, q1], by simp [q2], fun i v' cv' p q => ?_⟩
        cases i with
        | zero => simp at p q; subst p q; exact k2
        | succ i => exact q3 i v' cv' (by simpa using p) (by simpa using q)

theorem results_eq (fn : Func) (tmps : Array Value) : results fn tmps = (do let vs ← fn.results.mapM (resOne tmps); pure (if h : vs.size = 1 then vs[0] else .tuple vs) : Sem Value) := by
  unfold results
  congr 2

theorem ares_sound {E : Env} {n : Nat} {g : Gh} {F : Fr} {h : Hp} {a : Act} {w : World} {fn : Func} {v : AV} (s : Sim E n g F h a w) (hr : ares E.P h F fn.results.toList = some v) : ∃ cv, (results fn a.tmps).run E.P w = .ok cv w ∧ Rep g v cv := by
  have hmap : ∀ cvs : List Value, (fn.results.toList.mapM (resOne a.tmps)).run E.P w = .ok cvs w → (fn.results.mapM (resOne a.tmps)).run E.P w = .ok cvs.toArray w := by
    intro cvs hc
    rw [Array.mapM_eq_mapM_toList]
    simp only [Sem.run_map, hc, Result.andThen_ok]
  rw [results_eq]
  unfold ares at hr
  split at hr
  · rename_i r hl
    obtain ⟨cv, h1, h2⟩ := ares1_sound s hr
    have := hmap [cv] (by rw [hl]; simp [h1])
    exact ⟨cv, by simp [this], h2⟩
  · rename_i hl
    split at hr
    · rename_i vs hvs
      cases hr
      obtain ⟨cvs, q1, q2, q3⟩ := aresL_sound s _ _ hvs
      have hne : ¬ (cvs.length = 1) := by
        intro h1
        have : fn.results.toList.length = 1 := by
          have : ∀ (l : List ResultVar) (vs : List AV), aresL E.P h F l = some vs → vs.length = l.length := by
            intro l
            induction l with
            | nil => intro vs hv; simp [aresL] at hv; subst hv; rfl
            | cons r l ih =>
              intro vs hv
              simp only [aresL] at hv
              split at hv
              · rename_i v' vs' e1 e2; cases hv; simp [ih vs' e2]
              · cases hv
          have := this _ _ hvs
          omega
        match hx : fn.results.toList, this with
        | [r], _ => exact hl r hx
      have := hmap cvs q1
      exact ⟨.tuple cvs.toArray, by simp [this, hne], .tup _ _ (by simpa using q2) (by simpa using q3)⟩
    · cases hr

/- a function -/
def frameOf : List AV → Fr
  | [] => fun _ => undefA
  | v :: r => fun i => match i with
    | 0 => v
    | i + 1 => frameOf r i
theorem frameOf_zero (v : AV) (r : List AV) : frameOf (v :: r) 0 = v := rfl
theorem frameOf_succ (v : AV) (r : List AV) (i : Nat) : frameOf (v :: r) (i + 1) = frameOf r i := rfl
theorem frameOf_nil (i : Nat) : frameOf [] i = undefA := rfl
theorem frameOf_get : ∀ (l : List AV) (i : Nat), frameOf l i = (l[i]?).getD undefA
  | [], i => by simp [frameOf]
  | v :: r, 0 => by simp [frameOf]
  | v :: r, i + 1 => by simp [frameOf, frameOf_get r i]

/-- THE RULE OF A FUNCTION -/
theorem acalls_of {E : Env} {H : Hint} {f : FuncId} {fn : Func} {c : Code} {args : List AV} {h : Hp} {R : AV → Hp → Prop} (hm : E.P.follows .mixedOrders = true) (hf : E.P.funcs[f]? = some fn) (hb : fn.body = some c)
    (hname : (fn.name == "runtime.NumGoroutine") = false) (hok : dstOk fn.ntmps c = true) (hn : args.length ≤ fn.ntmps)
    (hw : awp E H c (frameOf args) h (fun e F h' => (match e with | .exit _ => False | _ => True) ∧ ∃ r, ares E.P h' F fn.results.toList = some r ∧ R r h')) : ACalls E f args h R := by
  refine ⟨⟨fn, hf, by simp [hb], hname⟩, fun g w cargs S ha => ?_⟩
  refine calls_of_wp hf hb ?_
  have s : Sim E fn.ntmps g (frameOf args) h { tmps := cargs ++ Array.replicate (fn.ntmps - cargs.size) undef, defers := [] } w := by
    refine ⟨S, rfl, by simp [ha.1]; omega, fun i => ?_⟩
    rw [frameOf_get]
    simp only [Array.getD_eq_getD_getElem?, Array.getElem?_append]
    split
    · rename_i hi
      have h1 : i < args.length := by rw [← ha.1]; exact hi
      rw [List.getElem?_eq_getElem h1]
      have := ha.2 i args[i] cargs[i] (by simp [h1]) (by simp [hi])
      simpa [hi] using this
    · rename_i hi
      have h1 : args.length ≤ i := by rw [← ha.1]; omega
      rw [List.getElem?_eq_none h1, Array.getElem?_replicate]
      have h2 : (if i - cargs.size < fn.ntmps - cargs.size then some undef else none).getD undef = undef := by split <;> rfl
      simp only [Option.getD_none]
      rw [h2]
      exact Rep.undef g
  refine wp_mono (awp_sound hm c _ _ _ g _ w hw hok s) ?_
  rintro e a' w' ⟨x, g', F', h', rfl, ⟨hx, r, hr, hR⟩, hg, s'⟩
  obtain ⟨cv, q1, q2⟩ := ares_sound s' hr
  cases x with
  | normal => exact ⟨s'.defers, cv, q1, r, cv, g', h', rfl, hR, hg, s'.simH, q2⟩
  | ret => exact ⟨s'.defers, cv, q1, r, cv, g', h', rfl, hR, hg, s'.simH, q2⟩
  | exit id => exact hx.elim

/- freezing -/
def frzF (n : Nat) (h : Hp) : Nat → AV → AV
  | 0, _ => .junk
  | d + 1, v => match v with
    | .own b off len => if b < n then .junk else match h[b]? with
      | some (.live k xs) => if off + len ≤ xs.length ∧ (((xs.drop off).take len).map (·.map (frzF n h d))).all (·.all AV.leaf) = true then .sl .any k (((xs.drop off).take len).map (·.map (frzF n h d))) else .junk
      | _ => .junk
    | .ptr _ _ _ => .junk
    | .fn f a b => match a, b with
      | [], [] => .fn f [] []
      | _, _ => .junk
    | .agg cs => .agg (cs.map (frzF n h d))
    | .tup cs => .tup (cs.map (frzF n h d))
    | v => v
end Go.Proofs.YtpdohkcjhphibaaDoor.Sm
