/- Readers of this seat's types, and the keywords that are laid; no condition. -/
import Derived.Test.YtpdohkcjhphibaaDoorSh
import Derived.Test.YtpdohkcjhphibaaDoorB9
import Derived.LaidMore
set_option linter.unusedVariables false
namespace Go.Proofs.YtpdohkcjhphibaaDoor.Bins
open Go Go.Proofs.YtpdohkcjhphibaaDoor.Sm

def okR (r : Rng) (_ : Nat) : Prop := (-9223372036854775808 ≤ r.lo ∧ r.lo ≤ 9223372036854775807) ∧ (-9223372036854775808 ≤ r.hi ∧ r.hi ≤ 9223372036854775807)
theorem cl3 : Tryd.prog.cellsOf 3 = 1 := by kernel_rfl
theorem cl9 : Tryd.prog.cellsOf 9 = 1 := by kernel_rfl
theorem cl22 : Tryd.prog.cellsOf 22 = 1 := by kernel_rfl
theorem cl27 : Tryd.prog.cellsOf 27 = 1 := by kernel_rfl
theorem cl33 : Tryd.prog.cellsOf 33 = 2 := by kernel_rfl
theorem cl29 : Tryd.prog.cellsOf 29 = 4 := by kernel_rfl
theorem rdI : Rd Tryd.prog 3 encI okI := rd_int Tryd.underlying3
theorem rdStr : Rd Tryd.prog 9 encStr okS := rd_str Tryd.underlying9
theorem rdR : Rd Tryd.prog 33 encR okR := by
  intro n
  cases n with
  | zero => exact RdAt.zero
  | succ n =>
    refine RdAt.map (fun x : Int × Int × Unit => (⟨x.1, x.2.1⟩ : Rng)) (rd_struct Tryd.underlying33 (rdf_cons rfl cl3 (fun _ => rfl) (rdI n) (rdf_cons rfl cl3 (fun _ => rfl) (rdI n) rdf_nil))) (fun _ => rfl) ?_
    rintro ⟨a, b, _⟩ N ⟨_, _, _, _, _, h1, _, _, _, h2, _⟩
    exact ⟨h1, h2⟩
def okRs (x : Rs) (b : Nat) : Prop := okL okR x.l b
theorem okL_up {α : Type} {ok : α → Nat → Prop} {xs : List α} {b : Nat} (h : ∃ b', b' + 1 ≤ b ∧ okL ok xs b') : okL ok xs b := by obtain ⟨b', h1, h2⟩ := h; exact h2.mono (by omega)
theorem rdRs : Rd Tryd.prog 22 encS okRs := by
  intro n
  cases n with
  | zero => exact RdAt.zero
  | succ n => exact RdAt.map (fun x : SM × List Rng => (⟨x.1, x.2⟩ : Rs)) (rd_slice Tryd.underlying22 cl33 (by decide) encR_len (rdR n)) (fun _ => rfl) (fun x b h => okL_up h)
/-- a slice of numbers -/
structure Is where
  m : SM
  l : List Int
def encIs (x : Is) : List AV := [.sl x.m 1 (x.l.map encI)]
theorem rdIs : Rd Tryd.prog 30 encIs (fun x b => okL okI x.l b) := by
  intro n
  cases n with
  | zero => exact RdAt.zero
  | succ n => exact RdAt.map (fun x : SM × List Int => (⟨x.1, x.2⟩ : Is)) (rd_slice Tryd.underlying30 cl3 (by decide) (fun _ => rfl) (rdI n)) (fun _ => rfl) (fun x b h => okL_up h)
def okB (x : Bin) (b : Nat) : Prop := ∃ b1 b2 b3, b1 + b2 + b3 ≤ b ∧ okS x.name b1 ∧ okI x.kind 0 ∧ okRs x.ranges b2 ∧ okL okRs x.steps b3
theorem rdB : Rd Tryd.prog 29 encB okB := by
  intro n
  match n with
  | 0 => exact RdAt.zero
  | 1 =>
    intro H ench w cs d ps h
    obtain ⟨zs, m, hm, _, _, hl, hz⟩ := DataW.trod_struct Tryd.underlying29 h
    obtain rfl : m = 0 := by omega
    have := hz 0 _ rfl
    simp only [DataW.trod] at this
    have h0 : zs = [] := by cases zs with
      | nil => rfl
      | cons a l => simp at this
    subst h0; simp at hl
  | n + 2 =>
    have rdSt : RdAt Tryd.prog (n + 1) 27 (fun x : SM × List Rs => [.sl x.1 1 (x.2.map encS)]) (fun x b => ∃ b', b' + 1 ≤ b ∧ okL okRs x.2 b') := rd_slice Tryd.underlying27 cl22 (by decide) (fun _ => rfl) (rdRs n)
    refine RdAt.map (fun x : ByteArray × Int × Rs × (SM × List Rs) × Unit => (⟨x.1, x.2.1, x.2.2.1, x.2.2.2.1.1, x.2.2.2.1.2⟩ : Bin))
      (rd_struct Tryd.underlying29 (rdf_cons rfl cl9 (fun _ => rfl) (rdStr _) (rdf_cons rfl cl3 (fun _ => rfl) (rdI _) (rdf_cons rfl cl22 (fun _ => rfl) (rdRs _) (rdf_cons rfl cl27 (fun _ => rfl) rdSt rdf_nil))))) (fun _ => rfl) ?_
    rintro ⟨a, b, c, d, _⟩ N ⟨_, hN, b1, b2, hb, h1, b3, b4, hb2, h2, b5, b6, hb3, h3, b7, b8, hb4, h4, _⟩
    exact ⟨b1, b5, b7, by omega, h1, h2, h3, okL_up h4⟩

/-- what the listed variables hold -/
noncomputable def laidG : Nat → AV := fun n => if n = 0 then .fptr 1 [[.sl .any 1 (kw.map encStr)]] 0 0 else .junk
theorem laidG_kw : KwG laidG := ⟨.any, rfl⟩
theorem kw_datum {H : Type} : (Rows.laid_testbench_lexer_keywords : DataW H) = .slice (kw.map fun s => .lit (.string s.data.toList)) [] := rfl
theorem laid_kw {W : World} (h : laidMetH Tryd.prog [("math/bits.deBruijn32tab", Rows.laid_math_bits_deBruijn32tab), ("math/bits.deBruijn64tab", Rows.laid_math_bits_deBruijn64tab), ("internal/strconv.uint64pow10", Rows.laid_internal_strconv_uint64pow10), ("testbench/lexer.keywords", Rows.laid_testbench_lexer_keywords)] W) :
    ∀ n, RepF (M0 W) (laidG n) (.pointer (some ⟨n, 0, none⟩)) := by
  rw [MakeChecks.laidMetH_plain _ _ _ (by kernel_rfl)] at h
  obtain ⟨ps, ⟨g0, t0, cs0, f0, p0, q0, hg0, ht0, hv0, hd0, ⟨g1, t1, cs1, f1, p1, q1, hg1, ht1, hv1, hd1, ⟨g2, t2, cs2, f2, p2, q2, hg2, ht2, hv2, hd2, ⟨g3, t3, cs3, f3, p3, q3, hg3, ht3, hv3, hd3, _, _⟩, _⟩, _⟩, _⟩, _, _⟩ := h
  have hgk : Tryd.prog.globalNamed "testbench/lexer.keywords" = some 0 := by kernel_rfl
  have htk : (Tryd.prog.globals[0]?).map (·.type) = some 79 := by kernel_rfl
  obtain rfl := Option.some.inj (hgk.symm.trans hg3)
  obtain rfl := Option.some.inj (htk.symm.trans ht3)
  obtain ⟨c, h1, h2⟩ := laid_strs Tryd.underlying79 Tryd.underlying9 cl9 kw_datum hd3
  intro n
  unfold laidG
  split
  · rename_i hn; subst hn
    exact var_one hg3 hv3 h1 h2 rfl
  · exact .junk _
theorem laidG_En : (En laidG).G = laidG := rfl
end Go.Proofs.YtpdohkcjhphibaaDoor.Bins
