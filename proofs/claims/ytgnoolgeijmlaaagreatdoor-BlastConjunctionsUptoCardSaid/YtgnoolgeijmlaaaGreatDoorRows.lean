/-
  NARROWER THAN 'FOR EVERY INPUT', by the rows' own cells (each row's printed sentence says how): BlastLevels: loops, laid · BlastTruths: loops, laid · BlastConjunctions: loops, laid · BlastWords: loops, laid · BlastAgrees: loops, laid · BlastExtends: loops, laid · BlastEqual: loops, laid.
  DERIVED. THE GIVEN ROWS OF THIS SEAT. 7 by the template 'for every input the law returns true; each argument reads behind the call as it read before'; 0 by the template 'total and deterministic' (their statements: YtgnoolgeijmlaaaGreatDoorTotals.lean).
  GIVEN WITH THE SEED: the statements are not yours to turn. If you find one false, say at which input.
  Laid BY PROGRAM, IN A SANDBOX (cutbox-rows.mjs): the forced cells as the released guide's own fill.sh prints them over the translation 3bafbac447c862f1… (all of the seat's roots in one cut). By AI agents, Wed Nov 11 2026. No macro, syntax, notation, axiom, sorry.
-/
import Derived.Test.YtgnoolgeijmlaaaGreatDoorChecked
import GoSem.Claim
import GoSem.ClaimJoined
import GoSem.ClaimMapViews
import Derived.JoinedTies
import Derived.KernelRfl
namespace Go.Proofs.YtgnoolgeijmlaaaGreatDoor
/- THE CELL 'sum', in the pinned program and in every row, IS THE sha256 OF THE DUMP (.gsa) THAT YtgnoolgeijmlaaaGreatDoorProg.lean LOADS. Nothing in Lean hashes anything: it is a label: what it is worth is what the hold of that sum in a sandbox is worth. -/
noncomputable def Tryz.pinned : Pinned := { name := "ytgnoolgeijmlaaagreatdoor", sum := "3bafbac447c862f156ac7eddd7bb52e739f692e96bc2339865b54f7d222dfe42", checked := Tryz.checked }
namespace Rows
def none {H : Type} : Left H := { results := [], args := [] }

/- WHAT THE LISTED PACKAGE-LEVEL VARIABLES READ AS WHEN THE CALL BEGINS. Each datum BY PROGRAM (the guide's laid-datum.mjs) off the statement by which the dump's own 'gosem.cut.vars' lays the variable. In a bare row this is a premise. The card (YtgnoolgeijmlaaaGreatDoorCards.lean) ties it to the program's text. -/
def laid_math_bits_deBruijn32tab {H : Type} : DataW H := .agg [.lit (.int .u8 0), .lit (.int .u8 1), .lit (.int .u8 28), .lit (.int .u8 2), .lit (.int .u8 29), .lit (.int .u8 14), .lit (.int .u8 24), .lit (.int .u8 3), .lit (.int .u8 30), .lit (.int .u8 22), .lit (.int .u8 20), .lit (.int .u8 15), .lit (.int .u8 25), .lit (.int .u8 17), .lit (.int .u8 4), .lit (.int .u8 8), .lit (.int .u8 31), .lit (.int .u8 27), .lit (.int .u8 13), .lit (.int .u8 23), .lit (.int .u8 21), .lit (.int .u8 19), .lit (.int .u8 16), .lit (.int .u8 7), .lit (.int .u8 26), .lit (.int .u8 12), .lit (.int .u8 18), .lit (.int .u8 6), .lit (.int .u8 11), .lit (.int .u8 5), .lit (.int .u8 10), .lit (.int .u8 9)]
def laid_math_bits_deBruijn64tab {H : Type} : DataW H := .agg [.lit (.int .u8 0), .lit (.int .u8 1), .lit (.int .u8 56), .lit (.int .u8 2), .lit (.int .u8 57), .lit (.int .u8 49), .lit (.int .u8 28), .lit (.int .u8 3), .lit (.int .u8 61), .lit (.int .u8 58), .lit (.int .u8 42), .lit (.int .u8 50), .lit (.int .u8 38), .lit (.int .u8 29), .lit (.int .u8 17), .lit (.int .u8 4), .lit (.int .u8 62), .lit (.int .u8 47), .lit (.int .u8 59), .lit (.int .u8 36), .lit (.int .u8 45), .lit (.int .u8 43), .lit (.int .u8 51), .lit (.int .u8 22), .lit (.int .u8 53), .lit (.int .u8 39), .lit (.int .u8 33), .lit (.int .u8 30), .lit (.int .u8 24), .lit (.int .u8 18), .lit (.int .u8 12), .lit (.int .u8 5), .lit (.int .u8 63), .lit (.int .u8 55), .lit (.int .u8 48), .lit (.int .u8 27), .lit (.int .u8 60), .lit (.int .u8 41), .lit (.int .u8 37), .lit (.int .u8 16), .lit (.int .u8 46), .lit (.int .u8 35), .lit (.int .u8 44), .lit (.int .u8 21), .lit (.int .u8 52), .lit (.int .u8 32), .lit (.int .u8 23), .lit (.int .u8 11), .lit (.int .u8 54), .lit (.int .u8 26), .lit (.int .u8 40), .lit (.int .u8 15), .lit (.int .u8 34), .lit (.int .u8 20), .lit (.int .u8 31), .lit (.int .u8 10), .lit (.int .u8 25), .lit (.int .u8 14), .lit (.int .u8 19), .lit (.int .u8 9), .lit (.int .u8 13), .lit (.int .u8 8), .lit (.int .u8 7), .lit (.int .u8 6)]
def laid_internal_strconv_uint64pow10 {H : Type} : DataW H := .agg [.lit (.int .u64 1), .lit (.int .u64 10), .lit (.int .u64 100), .lit (.int .u64 1000), .lit (.int .u64 10000), .lit (.int .u64 100000), .lit (.int .u64 1000000), .lit (.int .u64 10000000), .lit (.int .u64 100000000), .lit (.int .u64 1000000000), .lit (.int .u64 10000000000), .lit (.int .u64 100000000000), .lit (.int .u64 1000000000000), .lit (.int .u64 10000000000000), .lit (.int .u64 100000000000000), .lit (.int .u64 1000000000000000), .lit (.int .u64 10000000000000000), .lit (.int .u64 100000000000000000), .lit (.int .u64 1000000000000000000), .lit (.int .u64 10000000000000000000)]
def laid_testbench_lexer_keywords {H : Type} : DataW H := .slice [.lit (.string [99, 108, 97, 115, 115]), .lit (.string [101, 120, 116, 101, 110, 100, 115]), .lit (.string [114, 97, 110, 100]), .lit (.string [114, 97, 110, 100, 99]), .lit (.string [115, 116, 97, 116, 101]), .lit (.string [99, 111, 110, 115, 116, 114, 97, 105, 110, 116]), .lit (.string [115, 111, 102, 116]), .lit (.string [100, 105, 115, 116]), .lit (.string [105, 102]), .lit (.string [101, 108, 115, 101]), .lit (.string [101, 97, 99, 104]), .lit (.string [105, 110]), .lit (.string [115, 111, 108, 118, 101]), .lit (.string [98, 101, 102, 111, 114, 101]), .lit (.string [105, 110, 115, 105, 100, 101]), .lit (.string [112, 114, 111, 112, 101, 114, 116, 121]), .lit (.string [115, 101, 113]), .lit (.string [97, 110, 100]), .lit (.string [111, 114]), .lit (.string [110, 111, 116]), .lit (.string [115, 101, 116]), .lit (.string [104, 111, 108, 100]), .lit (.string [112, 108, 97, 105, 110]), .lit (.string [114, 101, 112, 101, 97, 116])] []

/-- 'testbenchlaw16.BlastLevels': WHATEVER THE INPUT: true; the input reads as it did. -/
def blastLevelsSpec : ChangeSpec := { name := "blastLevels", fn := fun _ => fun
  | [d] => { results := [.lit (.bool true)], args := [d] }
  | _ => none }
def blastLevelsRow : OpenClaim := { program := "ytgnoolgeijmlaaagreatdoor", sum := "3bafbac447c862f156ac7eddd7bb52e739f692e96bc2339865b54f7d222dfe42", func := "testbench/testbenchlaw16.BlastLevels", spec := "blastLevels", inPlace := ["internal/bytealg.IndexByteString", "internal/bytealg.IndexString"], unfollowed := true, recurses := true, named := ["testbench/lexer.keywords", "internal/bytealg.MaxLen", "internal/strconv.uint64pow10", "math/bits.deBruijn32tab", "math/bits.deBruijn64tab"], loops := true, plainKeys := false, apart := false, laid := [("math/bits.deBruijn32tab", laid_math_bits_deBruijn32tab), ("math/bits.deBruijn64tab", laid_math_bits_deBruijn64tab), ("internal/strconv.uint64pow10", laid_internal_strconv_uint64pow10), ("testbench/lexer.keywords", laid_testbench_lexer_keywords)] }
def BlastLevelsSaid : Prop := blastLevelsRow.holds Tryz.pinned (OpenSpec.ofChange blastLevelsSpec)

/-- ITS FALSE NEIGHBOUR: 'it returns false'. Refute it at one input. -/
def blastLevelsWrong : ChangeSpec := { name := "blastLevels", fn := fun _ => fun
  | [d] => { results := [.lit (.bool false)], args := [d] }
  | _ => none }
def BlastLevelsWrongFalsely : Prop := blastLevelsRow.holds Tryz.pinned (OpenSpec.ofChange blastLevelsWrong)

/-- 'testbenchlaw16.BlastTruths': WHATEVER THE INPUT: true; the input reads as it did. -/
def blastTruthsSpec : ChangeSpec := { name := "blastTruths", fn := fun _ => fun
  | [d1, d2, d3] => { results := [.lit (.bool true)], args := [d1, d2, d3] }
  | _ => none }
def blastTruthsRow : OpenClaim := { program := "ytgnoolgeijmlaaagreatdoor", sum := "3bafbac447c862f156ac7eddd7bb52e739f692e96bc2339865b54f7d222dfe42", func := "testbench/testbenchlaw16.BlastTruths", spec := "blastTruths", inPlace := ["internal/bytealg.IndexByteString", "internal/bytealg.IndexString"], unfollowed := true, recurses := true, named := ["testbench/lexer.keywords", "internal/bytealg.MaxLen", "internal/strconv.uint64pow10", "math/bits.deBruijn32tab", "math/bits.deBruijn64tab"], loops := true, plainKeys := false, apart := false, laid := [("math/bits.deBruijn32tab", laid_math_bits_deBruijn32tab), ("math/bits.deBruijn64tab", laid_math_bits_deBruijn64tab), ("internal/strconv.uint64pow10", laid_internal_strconv_uint64pow10), ("testbench/lexer.keywords", laid_testbench_lexer_keywords)] }
def BlastTruthsSaid : Prop := blastTruthsRow.holds Tryz.pinned (OpenSpec.ofChange blastTruthsSpec)

/-- ITS FALSE NEIGHBOUR: 'it returns false'. Refute it at one input. -/
def blastTruthsWrong : ChangeSpec := { name := "blastTruths", fn := fun _ => fun
  | [d1, d2, d3] => { results := [.lit (.bool false)], args := [d1, d2, d3] }
  | _ => none }
def BlastTruthsWrongFalsely : Prop := blastTruthsRow.holds Tryz.pinned (OpenSpec.ofChange blastTruthsWrong)

/-- 'testbenchlaw16.BlastConjunctions': WHATEVER THE INPUT: true; the input reads as it did. -/
def blastConjunctionsSpec : ChangeSpec := { name := "blastConjunctions", fn := fun _ => fun
  | [d1, d2] => { results := [.lit (.bool true)], args := [d1, d2] }
  | _ => none }
def blastConjunctionsRow : OpenClaim := { program := "ytgnoolgeijmlaaagreatdoor", sum := "3bafbac447c862f156ac7eddd7bb52e739f692e96bc2339865b54f7d222dfe42", func := "testbench/testbenchlaw16.BlastConjunctions", spec := "blastConjunctions", inPlace := ["internal/bytealg.IndexByteString", "internal/bytealg.IndexString"], unfollowed := true, recurses := true, named := ["testbench/lexer.keywords", "internal/bytealg.MaxLen", "internal/strconv.uint64pow10", "math/bits.deBruijn32tab", "math/bits.deBruijn64tab"], loops := true, plainKeys := false, apart := false, laid := [("math/bits.deBruijn32tab", laid_math_bits_deBruijn32tab), ("math/bits.deBruijn64tab", laid_math_bits_deBruijn64tab), ("internal/strconv.uint64pow10", laid_internal_strconv_uint64pow10), ("testbench/lexer.keywords", laid_testbench_lexer_keywords)] }
def BlastConjunctionsSaid : Prop := blastConjunctionsRow.holds Tryz.pinned (OpenSpec.ofChange blastConjunctionsSpec)

/-- ITS FALSE NEIGHBOUR: 'it returns false'. Refute it at one input. -/
def blastConjunctionsWrong : ChangeSpec := { name := "blastConjunctions", fn := fun _ => fun
  | [d1, d2] => { results := [.lit (.bool false)], args := [d1, d2] }
  | _ => none }
def BlastConjunctionsWrongFalsely : Prop := blastConjunctionsRow.holds Tryz.pinned (OpenSpec.ofChange blastConjunctionsWrong)

/-- 'testbenchlaw16.BlastWords': WHATEVER THE INPUT: true; the input reads as it did. -/
def blastWordsSpec : ChangeSpec := { name := "blastWords", fn := fun _ => fun
  | [d1, d2, d3] => { results := [.lit (.bool true)], args := [d1, d2, d3] }
  | _ => none }
def blastWordsRow : OpenClaim := { program := "ytgnoolgeijmlaaagreatdoor", sum := "3bafbac447c862f156ac7eddd7bb52e739f692e96bc2339865b54f7d222dfe42", func := "testbench/testbenchlaw16.BlastWords", spec := "blastWords", inPlace := ["internal/bytealg.IndexByteString", "internal/bytealg.IndexString"], unfollowed := true, recurses := true, named := ["testbench/lexer.keywords", "internal/bytealg.MaxLen", "internal/strconv.uint64pow10", "math/bits.deBruijn32tab", "math/bits.deBruijn64tab"], loops := true, plainKeys := false, apart := false, laid := [("math/bits.deBruijn32tab", laid_math_bits_deBruijn32tab), ("math/bits.deBruijn64tab", laid_math_bits_deBruijn64tab), ("internal/strconv.uint64pow10", laid_internal_strconv_uint64pow10), ("testbench/lexer.keywords", laid_testbench_lexer_keywords)] }
def BlastWordsSaid : Prop := blastWordsRow.holds Tryz.pinned (OpenSpec.ofChange blastWordsSpec)

/-- ITS FALSE NEIGHBOUR: 'it returns false'. Refute it at one input. -/
def blastWordsWrong : ChangeSpec := { name := "blastWords", fn := fun _ => fun
  | [d1, d2, d3] => { results := [.lit (.bool false)], args := [d1, d2, d3] }
  | _ => none }
def BlastWordsWrongFalsely : Prop := blastWordsRow.holds Tryz.pinned (OpenSpec.ofChange blastWordsWrong)

/-- 'testbenchlaw16.BlastAgrees': WHATEVER THE INPUT: true; the input reads as it did. -/
def blastAgreesSpec : ChangeSpec := { name := "blastAgrees", fn := fun _ => fun
  | [d1, d2] => { results := [.lit (.bool true)], args := [d1, d2] }
  | _ => none }
def blastAgreesRow : OpenClaim := { program := "ytgnoolgeijmlaaagreatdoor", sum := "3bafbac447c862f156ac7eddd7bb52e739f692e96bc2339865b54f7d222dfe42", func := "testbench/testbenchlaw16.BlastAgrees", spec := "blastAgrees", inPlace := ["internal/bytealg.IndexByteString", "internal/bytealg.IndexString"], unfollowed := true, recurses := true, named := ["testbench/lexer.keywords", "internal/bytealg.MaxLen", "internal/strconv.uint64pow10", "math/bits.deBruijn32tab", "math/bits.deBruijn64tab"], loops := true, plainKeys := false, apart := false, laid := [("math/bits.deBruijn32tab", laid_math_bits_deBruijn32tab), ("math/bits.deBruijn64tab", laid_math_bits_deBruijn64tab), ("internal/strconv.uint64pow10", laid_internal_strconv_uint64pow10), ("testbench/lexer.keywords", laid_testbench_lexer_keywords)] }
def BlastAgreesSaid : Prop := blastAgreesRow.holds Tryz.pinned (OpenSpec.ofChange blastAgreesSpec)

/-- ITS FALSE NEIGHBOUR: 'it returns false'. Refute it at one input. -/
def blastAgreesWrong : ChangeSpec := { name := "blastAgrees", fn := fun _ => fun
  | [d1, d2] => { results := [.lit (.bool false)], args := [d1, d2] }
  | _ => none }
def BlastAgreesWrongFalsely : Prop := blastAgreesRow.holds Tryz.pinned (OpenSpec.ofChange blastAgreesWrong)

/-- 'testbenchlaw16.BlastExtends': WHATEVER THE INPUT: true; the input reads as it did. -/
def blastExtendsSpec : ChangeSpec := { name := "blastExtends", fn := fun _ => fun
  | [d1, d2, d3] => { results := [.lit (.bool true)], args := [d1, d2, d3] }
  | _ => none }
def blastExtendsRow : OpenClaim := { program := "ytgnoolgeijmlaaagreatdoor", sum := "3bafbac447c862f156ac7eddd7bb52e739f692e96bc2339865b54f7d222dfe42", func := "testbench/testbenchlaw16.BlastExtends", spec := "blastExtends", inPlace := ["internal/bytealg.IndexByteString", "internal/bytealg.IndexString"], unfollowed := true, recurses := true, named := ["testbench/lexer.keywords", "internal/bytealg.MaxLen", "internal/strconv.uint64pow10", "math/bits.deBruijn32tab", "math/bits.deBruijn64tab"], loops := true, plainKeys := false, apart := false, laid := [("math/bits.deBruijn32tab", laid_math_bits_deBruijn32tab), ("math/bits.deBruijn64tab", laid_math_bits_deBruijn64tab), ("internal/strconv.uint64pow10", laid_internal_strconv_uint64pow10), ("testbench/lexer.keywords", laid_testbench_lexer_keywords)] }
def BlastExtendsSaid : Prop := blastExtendsRow.holds Tryz.pinned (OpenSpec.ofChange blastExtendsSpec)

/-- ITS FALSE NEIGHBOUR: 'it returns false'. Refute it at one input. -/
def blastExtendsWrong : ChangeSpec := { name := "blastExtends", fn := fun _ => fun
  | [d1, d2, d3] => { results := [.lit (.bool false)], args := [d1, d2, d3] }
  | _ => none }
def BlastExtendsWrongFalsely : Prop := blastExtendsRow.holds Tryz.pinned (OpenSpec.ofChange blastExtendsWrong)

/-- 'testbenchlaw16.BlastEqual': WHATEVER THE INPUT: true; the input reads as it did. -/
def blastEqualSpec : ChangeSpec := { name := "blastEqual", fn := fun _ => fun
  | [d1, d2] => { results := [.lit (.bool true)], args := [d1, d2] }
  | _ => none }
def blastEqualRow : OpenClaim := { program := "ytgnoolgeijmlaaagreatdoor", sum := "3bafbac447c862f156ac7eddd7bb52e739f692e96bc2339865b54f7d222dfe42", func := "testbench/testbenchlaw16.BlastEqual", spec := "blastEqual", inPlace := ["internal/bytealg.IndexByteString", "internal/bytealg.IndexString"], unfollowed := true, recurses := true, named := ["testbench/lexer.keywords", "internal/bytealg.MaxLen", "internal/strconv.uint64pow10", "math/bits.deBruijn32tab", "math/bits.deBruijn64tab"], loops := true, plainKeys := false, apart := false, laid := [("math/bits.deBruijn32tab", laid_math_bits_deBruijn32tab), ("math/bits.deBruijn64tab", laid_math_bits_deBruijn64tab), ("internal/strconv.uint64pow10", laid_internal_strconv_uint64pow10), ("testbench/lexer.keywords", laid_testbench_lexer_keywords)] }
def BlastEqualSaid : Prop := blastEqualRow.holds Tryz.pinned (OpenSpec.ofChange blastEqualSpec)

/-- ITS FALSE NEIGHBOUR: 'it returns false'. Refute it at one input. -/
def blastEqualWrong : ChangeSpec := { name := "blastEqual", fn := fun _ => fun
  | [d1, d2] => { results := [.lit (.bool false)], args := [d1, d2] }
  | _ => none }
def BlastEqualWrongFalsely : Prop := blastEqualRow.holds Tryz.pinned (OpenSpec.ofChange blastEqualWrong)

/- THE SECOND FORM. 'bulk': how many values and letters a reading holds, each counted each time it is reached (what is shared counts as often as it is met; a slice's spare places count too). A statement '..UptoSaid' is the law's where the arguments, and the package variables that the reading takes, are together of bulk at most 1048576: NARROWER than '..Said'. Prove '..Said' where nothing that the law and all that it calls make is longer than what came in: it says more and counts as full. Else prove '..UptoSaid'. A law counts once. -/
mutual
def uptoBulk {H : Type} : DataW H → Nat
  | .lit (.string bytes) => bytes.length + 1
  | .lit _ => 1
  | .nil => 1
  | .ptr d => uptoBulk d + 1
  | .slice elems spare => uptoBulkAll elems + uptoBulkAll spare + 1
  | .agg parts => uptoBulkAll parts + 1
  | .iface _ d => uptoBulk d + 1
  | .map entries => uptoBulkEntries entries + 1
  | .held _ => 1
def uptoBulkAll {H : Type} : List (DataW H) → Nat
  | [] => 0
  | d :: r => uptoBulk d + uptoBulkAll r
def uptoBulkEntries {H : Type} : List (Lit × DataW H) → Nat
  | [] => 0
  | x :: r => uptoBulkEntry x + uptoBulkEntries r
def uptoBulkEntry {H : Type} : Lit × DataW H → Nat
  | (.string bytes, d) => bytes.length + uptoBulk d + 1
  | (_, d) => uptoBulk d + 1
 end
def uptoSmall : (H : Type) → List (DataW H) → Bool := fun _ ds => decide (uptoBulkAll ds ≤ 1048576)
def OpenSpec.upto (s : _root_.Go.ChangeSpec) : _root_.Go.OpenSpec := { _root_.Go.OpenSpec.ofChange s with cond := some uptoSmall }

/-- 'testbenchlaw16.BlastLevels', WHERE WHAT IT READS IS OF BULK AT MOST 1048576: true; the input reads as it did. -/
def blastLevelsUptoRow : OpenClaim := { program := "ytgnoolgeijmlaaagreatdoor", sum := "3bafbac447c862f156ac7eddd7bb52e739f692e96bc2339865b54f7d222dfe42", func := "testbench/testbenchlaw16.BlastLevels", spec := "blastLevels", inPlace := ["internal/bytealg.IndexByteString", "internal/bytealg.IndexString"], unfollowed := true, recurses := true, named := ["testbench/lexer.keywords", "internal/bytealg.MaxLen", "internal/strconv.uint64pow10", "math/bits.deBruijn32tab", "math/bits.deBruijn64tab"], loops := true, plainKeys := false, apart := false, laid := [("math/bits.deBruijn32tab", laid_math_bits_deBruijn32tab), ("math/bits.deBruijn64tab", laid_math_bits_deBruijn64tab), ("internal/strconv.uint64pow10", laid_internal_strconv_uint64pow10), ("testbench/lexer.keywords", laid_testbench_lexer_keywords)], narrowed := true }
def BlastLevelsUptoSaid : Prop := blastLevelsUptoRow.holds Tryz.pinned (OpenSpec.upto blastLevelsSpec)

/-- 'testbenchlaw16.BlastTruths', WHERE WHAT IT READS IS OF BULK AT MOST 1048576: true; the input reads as it did. -/
def blastTruthsUptoRow : OpenClaim := { program := "ytgnoolgeijmlaaagreatdoor", sum := "3bafbac447c862f156ac7eddd7bb52e739f692e96bc2339865b54f7d222dfe42", func := "testbench/testbenchlaw16.BlastTruths", spec := "blastTruths", inPlace := ["internal/bytealg.IndexByteString", "internal/bytealg.IndexString"], unfollowed := true, recurses := true, named := ["testbench/lexer.keywords", "internal/bytealg.MaxLen", "internal/strconv.uint64pow10", "math/bits.deBruijn32tab", "math/bits.deBruijn64tab"], loops := true, plainKeys := false, apart := false, laid := [("math/bits.deBruijn32tab", laid_math_bits_deBruijn32tab), ("math/bits.deBruijn64tab", laid_math_bits_deBruijn64tab), ("internal/strconv.uint64pow10", laid_internal_strconv_uint64pow10), ("testbench/lexer.keywords", laid_testbench_lexer_keywords)], narrowed := true }
def BlastTruthsUptoSaid : Prop := blastTruthsUptoRow.holds Tryz.pinned (OpenSpec.upto blastTruthsSpec)

/-- 'testbenchlaw16.BlastConjunctions', WHERE WHAT IT READS IS OF BULK AT MOST 1048576: true; the input reads as it did. -/
def blastConjunctionsUptoRow : OpenClaim := { program := "ytgnoolgeijmlaaagreatdoor", sum := "3bafbac447c862f156ac7eddd7bb52e739f692e96bc2339865b54f7d222dfe42", func := "testbench/testbenchlaw16.BlastConjunctions", spec := "blastConjunctions", inPlace := ["internal/bytealg.IndexByteString", "internal/bytealg.IndexString"], unfollowed := true, recurses := true, named := ["testbench/lexer.keywords", "internal/bytealg.MaxLen", "internal/strconv.uint64pow10", "math/bits.deBruijn32tab", "math/bits.deBruijn64tab"], loops := true, plainKeys := false, apart := false, laid := [("math/bits.deBruijn32tab", laid_math_bits_deBruijn32tab), ("math/bits.deBruijn64tab", laid_math_bits_deBruijn64tab), ("internal/strconv.uint64pow10", laid_internal_strconv_uint64pow10), ("testbench/lexer.keywords", laid_testbench_lexer_keywords)], narrowed := true }
def BlastConjunctionsUptoSaid : Prop := blastConjunctionsUptoRow.holds Tryz.pinned (OpenSpec.upto blastConjunctionsSpec)

/-- 'testbenchlaw16.BlastWords', WHERE WHAT IT READS IS OF BULK AT MOST 1048576: true; the input reads as it did. -/
def blastWordsUptoRow : OpenClaim := { program := "ytgnoolgeijmlaaagreatdoor", sum := "3bafbac447c862f156ac7eddd7bb52e739f692e96bc2339865b54f7d222dfe42", func := "testbench/testbenchlaw16.BlastWords", spec := "blastWords", inPlace := ["internal/bytealg.IndexByteString", "internal/bytealg.IndexString"], unfollowed := true, recurses := true, named := ["testbench/lexer.keywords", "internal/bytealg.MaxLen", "internal/strconv.uint64pow10", "math/bits.deBruijn32tab", "math/bits.deBruijn64tab"], loops := true, plainKeys := false, apart := false, laid := [("math/bits.deBruijn32tab", laid_math_bits_deBruijn32tab), ("math/bits.deBruijn64tab", laid_math_bits_deBruijn64tab), ("internal/strconv.uint64pow10", laid_internal_strconv_uint64pow10), ("testbench/lexer.keywords", laid_testbench_lexer_keywords)], narrowed := true }
def BlastWordsUptoSaid : Prop := blastWordsUptoRow.holds Tryz.pinned (OpenSpec.upto blastWordsSpec)

/-- 'testbenchlaw16.BlastAgrees', WHERE WHAT IT READS IS OF BULK AT MOST 1048576: true; the input reads as it did. -/
def blastAgreesUptoRow : OpenClaim := { program := "ytgnoolgeijmlaaagreatdoor", sum := "3bafbac447c862f156ac7eddd7bb52e739f692e96bc2339865b54f7d222dfe42", func := "testbench/testbenchlaw16.BlastAgrees", spec := "blastAgrees", inPlace := ["internal/bytealg.IndexByteString", "internal/bytealg.IndexString"], unfollowed := true, recurses := true, named := ["testbench/lexer.keywords", "internal/bytealg.MaxLen", "internal/strconv.uint64pow10", "math/bits.deBruijn32tab", "math/bits.deBruijn64tab"], loops := true, plainKeys := false, apart := false, laid := [("math/bits.deBruijn32tab", laid_math_bits_deBruijn32tab), ("math/bits.deBruijn64tab", laid_math_bits_deBruijn64tab), ("internal/strconv.uint64pow10", laid_internal_strconv_uint64pow10), ("testbench/lexer.keywords", laid_testbench_lexer_keywords)], narrowed := true }
def BlastAgreesUptoSaid : Prop := blastAgreesUptoRow.holds Tryz.pinned (OpenSpec.upto blastAgreesSpec)

/-- 'testbenchlaw16.BlastExtends', WHERE WHAT IT READS IS OF BULK AT MOST 1048576: true; the input reads as it did. -/
def blastExtendsUptoRow : OpenClaim := { program := "ytgnoolgeijmlaaagreatdoor", sum := "3bafbac447c862f156ac7eddd7bb52e739f692e96bc2339865b54f7d222dfe42", func := "testbench/testbenchlaw16.BlastExtends", spec := "blastExtends", inPlace := ["internal/bytealg.IndexByteString", "internal/bytealg.IndexString"], unfollowed := true, recurses := true, named := ["testbench/lexer.keywords", "internal/bytealg.MaxLen", "internal/strconv.uint64pow10", "math/bits.deBruijn32tab", "math/bits.deBruijn64tab"], loops := true, plainKeys := false, apart := false, laid := [("math/bits.deBruijn32tab", laid_math_bits_deBruijn32tab), ("math/bits.deBruijn64tab", laid_math_bits_deBruijn64tab), ("internal/strconv.uint64pow10", laid_internal_strconv_uint64pow10), ("testbench/lexer.keywords", laid_testbench_lexer_keywords)], narrowed := true }
def BlastExtendsUptoSaid : Prop := blastExtendsUptoRow.holds Tryz.pinned (OpenSpec.upto blastExtendsSpec)

/-- 'testbenchlaw16.BlastEqual', WHERE WHAT IT READS IS OF BULK AT MOST 1048576: true; the input reads as it did. -/
def blastEqualUptoRow : OpenClaim := { program := "ytgnoolgeijmlaaagreatdoor", sum := "3bafbac447c862f156ac7eddd7bb52e739f692e96bc2339865b54f7d222dfe42", func := "testbench/testbenchlaw16.BlastEqual", spec := "blastEqual", inPlace := ["internal/bytealg.IndexByteString", "internal/bytealg.IndexString"], unfollowed := true, recurses := true, named := ["testbench/lexer.keywords", "internal/bytealg.MaxLen", "internal/strconv.uint64pow10", "math/bits.deBruijn32tab", "math/bits.deBruijn64tab"], loops := true, plainKeys := false, apart := false, laid := [("math/bits.deBruijn32tab", laid_math_bits_deBruijn32tab), ("math/bits.deBruijn64tab", laid_math_bits_deBruijn64tab), ("internal/strconv.uint64pow10", laid_internal_strconv_uint64pow10), ("testbench/lexer.keywords", laid_testbench_lexer_keywords)], narrowed := true }
def BlastEqualUptoSaid : Prop := blastEqualUptoRow.holds Tryz.pinned (OpenSpec.upto blastEqualSpec)

end Rows
end Go.Proofs.YtgnoolgeijmlaaaGreatDoor
