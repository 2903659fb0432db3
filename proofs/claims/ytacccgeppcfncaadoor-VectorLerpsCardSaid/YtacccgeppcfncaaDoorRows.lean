/-
  NARROWER THAN 'FOR EVERY INPUT', by the rows' own cells (each row's printed sentence says how): VectorTexts: laid · VectorProducts: laid · VectorSpace: laid · VectorLinear: laid · VectorLerps: laid.
  DERIVED. THE GIVEN ROWS OF THIS SEAT. 5 by the template 'for every input the law returns true; each argument reads behind the call as it read before'; 0 by the template 'total and deterministic' (their statements: YtacccgeppcfncaaDoorTotals.lean).
  GIVEN WITH THE SEED: the statements are not yours to turn. If you find one false, say at which input.
  Laid BY PROGRAM, IN A SANDBOX (cutbox-rows.mjs): the forced cells as the released guide's own fill.sh prints them over the translation efc841c82a30a4a6… (all of the seat's roots in one cut). By AI agents, Wed Nov 11 2026. No macro, syntax, notation, axiom, sorry.
-/
import Derived.Test.YtacccgeppcfncaaDoorChecked
import GoSem.PinnedTables
import GoSem.Claim
import GoSem.ClaimJoined
import GoSem.ClaimMapViews
import Derived.JoinedTies
import Derived.KernelRfl
namespace Go.Proofs.YtacccgeppcfncaaDoor
/- THE CELL 'sum', in the pinned program and in every row, IS THE sha256 OF THE DUMP (.gsa) THAT YtacccgeppcfncaaDoorProg.lean LOADS. Nothing in Lean hashes anything: it is a label: what it is worth is what the hold of that sum in a sandbox is worth. -/
noncomputable def Tryd.pinned : Pinned := { name := "ytacccgeppcfncaadoor", sum := "efc841c82a30a4a6a5371cc92dbb16b796356461d8bd125a3bc0fcf495ea8c94", checked := Tryd.checked }
namespace Rows
def none {H : Type} : Left H := { results := [], args := [] }

/- WHAT THE LISTED PACKAGE-LEVEL VARIABLES READ AS WHEN THE CALL BEGINS. Each datum BY PROGRAM (the guide's laid-datum.mjs) off the statement by which the dump's own 'gosem.cut.vars' lays the variable. In a bare row this is a premise. The card (YtacccgeppcfncaaDoorCards.lean) ties it to the program's text. -/
def laid_unicode_utf8_acceptRanges {H : Type} : DataW H := .agg [.agg [.lit (.int .u8 128), .lit (.int .u8 191)], .agg [.lit (.int .u8 160), .lit (.int .u8 191)], .agg [.lit (.int .u8 128), .lit (.int .u8 159)], .agg [.lit (.int .u8 144), .lit (.int .u8 191)], .agg [.lit (.int .u8 128), .lit (.int .u8 143)], .agg [.lit (.int .u8 0), .lit (.int .u8 0)], .agg [.lit (.int .u8 0), .lit (.int .u8 0)], .agg [.lit (.int .u8 0), .lit (.int .u8 0)], .agg [.lit (.int .u8 0), .lit (.int .u8 0)], .agg [.lit (.int .u8 0), .lit (.int .u8 0)], .agg [.lit (.int .u8 0), .lit (.int .u8 0)], .agg [.lit (.int .u8 0), .lit (.int .u8 0)], .agg [.lit (.int .u8 0), .lit (.int .u8 0)], .agg [.lit (.int .u8 0), .lit (.int .u8 0)], .agg [.lit (.int .u8 0), .lit (.int .u8 0)], .agg [.lit (.int .u8 0), .lit (.int .u8 0)]]
/-- One of Go's own tables, pinned by name: the form's constant. -/
def laid_unicode_utf8_first : DataW Unit := Go.Pinned.utf8First

/-- 'roboticslaw24.VectorTexts': WHATEVER THE INPUT: true; the input reads as it did. -/
def vectorTextsSpec : ChangeSpec := { name := "vectorTexts", fn := fun _ => fun
  | [d1, d2, d3] => { results := [.lit (.bool true)], args := [d1, d2, d3] }
  | _ => none }
def vectorTextsRow : OpenClaim := { program := "ytacccgeppcfncaadoor", sum := "efc841c82a30a4a6a5371cc92dbb16b796356461d8bd125a3bc0fcf495ea8c94", func := "robotics/roboticslaw24.VectorTexts", spec := "vectorTexts", inPlace := ["internal/bytealg.CountString", "internal/bytealg.IndexByteString", "internal/bytealg.IndexString"], unfollowed := true, recurses := true, named := ["internal/bytealg.MaxLen", "unicode/utf8.first", "unicode/utf8.acceptRanges", "math/bits.overflowError"], apart := false, laid := [("unicode/utf8.acceptRanges", laid_unicode_utf8_acceptRanges), ("unicode/utf8.first", laid_unicode_utf8_first)] }
def VectorTextsSaid : Prop := vectorTextsRow.holds Tryd.pinned (OpenSpec.ofChange vectorTextsSpec)

/-- ITS FALSE NEIGHBOUR: 'it returns false'. Refute it at one input. -/
def vectorTextsWrong : ChangeSpec := { name := "vectorTexts", fn := fun _ => fun
  | [d1, d2, d3] => { results := [.lit (.bool false)], args := [d1, d2, d3] }
  | _ => none }
def VectorTextsWrongFalsely : Prop := vectorTextsRow.holds Tryd.pinned (OpenSpec.ofChange vectorTextsWrong)

/-- 'roboticslaw24.VectorProducts': WHATEVER THE INPUT: true; the input reads as it did. -/
def vectorProductsSpec : ChangeSpec := { name := "vectorProducts", fn := fun _ => fun
  | [d1, d2] => { results := [.lit (.bool true)], args := [d1, d2] }
  | _ => none }
def vectorProductsRow : OpenClaim := { program := "ytacccgeppcfncaadoor", sum := "efc841c82a30a4a6a5371cc92dbb16b796356461d8bd125a3bc0fcf495ea8c94", func := "robotics/roboticslaw24.VectorProducts", spec := "vectorProducts", inPlace := ["internal/bytealg.CountString", "internal/bytealg.IndexByteString", "internal/bytealg.IndexString"], unfollowed := true, recurses := true, named := ["internal/bytealg.MaxLen", "unicode/utf8.first", "unicode/utf8.acceptRanges", "math/bits.overflowError"], apart := false, laid := [("unicode/utf8.acceptRanges", laid_unicode_utf8_acceptRanges), ("unicode/utf8.first", laid_unicode_utf8_first)] }
def VectorProductsSaid : Prop := vectorProductsRow.holds Tryd.pinned (OpenSpec.ofChange vectorProductsSpec)

/-- ITS FALSE NEIGHBOUR: 'it returns false'. Refute it at one input. -/
def vectorProductsWrong : ChangeSpec := { name := "vectorProducts", fn := fun _ => fun
  | [d1, d2] => { results := [.lit (.bool false)], args := [d1, d2] }
  | _ => none }
def VectorProductsWrongFalsely : Prop := vectorProductsRow.holds Tryd.pinned (OpenSpec.ofChange vectorProductsWrong)

/-- 'roboticslaw24.VectorSpace': WHATEVER THE INPUT: true; the input reads as it did. -/
def vectorSpaceSpec : ChangeSpec := { name := "vectorSpace", fn := fun _ => fun
  | [d1, d2, d3] => { results := [.lit (.bool true)], args := [d1, d2, d3] }
  | _ => none }
def vectorSpaceRow : OpenClaim := { program := "ytacccgeppcfncaadoor", sum := "efc841c82a30a4a6a5371cc92dbb16b796356461d8bd125a3bc0fcf495ea8c94", func := "robotics/roboticslaw24.VectorSpace", spec := "vectorSpace", inPlace := ["internal/bytealg.CountString", "internal/bytealg.IndexByteString", "internal/bytealg.IndexString"], unfollowed := true, recurses := true, named := ["internal/bytealg.MaxLen", "unicode/utf8.first", "unicode/utf8.acceptRanges", "math/bits.overflowError"], apart := false, laid := [("unicode/utf8.acceptRanges", laid_unicode_utf8_acceptRanges), ("unicode/utf8.first", laid_unicode_utf8_first)] }
def VectorSpaceSaid : Prop := vectorSpaceRow.holds Tryd.pinned (OpenSpec.ofChange vectorSpaceSpec)

/-- ITS FALSE NEIGHBOUR: 'it returns false'. Refute it at one input. -/
def vectorSpaceWrong : ChangeSpec := { name := "vectorSpace", fn := fun _ => fun
  | [d1, d2, d3] => { results := [.lit (.bool false)], args := [d1, d2, d3] }
  | _ => none }
def VectorSpaceWrongFalsely : Prop := vectorSpaceRow.holds Tryd.pinned (OpenSpec.ofChange vectorSpaceWrong)

/-- 'roboticslaw24.VectorLinear': WHATEVER THE INPUT: true; the input reads as it did. -/
def vectorLinearSpec : ChangeSpec := { name := "vectorLinear", fn := fun _ => fun
  | [d1, d2, d3] => { results := [.lit (.bool true)], args := [d1, d2, d3] }
  | _ => none }
def vectorLinearRow : OpenClaim := { program := "ytacccgeppcfncaadoor", sum := "efc841c82a30a4a6a5371cc92dbb16b796356461d8bd125a3bc0fcf495ea8c94", func := "robotics/roboticslaw24.VectorLinear", spec := "vectorLinear", inPlace := ["internal/bytealg.CountString", "internal/bytealg.IndexByteString", "internal/bytealg.IndexString"], unfollowed := true, recurses := true, named := ["internal/bytealg.MaxLen", "unicode/utf8.first", "unicode/utf8.acceptRanges", "math/bits.overflowError"], apart := false, laid := [("unicode/utf8.acceptRanges", laid_unicode_utf8_acceptRanges), ("unicode/utf8.first", laid_unicode_utf8_first)] }
def VectorLinearSaid : Prop := vectorLinearRow.holds Tryd.pinned (OpenSpec.ofChange vectorLinearSpec)

/-- ITS FALSE NEIGHBOUR: 'it returns false'. Refute it at one input. -/
def vectorLinearWrong : ChangeSpec := { name := "vectorLinear", fn := fun _ => fun
  | [d1, d2, d3] => { results := [.lit (.bool false)], args := [d1, d2, d3] }
  | _ => none }
def VectorLinearWrongFalsely : Prop := vectorLinearRow.holds Tryd.pinned (OpenSpec.ofChange vectorLinearWrong)

/-- 'roboticslaw24.VectorLerps': WHATEVER THE INPUT: true; the input reads as it did. -/
def vectorLerpsSpec : ChangeSpec := { name := "vectorLerps", fn := fun _ => fun
  | [d1, d2, d3] => { results := [.lit (.bool true)], args := [d1, d2, d3] }
  | _ => none }
def vectorLerpsRow : OpenClaim := { program := "ytacccgeppcfncaadoor", sum := "efc841c82a30a4a6a5371cc92dbb16b796356461d8bd125a3bc0fcf495ea8c94", func := "robotics/roboticslaw24.VectorLerps", spec := "vectorLerps", inPlace := ["internal/bytealg.CountString", "internal/bytealg.IndexByteString", "internal/bytealg.IndexString"], unfollowed := true, recurses := true, named := ["internal/bytealg.MaxLen", "unicode/utf8.first", "unicode/utf8.acceptRanges", "math/bits.overflowError"], apart := false, laid := [("unicode/utf8.acceptRanges", laid_unicode_utf8_acceptRanges), ("unicode/utf8.first", laid_unicode_utf8_first)] }
def VectorLerpsSaid : Prop := vectorLerpsRow.holds Tryd.pinned (OpenSpec.ofChange vectorLerpsSpec)

/-- ITS FALSE NEIGHBOUR: 'it returns false'. Refute it at one input. -/
def vectorLerpsWrong : ChangeSpec := { name := "vectorLerps", fn := fun _ => fun
  | [d1, d2, d3] => { results := [.lit (.bool false)], args := [d1, d2, d3] }
  | _ => none }
def VectorLerpsWrongFalsely : Prop := vectorLerpsRow.holds Tryd.pinned (OpenSpec.ofChange vectorLerpsWrong)

/- THE SECOND FORM. 'bulk': how many values and letters a reading holds, each counted each time it is reached (what is shared counts as often as it is met; a slice's spare places count too). A statement '..UptoSaid' is the law's where the arguments, and the package variables that the reading takes, are together of bulk at most 1048576: NARROWER than '..Said'. Prove '..Said' where nothing that the law and all that it calls make is longer than what came in: it says more and counts as full. Else prove '..UptoSaid'. A law counts once. -/
mutual
def uptoBulk {H : Type} : DataW H → Nat
  | .lit (.string bytes) => bytes.length + 1
  | .lit _ => 1
  | .nil => 1
  | .ptr d => uptoBulk d + 1
  | .slice elems spare => uptoBulkAll elems + uptoBulkAll spare + 1
  | .agg parts => uptoBulkAll parts + 1
  | .iface _ d => uptoBulk d + 1
  | .map entries => uptoBulkEntries entries + 1
  | .held _ => 1
def uptoBulkAll {H : Type} : List (DataW H) → Nat
  | [] => 0
  | d :: r => uptoBulk d + uptoBulkAll r
def uptoBulkEntries {H : Type} : List (Lit × DataW H) → Nat
  | [] => 0
  | x :: r => uptoBulkEntry x + uptoBulkEntries r
def uptoBulkEntry {H : Type} : Lit × DataW H → Nat
  | (.string bytes, d) => bytes.length + uptoBulk d + 1
  | (_, d) => uptoBulk d + 1
 end
def uptoSmall : (H : Type) → List (DataW H) → Bool := fun _ ds => decide (uptoBulkAll ds ≤ 1048576)
def OpenSpec.upto (s : _root_.Go.ChangeSpec) : _root_.Go.OpenSpec := { _root_.Go.OpenSpec.ofChange s with cond := some uptoSmall }

/-- 'roboticslaw24.VectorTexts', WHERE WHAT IT READS IS OF BULK AT MOST 1048576: true; the input reads as it did. -/
def vectorTextsUptoRow : OpenClaim := { program := "ytacccgeppcfncaadoor", sum := "efc841c82a30a4a6a5371cc92dbb16b796356461d8bd125a3bc0fcf495ea8c94", func := "robotics/roboticslaw24.VectorTexts", spec := "vectorTexts", inPlace := ["internal/bytealg.CountString", "internal/bytealg.IndexByteString", "internal/bytealg.IndexString"], unfollowed := true, recurses := true, named := ["internal/bytealg.MaxLen", "unicode/utf8.first", "unicode/utf8.acceptRanges", "math/bits.overflowError"], apart := false, laid := [("unicode/utf8.acceptRanges", laid_unicode_utf8_acceptRanges), ("unicode/utf8.first", laid_unicode_utf8_first)], narrowed := true }
def VectorTextsUptoSaid : Prop := vectorTextsUptoRow.holds Tryd.pinned (OpenSpec.upto vectorTextsSpec)

/-- 'roboticslaw24.VectorProducts', WHERE WHAT IT READS IS OF BULK AT MOST 1048576: true; the input reads as it did. -/
def vectorProductsUptoRow : OpenClaim := { program := "ytacccgeppcfncaadoor", sum := "efc841c82a30a4a6a5371cc92dbb16b796356461d8bd125a3bc0fcf495ea8c94", func := "robotics/roboticslaw24.VectorProducts", spec := "vectorProducts", inPlace := ["internal/bytealg.CountString", "internal/bytealg.IndexByteString", "internal/bytealg.IndexString"], unfollowed := true, recurses := true, named := ["internal/bytealg.MaxLen", "unicode/utf8.first", "unicode/utf8.acceptRanges", "math/bits.overflowError"], apart := false, laid := [("unicode/utf8.acceptRanges", laid_unicode_utf8_acceptRanges), ("unicode/utf8.first", laid_unicode_utf8_first)], narrowed := true }
def VectorProductsUptoSaid : Prop := vectorProductsUptoRow.holds Tryd.pinned (OpenSpec.upto vectorProductsSpec)

/-- 'roboticslaw24.VectorSpace', WHERE WHAT IT READS IS OF BULK AT MOST 1048576: true; the input reads as it did. -/
def vectorSpaceUptoRow : OpenClaim := { program := "ytacccgeppcfncaadoor", sum := "efc841c82a30a4a6a5371cc92dbb16b796356461d8bd125a3bc0fcf495ea8c94", func := "robotics/roboticslaw24.VectorSpace", spec := "vectorSpace", inPlace := ["internal/bytealg.CountString", "internal/bytealg.IndexByteString", "internal/bytealg.IndexString"], unfollowed := true, recurses := true, named := ["internal/bytealg.MaxLen", "unicode/utf8.first", "unicode/utf8.acceptRanges", "math/bits.overflowError"], apart := false, laid := [("unicode/utf8.acceptRanges", laid_unicode_utf8_acceptRanges), ("unicode/utf8.first", laid_unicode_utf8_first)], narrowed := true }
def VectorSpaceUptoSaid : Prop := vectorSpaceUptoRow.holds Tryd.pinned (OpenSpec.upto vectorSpaceSpec)

/-- 'roboticslaw24.VectorLinear', WHERE WHAT IT READS IS OF BULK AT MOST 1048576: true; the input reads as it did. -/
def vectorLinearUptoRow : OpenClaim := { program := "ytacccgeppcfncaadoor", sum := "efc841c82a30a4a6a5371cc92dbb16b796356461d8bd125a3bc0fcf495ea8c94", func := "robotics/roboticslaw24.VectorLinear", spec := "vectorLinear", inPlace := ["internal/bytealg.CountString", "internal/bytealg.IndexByteString", "internal/bytealg.IndexString"], unfollowed := true, recurses := true, named := ["internal/bytealg.MaxLen", "unicode/utf8.first", "unicode/utf8.acceptRanges", "math/bits.overflowError"], apart := false, laid := [("unicode/utf8.acceptRanges", laid_unicode_utf8_acceptRanges), ("unicode/utf8.first", laid_unicode_utf8_first)], narrowed := true }
def VectorLinearUptoSaid : Prop := vectorLinearUptoRow.holds Tryd.pinned (OpenSpec.upto vectorLinearSpec)

/-- 'roboticslaw24.VectorLerps', WHERE WHAT IT READS IS OF BULK AT MOST 1048576: true; the input reads as it did. -/
def vectorLerpsUptoRow : OpenClaim := { program := "ytacccgeppcfncaadoor", sum := "efc841c82a30a4a6a5371cc92dbb16b796356461d8bd125a3bc0fcf495ea8c94", func := "robotics/roboticslaw24.VectorLerps", spec := "vectorLerps", inPlace := ["internal/bytealg.CountString", "internal/bytealg.IndexByteString", "internal/bytealg.IndexString"], unfollowed := true, recurses := true, named := ["internal/bytealg.MaxLen", "unicode/utf8.first", "unicode/utf8.acceptRanges", "math/bits.overflowError"], apart := false, laid := [("unicode/utf8.acceptRanges", laid_unicode_utf8_acceptRanges), ("unicode/utf8.first", laid_unicode_utf8_first)], narrowed := true }
def VectorLerpsUptoSaid : Prop := vectorLerpsUptoRow.holds Tryd.pinned (OpenSpec.upto vectorLerpsSpec)

end Rows
end Go.Proofs.YtacccgeppcfncaaDoor
