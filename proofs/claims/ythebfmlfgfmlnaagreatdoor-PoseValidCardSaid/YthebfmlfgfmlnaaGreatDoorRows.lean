/-
  NARROWER THAN 'FOR EVERY INPUT', by the rows' own cells (each row's printed sentence says how): PoseValid: laid · PoseRoundTrip: laid · PoseDecodes: laid · PoseRigid: laid · PoseGroup: laid · PoseTells: laid · PoseBetween: laid.
  DERIVED. THE GIVEN ROWS OF THIS SEAT. 7 by the template 'for every input the law returns true; each argument reads behind the call as it read before'; 0 by the template 'total and deterministic' (their statements: YthebfmlfgfmlnaaGreatDoorTotals.lean).
  GIVEN WITH THE SEED: the statements are not yours to turn. If you find one false, say at which input.
  Laid BY PROGRAM, IN A SANDBOX (cutbox-rows.mjs): the forced cells as the released guide's own fill.sh prints them over the translation d12880e700111d8f… (all of the seat's roots in one cut). By AI agents, Wed Nov 11 2026. No macro, syntax, notation, axiom, sorry.
-/
import Derived.Test.YthebfmlfgfmlnaaGreatDoorChecked
import GoSem.PinnedTables
import GoSem.Claim
import GoSem.ClaimJoined
import GoSem.ClaimMapViews
import Derived.JoinedTies
import Derived.KernelRfl
namespace Go.Proofs.YthebfmlfgfmlnaaGreatDoor
/- THE CELL 'sum', in the pinned program and in every row, IS THE sha256 OF THE DUMP (.gsa) THAT YthebfmlfgfmlnaaGreatDoorProg.lean LOADS. Nothing in Lean hashes anything: it is a label: what it is worth is what the hold of that sum in a sandbox is worth. -/
noncomputable def Tryz.pinned : Pinned := { name := "ythebfmlfgfmlnaagreatdoor", sum := "d12880e700111d8f4d61215e9ff0ac76e56291627af9485f2c3d42c95e7ec536", checked := Tryz.checked }
namespace Rows
def none {H : Type} : Left H := { results := [], args := [] }

/- WHAT THE LISTED PACKAGE-LEVEL VARIABLES READ AS WHEN THE CALL BEGINS. Each datum BY PROGRAM (the guide's laid-datum.mjs) off the statement by which the dump's own 'gosem.cut.vars' lays the variable. In a bare row this is a premise. The card (YthebfmlfgfmlnaaGreatDoorCards.lean) ties it to the program's text. -/
def laid_unicode_utf8_acceptRanges {H : Type} : DataW H := .agg [.agg [.lit (.int .u8 128), .lit (.int .u8 191)], .agg [.lit (.int .u8 160), .lit (.int .u8 191)], .agg [.lit (.int .u8 128), .lit (.int .u8 159)], .agg [.lit (.int .u8 144), .lit (.int .u8 191)], .agg [.lit (.int .u8 128), .lit (.int .u8 143)], .agg [.lit (.int .u8 0), .lit (.int .u8 0)], .agg [.lit (.int .u8 0), .lit (.int .u8 0)], .agg [.lit (.int .u8 0), .lit (.int .u8 0)], .agg [.lit (.int .u8 0), .lit (.int .u8 0)], .agg [.lit (.int .u8 0), .lit (.int .u8 0)], .agg [.lit (.int .u8 0), .lit (.int .u8 0)], .agg [.lit (.int .u8 0), .lit (.int .u8 0)], .agg [.lit (.int .u8 0), .lit (.int .u8 0)], .agg [.lit (.int .u8 0), .lit (.int .u8 0)], .agg [.lit (.int .u8 0), .lit (.int .u8 0)], .agg [.lit (.int .u8 0), .lit (.int .u8 0)]]
/-- One of Go's own tables, pinned by name: the form's constant. -/
def laid_unicode_utf8_first : DataW Unit := Go.Pinned.utf8First

/-- 'roboticslaw26.PoseValid': WHATEVER THE INPUT: true; the input reads as it did. -/
def poseValidSpec : ChangeSpec := { name := "poseValid", fn := fun _ => fun
  | [d] => { results := [.lit (.bool true)], args := [d] }
  | _ => none }
def poseValidRow : OpenClaim := { program := "ythebfmlfgfmlnaagreatdoor", sum := "d12880e700111d8f4d61215e9ff0ac76e56291627af9485f2c3d42c95e7ec536", func := "robotics/roboticslaw26.PoseValid", spec := "poseValid", inPlace := ["internal/bytealg.CountString", "internal/bytealg.IndexByteString", "internal/bytealg.IndexString", "internal/abi.NoEscape", "internal/bytealg.MakeNoZero"], unfollowed := true, recurses := true, named := ["unicode/utf8.first", "unicode/utf8.acceptRanges", "internal/bytealg.MaxLen", "math/bits.overflowError"], apart := false, laid := [("unicode/utf8.acceptRanges", laid_unicode_utf8_acceptRanges), ("unicode/utf8.first", laid_unicode_utf8_first)] }
def PoseValidSaid : Prop := poseValidRow.holds Tryz.pinned (OpenSpec.ofChange poseValidSpec)

/-- ITS FALSE NEIGHBOUR: 'it returns false'. Refute it at one input. -/
def poseValidWrong : ChangeSpec := { name := "poseValid", fn := fun _ => fun
  | [d] => { results := [.lit (.bool false)], args := [d] }
  | _ => none }
def PoseValidWrongFalsely : Prop := poseValidRow.holds Tryz.pinned (OpenSpec.ofChange poseValidWrong)

/-- 'roboticslaw26.PoseRoundTrip': WHATEVER THE INPUT: true; the input reads as it did. -/
def poseRoundTripSpec : ChangeSpec := { name := "poseRoundTrip", fn := fun _ => fun
  | [d] => { results := [.lit (.bool true)], args := [d] }
  | _ => none }
def poseRoundTripRow : OpenClaim := { program := "ythebfmlfgfmlnaagreatdoor", sum := "d12880e700111d8f4d61215e9ff0ac76e56291627af9485f2c3d42c95e7ec536", func := "robotics/roboticslaw26.PoseRoundTrip", spec := "poseRoundTrip", inPlace := ["internal/bytealg.CountString", "internal/bytealg.IndexByteString", "internal/bytealg.IndexString", "internal/abi.NoEscape", "internal/bytealg.MakeNoZero"], unfollowed := true, recurses := true, named := ["unicode/utf8.first", "unicode/utf8.acceptRanges", "internal/bytealg.MaxLen", "math/bits.overflowError"], apart := false, laid := [("unicode/utf8.acceptRanges", laid_unicode_utf8_acceptRanges), ("unicode/utf8.first", laid_unicode_utf8_first)] }
def PoseRoundTripSaid : Prop := poseRoundTripRow.holds Tryz.pinned (OpenSpec.ofChange poseRoundTripSpec)

/-- ITS FALSE NEIGHBOUR: 'it returns false'. Refute it at one input. -/
def poseRoundTripWrong : ChangeSpec := { name := "poseRoundTrip", fn := fun _ => fun
  | [d] => { results := [.lit (.bool false)], args := [d] }
  | _ => none }
def PoseRoundTripWrongFalsely : Prop := poseRoundTripRow.holds Tryz.pinned (OpenSpec.ofChange poseRoundTripWrong)

/-- 'roboticslaw26.PoseDecodes': WHATEVER THE INPUT: true; the input reads as it did. -/
def poseDecodesSpec : ChangeSpec := { name := "poseDecodes", fn := fun _ => fun
  | [d] => { results := [.lit (.bool true)], args := [d] }
  | _ => none }
def poseDecodesRow : OpenClaim := { program := "ythebfmlfgfmlnaagreatdoor", sum := "d12880e700111d8f4d61215e9ff0ac76e56291627af9485f2c3d42c95e7ec536", func := "robotics/roboticslaw26.PoseDecodes", spec := "poseDecodes", inPlace := ["internal/bytealg.CountString", "internal/bytealg.IndexByteString", "internal/bytealg.IndexString", "internal/abi.NoEscape", "internal/bytealg.MakeNoZero"], unfollowed := true, recurses := true, named := ["unicode/utf8.first", "unicode/utf8.acceptRanges", "internal/bytealg.MaxLen", "math/bits.overflowError"], apart := false, laid := [("unicode/utf8.acceptRanges", laid_unicode_utf8_acceptRanges), ("unicode/utf8.first", laid_unicode_utf8_first)] }
def PoseDecodesSaid : Prop := poseDecodesRow.holds Tryz.pinned (OpenSpec.ofChange poseDecodesSpec)

/-- ITS FALSE NEIGHBOUR: 'it returns false'. Refute it at one input. -/
def poseDecodesWrong : ChangeSpec := { name := "poseDecodes", fn := fun _ => fun
  | [d] => { results := [.lit (.bool false)], args := [d] }
  | _ => none }
def PoseDecodesWrongFalsely : Prop := poseDecodesRow.holds Tryz.pinned (OpenSpec.ofChange poseDecodesWrong)

/-- 'roboticslaw26.PoseRigid': WHATEVER THE INPUT: true; the input reads as it did. -/
def poseRigidSpec : ChangeSpec := { name := "poseRigid", fn := fun _ => fun
  | [d1, d2, d3] => { results := [.lit (.bool true)], args := [d1, d2, d3] }
  | _ => none }
def poseRigidRow : OpenClaim := { program := "ythebfmlfgfmlnaagreatdoor", sum := "d12880e700111d8f4d61215e9ff0ac76e56291627af9485f2c3d42c95e7ec536", func := "robotics/roboticslaw26.PoseRigid", spec := "poseRigid", inPlace := ["internal/bytealg.CountString", "internal/bytealg.IndexByteString", "internal/bytealg.IndexString", "internal/abi.NoEscape", "internal/bytealg.MakeNoZero"], unfollowed := true, recurses := true, named := ["unicode/utf8.first", "unicode/utf8.acceptRanges", "internal/bytealg.MaxLen", "math/bits.overflowError"], apart := false, laid := [("unicode/utf8.acceptRanges", laid_unicode_utf8_acceptRanges), ("unicode/utf8.first", laid_unicode_utf8_first)] }
def PoseRigidSaid : Prop := poseRigidRow.holds Tryz.pinned (OpenSpec.ofChange poseRigidSpec)

/-- ITS FALSE NEIGHBOUR: 'it returns false'. Refute it at one input. -/
def poseRigidWrong : ChangeSpec := { name := "poseRigid", fn := fun _ => fun
  | [d1, d2, d3] => { results := [.lit (.bool false)], args := [d1, d2, d3] }
  | _ => none }
def PoseRigidWrongFalsely : Prop := poseRigidRow.holds Tryz.pinned (OpenSpec.ofChange poseRigidWrong)

/-- 'roboticslaw26.PoseGroup': WHATEVER THE INPUT: true; the input reads as it did. -/
def poseGroupSpec : ChangeSpec := { name := "poseGroup", fn := fun _ => fun
  | [d1, d2, d3, d4] => { results := [.lit (.bool true)], args := [d1, d2, d3, d4] }
  | _ => none }
def poseGroupRow : OpenClaim := { program := "ythebfmlfgfmlnaagreatdoor", sum := "d12880e700111d8f4d61215e9ff0ac76e56291627af9485f2c3d42c95e7ec536", func := "robotics/roboticslaw26.PoseGroup", spec := "poseGroup", inPlace := ["internal/bytealg.CountString", "internal/bytealg.IndexByteString", "internal/bytealg.IndexString", "internal/abi.NoEscape", "internal/bytealg.MakeNoZero"], unfollowed := true, recurses := true, named := ["unicode/utf8.first", "unicode/utf8.acceptRanges", "internal/bytealg.MaxLen", "math/bits.overflowError"], apart := false, laid := [("unicode/utf8.acceptRanges", laid_unicode_utf8_acceptRanges), ("unicode/utf8.first", laid_unicode_utf8_first)] }
def PoseGroupSaid : Prop := poseGroupRow.holds Tryz.pinned (OpenSpec.ofChange poseGroupSpec)

/-- ITS FALSE NEIGHBOUR: 'it returns false'. Refute it at one input. -/
def poseGroupWrong : ChangeSpec := { name := "poseGroup", fn := fun _ => fun
  | [d1, d2, d3, d4] => { results := [.lit (.bool false)], args := [d1, d2, d3, d4] }
  | _ => none }
def PoseGroupWrongFalsely : Prop := poseGroupRow.holds Tryz.pinned (OpenSpec.ofChange poseGroupWrong)

/-- 'roboticslaw26.PoseTells': WHATEVER THE INPUT: true; the input reads as it did. -/
def poseTellsSpec : ChangeSpec := { name := "poseTells", fn := fun _ => fun
  | [d1, d2, d3] => { results := [.lit (.bool true)], args := [d1, d2, d3] }
  | _ => none }
def poseTellsRow : OpenClaim := { program := "ythebfmlfgfmlnaagreatdoor", sum := "d12880e700111d8f4d61215e9ff0ac76e56291627af9485f2c3d42c95e7ec536", func := "robotics/roboticslaw26.PoseTells", spec := "poseTells", inPlace := ["internal/bytealg.CountString", "internal/bytealg.IndexByteString", "internal/bytealg.IndexString", "internal/abi.NoEscape", "internal/bytealg.MakeNoZero"], unfollowed := true, recurses := true, named := ["unicode/utf8.first", "unicode/utf8.acceptRanges", "internal/bytealg.MaxLen", "math/bits.overflowError"], apart := false, laid := [("unicode/utf8.acceptRanges", laid_unicode_utf8_acceptRanges), ("unicode/utf8.first", laid_unicode_utf8_first)] }
def PoseTellsSaid : Prop := poseTellsRow.holds Tryz.pinned (OpenSpec.ofChange poseTellsSpec)

/-- ITS FALSE NEIGHBOUR: 'it returns false'. Refute it at one input. -/
def poseTellsWrong : ChangeSpec := { name := "poseTells", fn := fun _ => fun
  | [d1, d2, d3] => { results := [.lit (.bool false)], args := [d1, d2, d3] }
  | _ => none }
def PoseTellsWrongFalsely : Prop := poseTellsRow.holds Tryz.pinned (OpenSpec.ofChange poseTellsWrong)

/-- 'roboticslaw26.PoseBetween': WHATEVER THE INPUT: true; the input reads as it did. -/
def poseBetweenSpec : ChangeSpec := { name := "poseBetween", fn := fun _ => fun
  | [d1, d2, d3] => { results := [.lit (.bool true)], args := [d1, d2, d3] }
  | _ => none }
def poseBetweenRow : OpenClaim := { program := "ythebfmlfgfmlnaagreatdoor", sum := "d12880e700111d8f4d61215e9ff0ac76e56291627af9485f2c3d42c95e7ec536", func := "robotics/roboticslaw26.PoseBetween", spec := "poseBetween", inPlace := ["internal/bytealg.CountString", "internal/bytealg.IndexByteString", "internal/bytealg.IndexString", "internal/abi.NoEscape", "internal/bytealg.MakeNoZero"], unfollowed := true, recurses := true, named := ["unicode/utf8.first", "unicode/utf8.acceptRanges", "internal/bytealg.MaxLen", "math/bits.overflowError"], apart := false, laid := [("unicode/utf8.acceptRanges", laid_unicode_utf8_acceptRanges), ("unicode/utf8.first", laid_unicode_utf8_first)] }
def PoseBetweenSaid : Prop := poseBetweenRow.holds Tryz.pinned (OpenSpec.ofChange poseBetweenSpec)

/-- ITS FALSE NEIGHBOUR: 'it returns false'. Refute it at one input. -/
def poseBetweenWrong : ChangeSpec := { name := "poseBetween", fn := fun _ => fun
  | [d1, d2, d3] => { results := [.lit (.bool false)], args := [d1, d2, d3] }
  | _ => none }
def PoseBetweenWrongFalsely : Prop := poseBetweenRow.holds Tryz.pinned (OpenSpec.ofChange poseBetweenWrong)

/- THE SECOND FORM. 'bulk': how many values and letters a reading holds, each counted each time it is reached (what is shared counts as often as it is met; a slice's spare places count too). A statement '..UptoSaid' is the law's where the arguments, and the package variables that the reading takes, are together of bulk at most 1048576: NARROWER than '..Said'. Prove '..Said' where nothing that the law and all that it calls make is longer than what came in: it says more and counts as full. Else prove '..UptoSaid'. A law counts once. -/
mutual
def uptoBulk {H : Type} : DataW H → Nat
  | .lit (.string bytes) => bytes.length + 1
  | .lit _ => 1
  | .nil => 1
  | .ptr d => uptoBulk d + 1
  | .slice elems spare => uptoBulkAll elems + uptoBulkAll spare + 1
  | .agg parts => uptoBulkAll parts + 1
  | .iface _ d => uptoBulk d + 1
  | .map entries => uptoBulkEntries entries + 1
  | .held _ => 1
def uptoBulkAll {H : Type} : List (DataW H) → Nat
  | [] => 0
  | d :: r => uptoBulk d + uptoBulkAll r
def uptoBulkEntries {H : Type} : List (Lit × DataW H) → Nat
  | [] => 0
  | x :: r => uptoBulkEntry x + uptoBulkEntries r
def uptoBulkEntry {H : Type} : Lit × DataW H → Nat
  | (.string bytes, d) => bytes.length + uptoBulk d + 1
  | (_, d) => uptoBulk d + 1
 end
def uptoSmall : (H : Type) → List (DataW H) → Bool := fun _ ds => decide (uptoBulkAll ds ≤ 1048576)
def OpenSpec.upto (s : _root_.Go.ChangeSpec) : _root_.Go.OpenSpec := { _root_.Go.OpenSpec.ofChange s with cond := some uptoSmall }

/-- 'roboticslaw26.PoseValid', WHERE WHAT IT READS IS OF BULK AT MOST 1048576: true; the input reads as it did. -/
def poseValidUptoRow : OpenClaim := { program := "ythebfmlfgfmlnaagreatdoor", sum := "d12880e700111d8f4d61215e9ff0ac76e56291627af9485f2c3d42c95e7ec536", func := "robotics/roboticslaw26.PoseValid", spec := "poseValid", inPlace := ["internal/bytealg.CountString", "internal/bytealg.IndexByteString", "internal/bytealg.IndexString", "internal/abi.NoEscape", "internal/bytealg.MakeNoZero"], unfollowed := true, recurses := true, named := ["unicode/utf8.first", "unicode/utf8.acceptRanges", "internal/bytealg.MaxLen", "math/bits.overflowError"], apart := false, laid := [("unicode/utf8.acceptRanges", laid_unicode_utf8_acceptRanges), ("unicode/utf8.first", laid_unicode_utf8_first)], narrowed := true }
def PoseValidUptoSaid : Prop := poseValidUptoRow.holds Tryz.pinned (OpenSpec.upto poseValidSpec)

/-- 'roboticslaw26.PoseRoundTrip', WHERE WHAT IT READS IS OF BULK AT MOST 1048576: true; the input reads as it did. -/
def poseRoundTripUptoRow : OpenClaim := { program := "ythebfmlfgfmlnaagreatdoor", sum := "d12880e700111d8f4d61215e9ff0ac76e56291627af9485f2c3d42c95e7ec536", func := "robotics/roboticslaw26.PoseRoundTrip", spec := "poseRoundTrip", inPlace := ["internal/bytealg.CountString", "internal/bytealg.IndexByteString", "internal/bytealg.IndexString", "internal/abi.NoEscape", "internal/bytealg.MakeNoZero"], unfollowed := true, recurses := true, named := ["unicode/utf8.first", "unicode/utf8.acceptRanges", "internal/bytealg.MaxLen", "math/bits.overflowError"], apart := false, laid := [("unicode/utf8.acceptRanges", laid_unicode_utf8_acceptRanges), ("unicode/utf8.first", laid_unicode_utf8_first)], narrowed := true }
def PoseRoundTripUptoSaid : Prop := poseRoundTripUptoRow.holds Tryz.pinned (OpenSpec.upto poseRoundTripSpec)

/-- 'roboticslaw26.PoseDecodes', WHERE WHAT IT READS IS OF BULK AT MOST 1048576: true; the input reads as it did. -/
def poseDecodesUptoRow : OpenClaim := { program := "ythebfmlfgfmlnaagreatdoor", sum := "d12880e700111d8f4d61215e9ff0ac76e56291627af9485f2c3d42c95e7ec536", func := "robotics/roboticslaw26.PoseDecodes", spec := "poseDecodes", inPlace := ["internal/bytealg.CountString", "internal/bytealg.IndexByteString", "internal/bytealg.IndexString", "internal/abi.NoEscape", "internal/bytealg.MakeNoZero"], unfollowed := true, recurses := true, named := ["unicode/utf8.first", "unicode/utf8.acceptRanges", "internal/bytealg.MaxLen", "math/bits.overflowError"], apart := false, laid := [("unicode/utf8.acceptRanges", laid_unicode_utf8_acceptRanges), ("unicode/utf8.first", laid_unicode_utf8_first)], narrowed := true }
def PoseDecodesUptoSaid : Prop := poseDecodesUptoRow.holds Tryz.pinned (OpenSpec.upto poseDecodesSpec)

/-- 'roboticslaw26.PoseRigid', WHERE WHAT IT READS IS OF BULK AT MOST 1048576: true; the input reads as it did. -/
def poseRigidUptoRow : OpenClaim := { program := "ythebfmlfgfmlnaagreatdoor", sum := "d12880e700111d8f4d61215e9ff0ac76e56291627af9485f2c3d42c95e7ec536", func := "robotics/roboticslaw26.PoseRigid", spec := "poseRigid", inPlace := ["internal/bytealg.CountString", "internal/bytealg.IndexByteString", "internal/bytealg.IndexString", "internal/abi.NoEscape", "internal/bytealg.MakeNoZero"], unfollowed := true, recurses := true, named := ["unicode/utf8.first", "unicode/utf8.acceptRanges", "internal/bytealg.MaxLen", "math/bits.overflowError"], apart := false, laid := [("unicode/utf8.acceptRanges", laid_unicode_utf8_acceptRanges), ("unicode/utf8.first", laid_unicode_utf8_first)], narrowed := true }
def PoseRigidUptoSaid : Prop := poseRigidUptoRow.holds Tryz.pinned (OpenSpec.upto poseRigidSpec)

/-- 'roboticslaw26.PoseGroup', WHERE WHAT IT READS IS OF BULK AT MOST 1048576: true; the input reads as it did. -/
def poseGroupUptoRow : OpenClaim := { program := "ythebfmlfgfmlnaagreatdoor", sum := "d12880e700111d8f4d61215e9ff0ac76e56291627af9485f2c3d42c95e7ec536", func := "robotics/roboticslaw26.PoseGroup", spec := "poseGroup", inPlace := ["internal/bytealg.CountString", "internal/bytealg.IndexByteString", "internal/bytealg.IndexString", "internal/abi.NoEscape", "internal/bytealg.MakeNoZero"], unfollowed := true, recurses := true, named := ["unicode/utf8.first", "unicode/utf8.acceptRanges", "internal/bytealg.MaxLen", "math/bits.overflowError"], apart := false, laid := [("unicode/utf8.acceptRanges", laid_unicode_utf8_acceptRanges), ("unicode/utf8.first", laid_unicode_utf8_first)], narrowed := true }
def PoseGroupUptoSaid : Prop := poseGroupUptoRow.holds Tryz.pinned (OpenSpec.upto poseGroupSpec)

/-- 'roboticslaw26.PoseTells', WHERE WHAT IT READS IS OF BULK AT MOST 1048576: true; the input reads as it did. -/
def poseTellsUptoRow : OpenClaim := { program := "ythebfmlfgfmlnaagreatdoor", sum := "d12880e700111d8f4d61215e9ff0ac76e56291627af9485f2c3d42c95e7ec536", func := "robotics/roboticslaw26.PoseTells", spec := "poseTells", inPlace := ["internal/bytealg.CountString", "internal/bytealg.IndexByteString", "internal/bytealg.IndexString", "internal/abi.NoEscape", "internal/bytealg.MakeNoZero"], unfollowed := true, recurses := true, named := ["unicode/utf8.first", "unicode/utf8.acceptRanges", "internal/bytealg.MaxLen", "math/bits.overflowError"], apart := false, laid := [("unicode/utf8.acceptRanges", laid_unicode_utf8_acceptRanges), ("unicode/utf8.first", laid_unicode_utf8_first)], narrowed := true }
def PoseTellsUptoSaid : Prop := poseTellsUptoRow.holds Tryz.pinned (OpenSpec.upto poseTellsSpec)

/-- 'roboticslaw26.PoseBetween', WHERE WHAT IT READS IS OF BULK AT MOST 1048576: true; the input reads as it did. -/
def poseBetweenUptoRow : OpenClaim := { program := "ythebfmlfgfmlnaagreatdoor", sum := "d12880e700111d8f4d61215e9ff0ac76e56291627af9485f2c3d42c95e7ec536", func := "robotics/roboticslaw26.PoseBetween", spec := "poseBetween", inPlace := ["internal/bytealg.CountString", "internal/bytealg.IndexByteString", "internal/bytealg.IndexString", "internal/abi.NoEscape", "internal/bytealg.MakeNoZero"], unfollowed := true, recurses := true, named := ["unicode/utf8.first", "unicode/utf8.acceptRanges", "internal/bytealg.MaxLen", "math/bits.overflowError"], apart := false, laid := [("unicode/utf8.acceptRanges", laid_unicode_utf8_acceptRanges), ("unicode/utf8.first", laid_unicode_utf8_first)], narrowed := true }
def PoseBetweenUptoSaid : Prop := poseBetweenUptoRow.holds Tryz.pinned (OpenSpec.upto poseBetweenSpec)

end Rows
end Go.Proofs.YthebfmlfgfmlnaaGreatDoor
