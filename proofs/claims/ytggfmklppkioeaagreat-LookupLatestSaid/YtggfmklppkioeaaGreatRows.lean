/-
  No cell of these rows narrows 'for every input' (looked for: loops, veiled, ifaces, maps, wideKeys, modest, calm, conditions, laid).
  DERIVED. THE GIVEN ROWS OF THIS SEAT. 12 by the template 'for every input the law returns true; each argument reads behind the call as it read before'; 0 by the template 'total and deterministic' (their statements: YtggfmklppkioeaaGreatTotals.lean).
  GIVEN WITH THE SEED: the statements are not yours to turn. If you find one false, say at which input.
  Laid BY PROGRAM, IN A SANDBOX (cutbox-rows.mjs): the forced cells as the released guide's own fill.sh prints them over the translation 39239bd96ddb6312… (all of the seat's roots in one cut). By AI agents, Wed Nov 11 2026. No macro, syntax, notation, axiom, sorry.
-/
import Derived.Test.YtggfmklppkioeaaGreatChecked
import GoSem.Claim
import GoSem.ClaimJoined
import GoSem.ClaimMapViews
import Derived.JoinedTies
import Derived.KernelRfl
namespace Go.Proofs.YtggfmklppkioeaaGreat
/- THE CELL 'sum', in the pinned program and in every row, IS THE sha256 OF THE DUMP (.gsa) THAT YtggfmklppkioeaaGreatProg.lean LOADS. Nothing in Lean hashes anything: it is a label: what it is worth is what the hold of that sum in a sandbox is worth. -/
noncomputable def Tryz.pinned : Pinned := { name := "ytggfmklppkioeaagreat", sum := "39239bd96ddb6312a8d5dbfa6979c5bf5fc8c932e30838db74ab196e8fb3e73c", checked := Tryz.checked }
namespace Rows
def none {H : Type} : Left H := { results := [], args := [] }

/-- 'roboticstop.TopTransforms': WHATEVER THE INPUT: true; the input reads as it did. -/
def topTransformsSpec : ChangeSpec := { name := "topTransforms", fn := fun _ => fun
  | [d1, d2, d3] => { results := [.lit (.bool true)], args := [d1, d2, d3] }
  | _ => none }
def topTransformsRow : OpenClaim := { program := "ytggfmklppkioeaagreat", sum := "39239bd96ddb6312a8d5dbfa6979c5bf5fc8c932e30838db74ab196e8fb3e73c", func := "robotics/roboticstop.TopTransforms", spec := "topTransforms", inPlace := ["internal/bytealg.IndexByteString", "slices.overlaps[robotics/api.Stamped]", "internal/abi.NoEscape", "internal/bytealg.MakeNoZero"], unfollowed := true, recurses := true, named := ["math/bits.overflowError"], apart := false }
def TopTransformsSaid : Prop := topTransformsRow.holds Tryz.pinned (OpenSpec.ofChange topTransformsSpec)

/-- ITS FALSE NEIGHBOUR: 'it returns false'. Refute it at one input. -/
def topTransformsWrong : ChangeSpec := { name := "topTransforms", fn := fun _ => fun
  | [d1, d2, d3] => { results := [.lit (.bool false)], args := [d1, d2, d3] }
  | _ => none }
def TopTransformsWrongFalsely : Prop := topTransformsRow.holds Tryz.pinned (OpenSpec.ofChange topTransformsWrong)

/-- 'roboticstop.TopRigid': WHATEVER THE INPUT: true; the input reads as it did. -/
def topRigidSpec : ChangeSpec := { name := "topRigid", fn := fun _ => fun
  | [d1, d2] => { results := [.lit (.bool true)], args := [d1, d2] }
  | _ => none }
def topRigidRow : OpenClaim := { program := "ytggfmklppkioeaagreat", sum := "39239bd96ddb6312a8d5dbfa6979c5bf5fc8c932e30838db74ab196e8fb3e73c", func := "robotics/roboticstop.TopRigid", spec := "topRigid", inPlace := ["internal/bytealg.IndexByteString", "slices.overlaps[robotics/api.Stamped]", "internal/abi.NoEscape", "internal/bytealg.MakeNoZero"], unfollowed := true, recurses := true, named := ["math/bits.overflowError"], apart := false }
def TopRigidSaid : Prop := topRigidRow.holds Tryz.pinned (OpenSpec.ofChange topRigidSpec)

/-- ITS FALSE NEIGHBOUR: 'it returns false'. Refute it at one input. -/
def topRigidWrong : ChangeSpec := { name := "topRigid", fn := fun _ => fun
  | [d1, d2] => { results := [.lit (.bool false)], args := [d1, d2] }
  | _ => none }
def TopRigidWrongFalsely : Prop := topRigidRow.holds Tryz.pinned (OpenSpec.ofChange topRigidWrong)

/-- 'roboticslaw28.FrametreeKeeps': WHATEVER THE INPUT: true; the input reads as it did. -/
def frametreeKeepsSpec : ChangeSpec := { name := "frametreeKeeps", fn := fun _ => fun
  | [d1, d2, d3] => { results := [.lit (.bool true)], args := [d1, d2, d3] }
  | _ => none }
def frametreeKeepsRow : OpenClaim := { program := "ytggfmklppkioeaagreat", sum := "39239bd96ddb6312a8d5dbfa6979c5bf5fc8c932e30838db74ab196e8fb3e73c", func := "robotics/roboticslaw28.FrametreeKeeps", spec := "frametreeKeeps", inPlace := ["internal/bytealg.IndexByteString", "slices.overlaps[robotics/api.Stamped]"], unfollowed := true, recurses := true, named := ["math/bits.overflowError"], apart := false }
def FrametreeKeepsSaid : Prop := frametreeKeepsRow.holds Tryz.pinned (OpenSpec.ofChange frametreeKeepsSpec)

/-- ITS FALSE NEIGHBOUR: 'it returns false'. Refute it at one input. -/
def frametreeKeepsWrong : ChangeSpec := { name := "frametreeKeeps", fn := fun _ => fun
  | [d1, d2, d3] => { results := [.lit (.bool false)], args := [d1, d2, d3] }
  | _ => none }
def FrametreeKeepsWrongFalsely : Prop := frametreeKeepsRow.holds Tryz.pinned (OpenSpec.ofChange frametreeKeepsWrong)

/-- 'roboticslaw28.FrametreeAcyclic': WHATEVER THE INPUT: true; the input reads as it did. -/
def frametreeAcyclicSpec : ChangeSpec := { name := "frametreeAcyclic", fn := fun _ => fun
  | [d] => { results := [.lit (.bool true)], args := [d] }
  | _ => none }
def frametreeAcyclicRow : OpenClaim := { program := "ytggfmklppkioeaagreat", sum := "39239bd96ddb6312a8d5dbfa6979c5bf5fc8c932e30838db74ab196e8fb3e73c", func := "robotics/roboticslaw28.FrametreeAcyclic", spec := "frametreeAcyclic", inPlace := ["internal/bytealg.IndexByteString", "slices.overlaps[robotics/api.Stamped]"], unfollowed := true, recurses := true, named := ["math/bits.overflowError"], apart := false }
def FrametreeAcyclicSaid : Prop := frametreeAcyclicRow.holds Tryz.pinned (OpenSpec.ofChange frametreeAcyclicSpec)

/-- ITS FALSE NEIGHBOUR: 'it returns false'. Refute it at one input. -/
def frametreeAcyclicWrong : ChangeSpec := { name := "frametreeAcyclic", fn := fun _ => fun
  | [d] => { results := [.lit (.bool false)], args := [d] }
  | _ => none }
def FrametreeAcyclicWrongFalsely : Prop := frametreeAcyclicRow.holds Tryz.pinned (OpenSpec.ofChange frametreeAcyclicWrong)

/-- 'roboticslaw28.FrametreePlays': WHATEVER THE INPUT: true; the input reads as it did. -/
def frametreePlaysSpec : ChangeSpec := { name := "frametreePlays", fn := fun _ => fun
  | [d1, d2, d3] => { results := [.lit (.bool true)], args := [d1, d2, d3] }
  | _ => none }
def frametreePlaysRow : OpenClaim := { program := "ytggfmklppkioeaagreat", sum := "39239bd96ddb6312a8d5dbfa6979c5bf5fc8c932e30838db74ab196e8fb3e73c", func := "robotics/roboticslaw28.FrametreePlays", spec := "frametreePlays", inPlace := ["internal/bytealg.IndexByteString", "slices.overlaps[robotics/api.Stamped]"], unfollowed := true, recurses := true, named := ["math/bits.overflowError"], apart := false }
def FrametreePlaysSaid : Prop := frametreePlaysRow.holds Tryz.pinned (OpenSpec.ofChange frametreePlaysSpec)

/-- ITS FALSE NEIGHBOUR: 'it returns false'. Refute it at one input. -/
def frametreePlaysWrong : ChangeSpec := { name := "frametreePlays", fn := fun _ => fun
  | [d1, d2, d3] => { results := [.lit (.bool false)], args := [d1, d2, d3] }
  | _ => none }
def FrametreePlaysWrongFalsely : Prop := frametreePlaysRow.holds Tryz.pinned (OpenSpec.ofChange frametreePlaysWrong)

/-- 'roboticslaw28.FrametreeNobody': WHATEVER THE INPUT: true; the input reads as it did. -/
def frametreeNobodySpec : ChangeSpec := { name := "frametreeNobody", fn := fun _ => fun
  | [d] => { results := [.lit (.bool true)], args := [d] }
  | _ => none }
def frametreeNobodyRow : OpenClaim := { program := "ytggfmklppkioeaagreat", sum := "39239bd96ddb6312a8d5dbfa6979c5bf5fc8c932e30838db74ab196e8fb3e73c", func := "robotics/roboticslaw28.FrametreeNobody", spec := "frametreeNobody", inPlace := ["slices.overlaps[robotics/api.Stamped]", "internal/bytealg.IndexByteString"], unfollowed := true, recurses := true, named := ["math/bits.overflowError"], apart := false }
def FrametreeNobodySaid : Prop := frametreeNobodyRow.holds Tryz.pinned (OpenSpec.ofChange frametreeNobodySpec)

/-- ITS FALSE NEIGHBOUR: 'it returns false'. Refute it at one input. -/
def frametreeNobodyWrong : ChangeSpec := { name := "frametreeNobody", fn := fun _ => fun
  | [d] => { results := [.lit (.bool false)], args := [d] }
  | _ => none }
def FrametreeNobodyWrongFalsely : Prop := frametreeNobodyRow.holds Tryz.pinned (OpenSpec.ofChange frametreeNobodyWrong)

/-- 'roboticslaw29.LookupNobody': WHATEVER THE INPUT: true; the input reads as it did. -/
def lookupNobodySpec : ChangeSpec := { name := "lookupNobody", fn := fun _ => fun
  | [d] => { results := [.lit (.bool true)], args := [d] }
  | _ => none }
def lookupNobodyRow : OpenClaim := { program := "ytggfmklppkioeaagreat", sum := "39239bd96ddb6312a8d5dbfa6979c5bf5fc8c932e30838db74ab196e8fb3e73c", func := "robotics/roboticslaw29.LookupNobody", spec := "lookupNobody", inPlace := ["internal/bytealg.IndexByteString", "slices.overlaps[robotics/api.Stamped]"], unfollowed := true, recurses := true, named := ["math/bits.overflowError"], apart := false }
def LookupNobodySaid : Prop := lookupNobodyRow.holds Tryz.pinned (OpenSpec.ofChange lookupNobodySpec)

/-- ITS FALSE NEIGHBOUR: 'it returns false'. Refute it at one input. -/
def lookupNobodyWrong : ChangeSpec := { name := "lookupNobody", fn := fun _ => fun
  | [d] => { results := [.lit (.bool false)], args := [d] }
  | _ => none }
def LookupNobodyWrongFalsely : Prop := lookupNobodyRow.holds Tryz.pinned (OpenSpec.ofChange lookupNobodyWrong)

/-- 'roboticslaw29.LookupConsistent': WHATEVER THE INPUT: true; the input reads as it did. -/
def lookupConsistentSpec : ChangeSpec := { name := "lookupConsistent", fn := fun _ => fun
  | [d1, d2] => { results := [.lit (.bool true)], args := [d1, d2] }
  | _ => none }
def lookupConsistentRow : OpenClaim := { program := "ytggfmklppkioeaagreat", sum := "39239bd96ddb6312a8d5dbfa6979c5bf5fc8c932e30838db74ab196e8fb3e73c", func := "robotics/roboticslaw29.LookupConsistent", spec := "lookupConsistent", inPlace := ["internal/bytealg.IndexByteString", "slices.overlaps[robotics/api.Stamped]"], unfollowed := true, recurses := true, named := ["math/bits.overflowError"], apart := false }
def LookupConsistentSaid : Prop := lookupConsistentRow.holds Tryz.pinned (OpenSpec.ofChange lookupConsistentSpec)

/-- ITS FALSE NEIGHBOUR: 'it returns false'. Refute it at one input. -/
def lookupConsistentWrong : ChangeSpec := { name := "lookupConsistent", fn := fun _ => fun
  | [d1, d2] => { results := [.lit (.bool false)], args := [d1, d2] }
  | _ => none }
def LookupConsistentWrongFalsely : Prop := lookupConsistentRow.holds Tryz.pinned (OpenSpec.ofChange lookupConsistentWrong)

/-- 'roboticslaw29.LookupAcross': WHATEVER THE INPUT: true; the input reads as it did. -/
def lookupAcrossSpec : ChangeSpec := { name := "lookupAcross", fn := fun _ => fun
  | [d1, d2] => { results := [.lit (.bool true)], args := [d1, d2] }
  | _ => none }
def lookupAcrossRow : OpenClaim := { program := "ytggfmklppkioeaagreat", sum := "39239bd96ddb6312a8d5dbfa6979c5bf5fc8c932e30838db74ab196e8fb3e73c", func := "robotics/roboticslaw29.LookupAcross", spec := "lookupAcross", inPlace := ["internal/bytealg.IndexByteString", "slices.overlaps[robotics/api.Stamped]"], unfollowed := true, recurses := true, named := ["math/bits.overflowError"], apart := false }
def LookupAcrossSaid : Prop := lookupAcrossRow.holds Tryz.pinned (OpenSpec.ofChange lookupAcrossSpec)

/-- ITS FALSE NEIGHBOUR: 'it returns false'. Refute it at one input. -/
def lookupAcrossWrong : ChangeSpec := { name := "lookupAcross", fn := fun _ => fun
  | [d1, d2] => { results := [.lit (.bool false)], args := [d1, d2] }
  | _ => none }
def LookupAcrossWrongFalsely : Prop := lookupAcrossRow.holds Tryz.pinned (OpenSpec.ofChange lookupAcrossWrong)

/-- 'roboticslaw29.LookupLatest': WHATEVER THE INPUT: true; the input reads as it did. -/
def lookupLatestSpec : ChangeSpec := { name := "lookupLatest", fn := fun _ => fun
  | [d1, d2] => { results := [.lit (.bool true)], args := [d1, d2] }
  | _ => none }
def lookupLatestRow : OpenClaim := { program := "ytggfmklppkioeaagreat", sum := "39239bd96ddb6312a8d5dbfa6979c5bf5fc8c932e30838db74ab196e8fb3e73c", func := "robotics/roboticslaw29.LookupLatest", spec := "lookupLatest", inPlace := ["internal/bytealg.IndexByteString", "slices.overlaps[robotics/api.Stamped]"], unfollowed := true, recurses := true, named := ["math/bits.overflowError"], apart := false }
def LookupLatestSaid : Prop := lookupLatestRow.holds Tryz.pinned (OpenSpec.ofChange lookupLatestSpec)

/-- ITS FALSE NEIGHBOUR: 'it returns false'. Refute it at one input. -/
def lookupLatestWrong : ChangeSpec := { name := "lookupLatest", fn := fun _ => fun
  | [d1, d2] => { results := [.lit (.bool false)], args := [d1, d2] }
  | _ => none }
def LookupLatestWrongFalsely : Prop := lookupLatestRow.holds Tryz.pinned (OpenSpec.ofChange lookupLatestWrong)

/-- 'roboticslaw29.LookupPaths': WHATEVER THE INPUT: true; the input reads as it did. -/
def lookupPathsSpec : ChangeSpec := { name := "lookupPaths", fn := fun _ => fun
  | [d1, d2] => { results := [.lit (.bool true)], args := [d1, d2] }
  | _ => none }
def lookupPathsRow : OpenClaim := { program := "ytggfmklppkioeaagreat", sum := "39239bd96ddb6312a8d5dbfa6979c5bf5fc8c932e30838db74ab196e8fb3e73c", func := "robotics/roboticslaw29.LookupPaths", spec := "lookupPaths", inPlace := ["internal/bytealg.IndexByteString", "slices.overlaps[robotics/api.Stamped]"], unfollowed := true, recurses := true, named := ["math/bits.overflowError"], apart := false }
def LookupPathsSaid : Prop := lookupPathsRow.holds Tryz.pinned (OpenSpec.ofChange lookupPathsSpec)

/-- ITS FALSE NEIGHBOUR: 'it returns false'. Refute it at one input. -/
def lookupPathsWrong : ChangeSpec := { name := "lookupPaths", fn := fun _ => fun
  | [d1, d2] => { results := [.lit (.bool false)], args := [d1, d2] }
  | _ => none }
def LookupPathsWrongFalsely : Prop := lookupPathsRow.holds Tryz.pinned (OpenSpec.ofChange lookupPathsWrong)

/-- 'roboticslaw29.LookupFinds': WHATEVER THE INPUT: true; the input reads as it did. -/
def lookupFindsSpec : ChangeSpec := { name := "lookupFinds", fn := fun _ => fun
  | [d1, d2] => { results := [.lit (.bool true)], args := [d1, d2] }
  | _ => none }
def lookupFindsRow : OpenClaim := { program := "ytggfmklppkioeaagreat", sum := "39239bd96ddb6312a8d5dbfa6979c5bf5fc8c932e30838db74ab196e8fb3e73c", func := "robotics/roboticslaw29.LookupFinds", spec := "lookupFinds", inPlace := ["internal/bytealg.IndexByteString", "slices.overlaps[robotics/api.Stamped]"], unfollowed := true, recurses := true, named := ["math/bits.overflowError"], apart := false }
def LookupFindsSaid : Prop := lookupFindsRow.holds Tryz.pinned (OpenSpec.ofChange lookupFindsSpec)

/-- ITS FALSE NEIGHBOUR: 'it returns false'. Refute it at one input. -/
def lookupFindsWrong : ChangeSpec := { name := "lookupFinds", fn := fun _ => fun
  | [d1, d2] => { results := [.lit (.bool false)], args := [d1, d2] }
  | _ => none }
def LookupFindsWrongFalsely : Prop := lookupFindsRow.holds Tryz.pinned (OpenSpec.ofChange lookupFindsWrong)

/- THE SECOND FORM. 'bulk': how many values and letters a reading holds, each counted each time it is reached (what is shared counts as often as it is met; a slice's spare places count too). A statement '..UptoSaid' is the law's where the arguments, and the package variables that the reading takes, are together of bulk at most 1048576: NARROWER than '..Said'. Prove '..Said' where nothing that the law and all that it calls make is longer than what came in: it says more and counts as full. Else prove '..UptoSaid'. A law counts once. -/
mutual
def uptoBulk {H : Type} : DataW H → Nat
  | .lit (.string bytes) => bytes.length + 1
  | .lit _ => 1
  | .nil => 1
  | .ptr d => uptoBulk d + 1
  | .slice elems spare => uptoBulkAll elems + uptoBulkAll spare + 1
  | .agg parts => uptoBulkAll parts + 1
  | .iface _ d => uptoBulk d + 1
  | .map entries => uptoBulkEntries entries + 1
  | .held _ => 1
def uptoBulkAll {H : Type} : List (DataW H) → Nat
  | [] => 0
  | d :: r => uptoBulk d + uptoBulkAll r
def uptoBulkEntries {H : Type} : List (Lit × DataW H) → Nat
  | [] => 0
  | x :: r => uptoBulkEntry x + uptoBulkEntries r
def uptoBulkEntry {H : Type} : Lit × DataW H → Nat
  | (.string bytes, d) => bytes.length + uptoBulk d + 1
  | (_, d) => uptoBulk d + 1
 end
def uptoSmall : (H : Type) → List (DataW H) → Bool := fun _ ds => decide (uptoBulkAll ds ≤ 1048576)
def OpenSpec.upto (s : _root_.Go.ChangeSpec) : _root_.Go.OpenSpec := { _root_.Go.OpenSpec.ofChange s with cond := some uptoSmall }

/-- 'roboticstop.TopTransforms', WHERE WHAT IT READS IS OF BULK AT MOST 1048576: true; the input reads as it did. -/
def topTransformsUptoRow : OpenClaim := { program := "ytggfmklppkioeaagreat", sum := "39239bd96ddb6312a8d5dbfa6979c5bf5fc8c932e30838db74ab196e8fb3e73c", func := "robotics/roboticstop.TopTransforms", spec := "topTransforms", inPlace := ["internal/bytealg.IndexByteString", "slices.overlaps[robotics/api.Stamped]", "internal/abi.NoEscape", "internal/bytealg.MakeNoZero"], unfollowed := true, recurses := true, named := ["math/bits.overflowError"], apart := false, narrowed := true }
def TopTransformsUptoSaid : Prop := topTransformsUptoRow.holds Tryz.pinned (OpenSpec.upto topTransformsSpec)

/-- 'roboticstop.TopRigid', WHERE WHAT IT READS IS OF BULK AT MOST 1048576: true; the input reads as it did. -/
def topRigidUptoRow : OpenClaim := { program := "ytggfmklppkioeaagreat", sum := "39239bd96ddb6312a8d5dbfa6979c5bf5fc8c932e30838db74ab196e8fb3e73c", func := "robotics/roboticstop.TopRigid", spec := "topRigid", inPlace := ["internal/bytealg.IndexByteString", "slices.overlaps[robotics/api.Stamped]", "internal/abi.NoEscape", "internal/bytealg.MakeNoZero"], unfollowed := true, recurses := true, named := ["math/bits.overflowError"], apart := false, narrowed := true }
def TopRigidUptoSaid : Prop := topRigidUptoRow.holds Tryz.pinned (OpenSpec.upto topRigidSpec)

/-- 'roboticslaw28.FrametreeKeeps', WHERE WHAT IT READS IS OF BULK AT MOST 1048576: true; the input reads as it did. -/
def frametreeKeepsUptoRow : OpenClaim := { program := "ytggfmklppkioeaagreat", sum := "39239bd96ddb6312a8d5dbfa6979c5bf5fc8c932e30838db74ab196e8fb3e73c", func := "robotics/roboticslaw28.FrametreeKeeps", spec := "frametreeKeeps", inPlace := ["internal/bytealg.IndexByteString", "slices.overlaps[robotics/api.Stamped]"], unfollowed := true, recurses := true, named := ["math/bits.overflowError"], apart := false, narrowed := true }
def FrametreeKeepsUptoSaid : Prop := frametreeKeepsUptoRow.holds Tryz.pinned (OpenSpec.upto frametreeKeepsSpec)

/-- 'roboticslaw28.FrametreeAcyclic', WHERE WHAT IT READS IS OF BULK AT MOST 1048576: true; the input reads as it did. -/
def frametreeAcyclicUptoRow : OpenClaim := { program := "ytggfmklppkioeaagreat", sum := "39239bd96ddb6312a8d5dbfa6979c5bf5fc8c932e30838db74ab196e8fb3e73c", func := "robotics/roboticslaw28.FrametreeAcyclic", spec := "frametreeAcyclic", inPlace := ["internal/bytealg.IndexByteString", "slices.overlaps[robotics/api.Stamped]"], unfollowed := true, recurses := true, named := ["math/bits.overflowError"], apart := false, narrowed := true }
def FrametreeAcyclicUptoSaid : Prop := frametreeAcyclicUptoRow.holds Tryz.pinned (OpenSpec.upto frametreeAcyclicSpec)

/-- 'roboticslaw28.FrametreePlays', WHERE WHAT IT READS IS OF BULK AT MOST 1048576: true; the input reads as it did. -/
def frametreePlaysUptoRow : OpenClaim := { program := "ytggfmklppkioeaagreat", sum := "39239bd96ddb6312a8d5dbfa6979c5bf5fc8c932e30838db74ab196e8fb3e73c", func := "robotics/roboticslaw28.FrametreePlays", spec := "frametreePlays", inPlace := ["internal/bytealg.IndexByteString", "slices.overlaps[robotics/api.Stamped]"], unfollowed := true, recurses := true, named := ["math/bits.overflowError"], apart := false, narrowed := true }
def FrametreePlaysUptoSaid : Prop := frametreePlaysUptoRow.holds Tryz.pinned (OpenSpec.upto frametreePlaysSpec)

/-- 'roboticslaw28.FrametreeNobody', WHERE WHAT IT READS IS OF BULK AT MOST 1048576: true; the input reads as it did. -/
def frametreeNobodyUptoRow : OpenClaim := { program := "ytggfmklppkioeaagreat", sum := "39239bd96ddb6312a8d5dbfa6979c5bf5fc8c932e30838db74ab196e8fb3e73c", func := "robotics/roboticslaw28.FrametreeNobody", spec := "frametreeNobody", inPlace := ["slices.overlaps[robotics/api.Stamped]", "internal/bytealg.IndexByteString"], unfollowed := true, recurses := true, named := ["math/bits.overflowError"], apart := false, narrowed := true }
def FrametreeNobodyUptoSaid : Prop := frametreeNobodyUptoRow.holds Tryz.pinned (OpenSpec.upto frametreeNobodySpec)

/-- 'roboticslaw29.LookupNobody', WHERE WHAT IT READS IS OF BULK AT MOST 1048576: true; the input reads as it did. -/
def lookupNobodyUptoRow : OpenClaim := { program := "ytggfmklppkioeaagreat", sum := "39239bd96ddb6312a8d5dbfa6979c5bf5fc8c932e30838db74ab196e8fb3e73c", func := "robotics/roboticslaw29.LookupNobody", spec := "lookupNobody", inPlace := ["internal/bytealg.IndexByteString", "slices.overlaps[robotics/api.Stamped]"], unfollowed := true, recurses := true, named := ["math/bits.overflowError"], apart := false, narrowed := true }
def LookupNobodyUptoSaid : Prop := lookupNobodyUptoRow.holds Tryz.pinned (OpenSpec.upto lookupNobodySpec)

/-- 'roboticslaw29.LookupConsistent', WHERE WHAT IT READS IS OF BULK AT MOST 1048576: true; the input reads as it did. -/
def lookupConsistentUptoRow : OpenClaim := { program := "ytggfmklppkioeaagreat", sum := "39239bd96ddb6312a8d5dbfa6979c5bf5fc8c932e30838db74ab196e8fb3e73c", func := "robotics/roboticslaw29.LookupConsistent", spec := "lookupConsistent", inPlace := ["internal/bytealg.IndexByteString", "slices.overlaps[robotics/api.Stamped]"], unfollowed := true, recurses := true, named := ["math/bits.overflowError"], apart := false, narrowed := true }
def LookupConsistentUptoSaid : Prop := lookupConsistentUptoRow.holds Tryz.pinned (OpenSpec.upto lookupConsistentSpec)

/-- 'roboticslaw29.LookupAcross', WHERE WHAT IT READS IS OF BULK AT MOST 1048576: true; the input reads as it did. -/
def lookupAcrossUptoRow : OpenClaim := { program := "ytggfmklppkioeaagreat", sum := "39239bd96ddb6312a8d5dbfa6979c5bf5fc8c932e30838db74ab196e8fb3e73c", func := "robotics/roboticslaw29.LookupAcross", spec := "lookupAcross", inPlace := ["internal/bytealg.IndexByteString", "slices.overlaps[robotics/api.Stamped]"], unfollowed := true, recurses := true, named := ["math/bits.overflowError"], apart := false, narrowed := true }
def LookupAcrossUptoSaid : Prop := lookupAcrossUptoRow.holds Tryz.pinned (OpenSpec.upto lookupAcrossSpec)

/-- 'roboticslaw29.LookupLatest', WHERE WHAT IT READS IS OF BULK AT MOST 1048576: true; the input reads as it did. -/
def lookupLatestUptoRow : OpenClaim := { program := "ytggfmklppkioeaagreat", sum := "39239bd96ddb6312a8d5dbfa6979c5bf5fc8c932e30838db74ab196e8fb3e73c", func := "robotics/roboticslaw29.LookupLatest", spec := "lookupLatest", inPlace := ["internal/bytealg.IndexByteString", "slices.overlaps[robotics/api.Stamped]"], unfollowed := true, recurses := true, named := ["math/bits.overflowError"], apart := false, narrowed := true }
def LookupLatestUptoSaid : Prop := lookupLatestUptoRow.holds Tryz.pinned (OpenSpec.upto lookupLatestSpec)

/-- 'roboticslaw29.LookupPaths', WHERE WHAT IT READS IS OF BULK AT MOST 1048576: true; the input reads as it did. -/
def lookupPathsUptoRow : OpenClaim := { program := "ytggfmklppkioeaagreat", sum := "39239bd96ddb6312a8d5dbfa6979c5bf5fc8c932e30838db74ab196e8fb3e73c", func := "robotics/roboticslaw29.LookupPaths", spec := "lookupPaths", inPlace := ["internal/bytealg.IndexByteString", "slices.overlaps[robotics/api.Stamped]"], unfollowed := true, recurses := true, named := ["math/bits.overflowError"], apart := false, narrowed := true }
def LookupPathsUptoSaid : Prop := lookupPathsUptoRow.holds Tryz.pinned (OpenSpec.upto lookupPathsSpec)

/-- 'roboticslaw29.LookupFinds', WHERE WHAT IT READS IS OF BULK AT MOST 1048576: true; the input reads as it did. -/
def lookupFindsUptoRow : OpenClaim := { program := "ytggfmklppkioeaagreat", sum := "39239bd96ddb6312a8d5dbfa6979c5bf5fc8c932e30838db74ab196e8fb3e73c", func := "robotics/roboticslaw29.LookupFinds", spec := "lookupFinds", inPlace := ["internal/bytealg.IndexByteString", "slices.overlaps[robotics/api.Stamped]"], unfollowed := true, recurses := true, named := ["math/bits.overflowError"], apart := false, narrowed := true }
def LookupFindsUptoSaid : Prop := lookupFindsUptoRow.holds Tryz.pinned (OpenSpec.upto lookupFindsSpec)

end Rows
end Go.Proofs.YtggfmklppkioeaaGreat
