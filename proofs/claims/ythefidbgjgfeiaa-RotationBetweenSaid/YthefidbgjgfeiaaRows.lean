/-
  No cell of these rows narrows 'for every input' (looked for: loops, veiled, ifaces, maps, wideKeys, modest, calm, conditions, laid).
  DERIVED. THE GIVEN ROWS OF THIS SEAT. 5 by the template 'for every input the law returns true; each argument reads behind the call as it read before'; 0 by the template 'total and deterministic' (their statements: YthefidbgjgfeiaaTotals.lean).
  GIVEN WITH THE SEED: the statements are not yours to turn. If you find one false, say at which input.
  Laid BY PROGRAM, IN A SANDBOX (cutbox-rows.mjs): the forced cells as the released guide's own fill.sh prints them over the translation ba3223e08bc1d422… (all of the seat's roots in one cut). By AI agents, Wed Nov 11 2026. No macro, syntax, notation, axiom, sorry.
-/
import Derived.Test.YthefidbgjgfeiaaChecked
import GoSem.Claim
import GoSem.ClaimJoined
import GoSem.ClaimMapViews
import Derived.JoinedTies
import Derived.KernelRfl
namespace Go.Proofs.Ythefidbgjgfeiaa
/- THE CELL 'sum', in the pinned program and in every row, IS THE sha256 OF THE DUMP (.gsa) THAT YthefidbgjgfeiaaProg.lean LOADS. Nothing in Lean hashes anything: it is a label: what it is worth is what the hold of that sum in a sandbox is worth. -/
noncomputable def Try.pinned : Pinned := { name := "ythefidbgjgfeiaa", sum := "ba3223e08bc1d4225ebceb720d8f5e1bb129532ff74178561a122d385d192474", checked := Try.checked }
namespace Rows
def none {H : Type} : Left H := { results := [], args := [] }

/-- 'roboticslaw25.RotationMakes': WHATEVER THE INPUT: true; the input reads as it did. -/
def rotationMakesSpec : ChangeSpec := { name := "rotationMakes", fn := fun _ => fun
  | [d1, d2] => { results := [.lit (.bool true)], args := [d1, d2] }
  | _ => none }
def rotationMakesRow : OpenClaim := { program := "ythefidbgjgfeiaa", sum := "ba3223e08bc1d4225ebceb720d8f5e1bb129532ff74178561a122d385d192474", func := "robotics/roboticslaw25.RotationMakes", spec := "rotationMakes", unfollowed := true, recurses := true, named := ["math/bits.overflowError"], apart := false }
def RotationMakesSaid : Prop := rotationMakesRow.holds Try.pinned (OpenSpec.ofChange rotationMakesSpec)

/-- ITS FALSE NEIGHBOUR: 'it returns false'. Refute it at one input. -/
def rotationMakesWrong : ChangeSpec := { name := "rotationMakes", fn := fun _ => fun
  | [d1, d2] => { results := [.lit (.bool false)], args := [d1, d2] }
  | _ => none }
def RotationMakesWrongFalsely : Prop := rotationMakesRow.holds Try.pinned (OpenSpec.ofChange rotationMakesWrong)

/-- 'roboticslaw25.RotationFromTo': WHATEVER THE INPUT: true; the input reads as it did. -/
def rotationFromToSpec : ChangeSpec := { name := "rotationFromTo", fn := fun _ => fun
  | [d1, d2, d3] => { results := [.lit (.bool true)], args := [d1, d2, d3] }
  | _ => none }
def rotationFromToRow : OpenClaim := { program := "ythefidbgjgfeiaa", sum := "ba3223e08bc1d4225ebceb720d8f5e1bb129532ff74178561a122d385d192474", func := "robotics/roboticslaw25.RotationFromTo", spec := "rotationFromTo", unfollowed := true, recurses := true, named := ["math/bits.overflowError"], apart := false }
def RotationFromToSaid : Prop := rotationFromToRow.holds Try.pinned (OpenSpec.ofChange rotationFromToSpec)

/-- ITS FALSE NEIGHBOUR: 'it returns false'. Refute it at one input. -/
def rotationFromToWrong : ChangeSpec := { name := "rotationFromTo", fn := fun _ => fun
  | [d1, d2, d3] => { results := [.lit (.bool false)], args := [d1, d2, d3] }
  | _ => none }
def RotationFromToWrongFalsely : Prop := rotationFromToRow.holds Try.pinned (OpenSpec.ofChange rotationFromToWrong)

/-- 'roboticslaw25.RotationRigid': WHATEVER THE INPUT: true; the input reads as it did. -/
def rotationRigidSpec : ChangeSpec := { name := "rotationRigid", fn := fun _ => fun
  | [d1, d2, d3] => { results := [.lit (.bool true)], args := [d1, d2, d3] }
  | _ => none }
def rotationRigidRow : OpenClaim := { program := "ythefidbgjgfeiaa", sum := "ba3223e08bc1d4225ebceb720d8f5e1bb129532ff74178561a122d385d192474", func := "robotics/roboticslaw25.RotationRigid", spec := "rotationRigid", unfollowed := true, recurses := true, named := ["math/bits.overflowError"], apart := false }
def RotationRigidSaid : Prop := rotationRigidRow.holds Try.pinned (OpenSpec.ofChange rotationRigidSpec)

/-- ITS FALSE NEIGHBOUR: 'it returns false'. Refute it at one input. -/
def rotationRigidWrong : ChangeSpec := { name := "rotationRigid", fn := fun _ => fun
  | [d1, d2, d3] => { results := [.lit (.bool false)], args := [d1, d2, d3] }
  | _ => none }
def RotationRigidWrongFalsely : Prop := rotationRigidRow.holds Try.pinned (OpenSpec.ofChange rotationRigidWrong)

/-- 'roboticslaw25.RotationGroup': WHATEVER THE INPUT: true; the input reads as it did. -/
def rotationGroupSpec : ChangeSpec := { name := "rotationGroup", fn := fun _ => fun
  | [d1, d2, d3] => { results := [.lit (.bool true)], args := [d1, d2, d3] }
  | _ => none }
def rotationGroupRow : OpenClaim := { program := "ythefidbgjgfeiaa", sum := "ba3223e08bc1d4225ebceb720d8f5e1bb129532ff74178561a122d385d192474", func := "robotics/roboticslaw25.RotationGroup", spec := "rotationGroup", unfollowed := true, recurses := true, named := ["math/bits.overflowError"], apart := false }
def RotationGroupSaid : Prop := rotationGroupRow.holds Try.pinned (OpenSpec.ofChange rotationGroupSpec)

/-- ITS FALSE NEIGHBOUR: 'it returns false'. Refute it at one input. -/
def rotationGroupWrong : ChangeSpec := { name := "rotationGroup", fn := fun _ => fun
  | [d1, d2, d3] => { results := [.lit (.bool false)], args := [d1, d2, d3] }
  | _ => none }
def RotationGroupWrongFalsely : Prop := rotationGroupRow.holds Try.pinned (OpenSpec.ofChange rotationGroupWrong)

/-- 'roboticslaw25.RotationBetween': WHATEVER THE INPUT: true; the input reads as it did. -/
def rotationBetweenSpec : ChangeSpec := { name := "rotationBetween", fn := fun _ => fun
  | [d1, d2, d3] => { results := [.lit (.bool true)], args := [d1, d2, d3] }
  | _ => none }
def rotationBetweenRow : OpenClaim := { program := "ythefidbgjgfeiaa", sum := "ba3223e08bc1d4225ebceb720d8f5e1bb129532ff74178561a122d385d192474", func := "robotics/roboticslaw25.RotationBetween", spec := "rotationBetween", unfollowed := true, recurses := true, named := ["math/bits.overflowError"], apart := false }
def RotationBetweenSaid : Prop := rotationBetweenRow.holds Try.pinned (OpenSpec.ofChange rotationBetweenSpec)

/-- ITS FALSE NEIGHBOUR: 'it returns false'. Refute it at one input. -/
def rotationBetweenWrong : ChangeSpec := { name := "rotationBetween", fn := fun _ => fun
  | [d1, d2, d3] => { results := [.lit (.bool false)], args := [d1, d2, d3] }
  | _ => none }
def RotationBetweenWrongFalsely : Prop := rotationBetweenRow.holds Try.pinned (OpenSpec.ofChange rotationBetweenWrong)

/- THE SECOND FORM. 'bulk': how many values and letters a reading holds, each counted each time it is reached (what is shared counts as often as it is met; a slice's spare places count too). A statement '..UptoSaid' is the law's where the arguments, and the package variables that the reading takes, are together of bulk at most 1048576: NARROWER than '..Said'. Prove '..Said' where nothing that the law and all that it calls make is longer than what came in: it says more and counts as full. Else prove '..UptoSaid'. A law counts once. -/
mutual
def uptoBulk {H : Type} : DataW H → Nat
  | .lit (.string bytes) => bytes.length + 1
  | .lit _ => 1
  | .nil => 1
  | .ptr d => uptoBulk d + 1
  | .slice elems spare => uptoBulkAll elems + uptoBulkAll spare + 1
  | .agg parts => uptoBulkAll parts + 1
  | .iface _ d => uptoBulk d + 1
  | .map entries => uptoBulkEntries entries + 1
  | .held _ => 1
def uptoBulkAll {H : Type} : List (DataW H) → Nat
  | [] => 0
  | d :: r => uptoBulk d + uptoBulkAll r
def uptoBulkEntries {H : Type} : List (Lit × DataW H) → Nat
  | [] => 0
  | x :: r => uptoBulkEntry x + uptoBulkEntries r
def uptoBulkEntry {H : Type} : Lit × DataW H → Nat
  | (.string bytes, d) => bytes.length + uptoBulk d + 1
  | (_, d) => uptoBulk d + 1
 end
def uptoSmall : (H : Type) → List (DataW H) → Bool := fun _ ds => decide (uptoBulkAll ds ≤ 1048576)
def OpenSpec.upto (s : _root_.Go.ChangeSpec) : _root_.Go.OpenSpec := { _root_.Go.OpenSpec.ofChange s with cond := some uptoSmall }

/-- 'roboticslaw25.RotationMakes', WHERE WHAT IT READS IS OF BULK AT MOST 1048576: true; the input reads as it did. -/
def rotationMakesUptoRow : OpenClaim := { program := "ythefidbgjgfeiaa", sum := "ba3223e08bc1d4225ebceb720d8f5e1bb129532ff74178561a122d385d192474", func := "robotics/roboticslaw25.RotationMakes", spec := "rotationMakes", unfollowed := true, recurses := true, named := ["math/bits.overflowError"], apart := false, narrowed := true }
def RotationMakesUptoSaid : Prop := rotationMakesUptoRow.holds Try.pinned (OpenSpec.upto rotationMakesSpec)

/-- 'roboticslaw25.RotationFromTo', WHERE WHAT IT READS IS OF BULK AT MOST 1048576: true; the input reads as it did. -/
def rotationFromToUptoRow : OpenClaim := { program := "ythefidbgjgfeiaa", sum := "ba3223e08bc1d4225ebceb720d8f5e1bb129532ff74178561a122d385d192474", func := "robotics/roboticslaw25.RotationFromTo", spec := "rotationFromTo", unfollowed := true, recurses := true, named := ["math/bits.overflowError"], apart := false, narrowed := true }
def RotationFromToUptoSaid : Prop := rotationFromToUptoRow.holds Try.pinned (OpenSpec.upto rotationFromToSpec)

/-- 'roboticslaw25.RotationRigid', WHERE WHAT IT READS IS OF BULK AT MOST 1048576: true; the input reads as it did. -/
def rotationRigidUptoRow : OpenClaim := { program := "ythefidbgjgfeiaa", sum := "ba3223e08bc1d4225ebceb720d8f5e1bb129532ff74178561a122d385d192474", func := "robotics/roboticslaw25.RotationRigid", spec := "rotationRigid", unfollowed := true, recurses := true, named := ["math/bits.overflowError"], apart := false, narrowed := true }
def RotationRigidUptoSaid : Prop := rotationRigidUptoRow.holds Try.pinned (OpenSpec.upto rotationRigidSpec)

/-- 'roboticslaw25.RotationGroup', WHERE WHAT IT READS IS OF BULK AT MOST 1048576: true; the input reads as it did. -/
def rotationGroupUptoRow : OpenClaim := { program := "ythefidbgjgfeiaa", sum := "ba3223e08bc1d4225ebceb720d8f5e1bb129532ff74178561a122d385d192474", func := "robotics/roboticslaw25.RotationGroup", spec := "rotationGroup", unfollowed := true, recurses := true, named := ["math/bits.overflowError"], apart := false, narrowed := true }
def RotationGroupUptoSaid : Prop := rotationGroupUptoRow.holds Try.pinned (OpenSpec.upto rotationGroupSpec)

/-- 'roboticslaw25.RotationBetween', WHERE WHAT IT READS IS OF BULK AT MOST 1048576: true; the input reads as it did. -/
def rotationBetweenUptoRow : OpenClaim := { program := "ythefidbgjgfeiaa", sum := "ba3223e08bc1d4225ebceb720d8f5e1bb129532ff74178561a122d385d192474", func := "robotics/roboticslaw25.RotationBetween", spec := "rotationBetween", unfollowed := true, recurses := true, named := ["math/bits.overflowError"], apart := false, narrowed := true }
def RotationBetweenUptoSaid : Prop := rotationBetweenUptoRow.holds Try.pinned (OpenSpec.upto rotationBetweenSpec)

end Rows
end Go.Proofs.Ythefidbgjgfeiaa
