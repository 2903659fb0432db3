/-
  No cell of these rows narrows 'for every input' (looked for: loops, veiled, ifaces, maps, wideKeys, modest, calm, conditions, laid).
  DERIVED. THE GIVEN ROWS OF THIS SEAT. 8 by the template 'for every input the law returns true; each argument reads behind the call as it read before'; 0 by the template 'total and deterministic' (their statements: YtldnimohnbjfaaaTotals.lean).
  GIVEN WITH THE SEED: the statements are not yours to turn. If you find one false, say at which input.
  Laid BY PROGRAM, IN A SANDBOX (cutbox-rows.mjs): the forced cells as the released guide's own fill.sh prints them over the translation 50a68d8314ac7e22… (all of the seat's roots in one cut). By AI agents, Wed Nov 11 2026. No macro, syntax, notation, axiom, sorry.
-/
import Derived.Test.YtldnimohnbjfaaaChecked
import GoSem.Claim
import GoSem.ClaimJoined
import GoSem.ClaimMapViews
import Derived.JoinedTies
import Derived.KernelRfl
namespace Go.Proofs.Ytldnimohnbjfaaa
/- THE CELL 'sum', in the pinned program and in every row, IS THE sha256 OF THE DUMP (.gsa) THAT YtldnimohnbjfaaaProg.lean LOADS. Nothing in Lean hashes anything: it is a label: what it is worth is what the hold of that sum in a sandbox is worth. -/
noncomputable def Try.pinned : Pinned := { name := "ytldnimohnbjfaaa", sum := "50a68d8314ac7e22a44bfd9a78faaeeb09a4df095b99ca0517a37c7afbb73ff0", checked := Try.checked }
namespace Rows
def none {H : Type} : Left H := { results := [], args := [] }

/-- 'roboticslaw02.FractionValid': WHATEVER THE INPUT: true; the input reads as it did. -/
def fractionValidSpec : ChangeSpec := { name := "fractionValid", fn := fun _ => fun
  | [d] => { results := [.lit (.bool true)], args := [d] }
  | _ => none }
def fractionValidRow : OpenClaim := { program := "ytldnimohnbjfaaa", sum := "50a68d8314ac7e22a44bfd9a78faaeeb09a4df095b99ca0517a37c7afbb73ff0", func := "robotics/roboticslaw02.FractionValid", spec := "fractionValid", inPlace := ["internal/bytealg.IndexByteString", "internal/bytealg.IndexString"], named := ["math/bits.overflowError", "internal/bytealg.MaxLen"], apart := false }
def FractionValidSaid : Prop := fractionValidRow.holds Try.pinned (OpenSpec.ofChange fractionValidSpec)

/-- ITS FALSE NEIGHBOUR: 'it returns false'. Refute it at one input. -/
def fractionValidWrong : ChangeSpec := { name := "fractionValid", fn := fun _ => fun
  | [d] => { results := [.lit (.bool false)], args := [d] }
  | _ => none }
def FractionValidWrongFalsely : Prop := fractionValidRow.holds Try.pinned (OpenSpec.ofChange fractionValidWrong)

/-- 'roboticslaw02.FractionTexts': WHATEVER THE INPUT: true; the input reads as it did. -/
def fractionTextsSpec : ChangeSpec := { name := "fractionTexts", fn := fun _ => fun
  | [d1, d2] => { results := [.lit (.bool true)], args := [d1, d2] }
  | _ => none }
def fractionTextsRow : OpenClaim := { program := "ytldnimohnbjfaaa", sum := "50a68d8314ac7e22a44bfd9a78faaeeb09a4df095b99ca0517a37c7afbb73ff0", func := "robotics/roboticslaw02.FractionTexts", spec := "fractionTexts", inPlace := ["internal/bytealg.IndexByteString", "internal/bytealg.IndexString"], named := ["math/bits.overflowError", "internal/bytealg.MaxLen"], apart := false }
def FractionTextsSaid : Prop := fractionTextsRow.holds Try.pinned (OpenSpec.ofChange fractionTextsSpec)

/-- ITS FALSE NEIGHBOUR: 'it returns false'. Refute it at one input. -/
def fractionTextsWrong : ChangeSpec := { name := "fractionTexts", fn := fun _ => fun
  | [d1, d2] => { results := [.lit (.bool false)], args := [d1, d2] }
  | _ => none }
def FractionTextsWrongFalsely : Prop := fractionTextsRow.holds Try.pinned (OpenSpec.ofChange fractionTextsWrong)

/-- 'roboticslaw02.FractionMakes': WHATEVER THE INPUT: true; the input reads as it did. -/
def fractionMakesSpec : ChangeSpec := { name := "fractionMakes", fn := fun _ => fun
  | [d] => { results := [.lit (.bool true)], args := [d] }
  | _ => none }
def fractionMakesRow : OpenClaim := { program := "ytldnimohnbjfaaa", sum := "50a68d8314ac7e22a44bfd9a78faaeeb09a4df095b99ca0517a37c7afbb73ff0", func := "robotics/roboticslaw02.FractionMakes", spec := "fractionMakes", inPlace := ["internal/bytealg.IndexByteString", "internal/bytealg.IndexString"], named := ["math/bits.overflowError", "internal/bytealg.MaxLen"], apart := false }
def FractionMakesSaid : Prop := fractionMakesRow.holds Try.pinned (OpenSpec.ofChange fractionMakesSpec)

/-- ITS FALSE NEIGHBOUR: 'it returns false'. Refute it at one input. -/
def fractionMakesWrong : ChangeSpec := { name := "fractionMakes", fn := fun _ => fun
  | [d] => { results := [.lit (.bool false)], args := [d] }
  | _ => none }
def FractionMakesWrongFalsely : Prop := fractionMakesRow.holds Try.pinned (OpenSpec.ofChange fractionMakesWrong)

/-- 'roboticslaw02.FractionLerps': WHATEVER THE INPUT: true; the input reads as it did. -/
def fractionLerpsSpec : ChangeSpec := { name := "fractionLerps", fn := fun _ => fun
  | [d1, d2, d3] => { results := [.lit (.bool true)], args := [d1, d2, d3] }
  | _ => none }
def fractionLerpsRow : OpenClaim := { program := "ytldnimohnbjfaaa", sum := "50a68d8314ac7e22a44bfd9a78faaeeb09a4df095b99ca0517a37c7afbb73ff0", func := "robotics/roboticslaw02.FractionLerps", spec := "fractionLerps", inPlace := ["internal/bytealg.IndexByteString", "internal/bytealg.IndexString"], named := ["math/bits.overflowError", "internal/bytealg.MaxLen"], apart := false }
def FractionLerpsSaid : Prop := fractionLerpsRow.holds Try.pinned (OpenSpec.ofChange fractionLerpsSpec)

/-- ITS FALSE NEIGHBOUR: 'it returns false'. Refute it at one input. -/
def fractionLerpsWrong : ChangeSpec := { name := "fractionLerps", fn := fun _ => fun
  | [d1, d2, d3] => { results := [.lit (.bool false)], args := [d1, d2, d3] }
  | _ => none }
def FractionLerpsWrongFalsely : Prop := fractionLerpsRow.holds Try.pinned (OpenSpec.ofChange fractionLerpsWrong)

/-- 'roboticslaw02.FractionFloors': WHATEVER THE INPUT: true; the input reads as it did. -/
def fractionFloorsSpec : ChangeSpec := { name := "fractionFloors", fn := fun _ => fun
  | [d] => { results := [.lit (.bool true)], args := [d] }
  | _ => none }
def fractionFloorsRow : OpenClaim := { program := "ytldnimohnbjfaaa", sum := "50a68d8314ac7e22a44bfd9a78faaeeb09a4df095b99ca0517a37c7afbb73ff0", func := "robotics/roboticslaw02.FractionFloors", spec := "fractionFloors", inPlace := ["internal/bytealg.IndexByteString", "internal/bytealg.IndexString"], named := ["math/bits.overflowError", "internal/bytealg.MaxLen"], apart := false }
def FractionFloorsSaid : Prop := fractionFloorsRow.holds Try.pinned (OpenSpec.ofChange fractionFloorsSpec)

/-- ITS FALSE NEIGHBOUR: 'it returns false'. Refute it at one input. -/
def fractionFloorsWrong : ChangeSpec := { name := "fractionFloors", fn := fun _ => fun
  | [d] => { results := [.lit (.bool false)], args := [d] }
  | _ => none }
def FractionFloorsWrongFalsely : Prop := fractionFloorsRow.holds Try.pinned (OpenSpec.ofChange fractionFloorsWrong)

/-- 'roboticslaw02.FractionOrders': WHATEVER THE INPUT: true; the input reads as it did. -/
def fractionOrdersSpec : ChangeSpec := { name := "fractionOrders", fn := fun _ => fun
  | [d1, d2, d3] => { results := [.lit (.bool true)], args := [d1, d2, d3] }
  | _ => none }
def fractionOrdersRow : OpenClaim := { program := "ytldnimohnbjfaaa", sum := "50a68d8314ac7e22a44bfd9a78faaeeb09a4df095b99ca0517a37c7afbb73ff0", func := "robotics/roboticslaw02.FractionOrders", spec := "fractionOrders", inPlace := ["internal/bytealg.IndexByteString", "internal/bytealg.IndexString"], named := ["math/bits.overflowError", "internal/bytealg.MaxLen"], apart := false }
def FractionOrdersSaid : Prop := fractionOrdersRow.holds Try.pinned (OpenSpec.ofChange fractionOrdersSpec)

/-- ITS FALSE NEIGHBOUR: 'it returns false'. Refute it at one input. -/
def fractionOrdersWrong : ChangeSpec := { name := "fractionOrders", fn := fun _ => fun
  | [d1, d2, d3] => { results := [.lit (.bool false)], args := [d1, d2, d3] }
  | _ => none }
def FractionOrdersWrongFalsely : Prop := fractionOrdersRow.holds Try.pinned (OpenSpec.ofChange fractionOrdersWrong)

/-- 'roboticslaw02.FractionField': WHATEVER THE INPUT: true; the input reads as it did. -/
def fractionFieldSpec : ChangeSpec := { name := "fractionField", fn := fun _ => fun
  | [d1, d2, d3] => { results := [.lit (.bool true)], args := [d1, d2, d3] }
  | _ => none }
def fractionFieldRow : OpenClaim := { program := "ytldnimohnbjfaaa", sum := "50a68d8314ac7e22a44bfd9a78faaeeb09a4df095b99ca0517a37c7afbb73ff0", func := "robotics/roboticslaw02.FractionField", spec := "fractionField", inPlace := ["internal/bytealg.IndexByteString", "internal/bytealg.IndexString"], named := ["math/bits.overflowError", "internal/bytealg.MaxLen"], apart := false }
def FractionFieldSaid : Prop := fractionFieldRow.holds Try.pinned (OpenSpec.ofChange fractionFieldSpec)

/-- ITS FALSE NEIGHBOUR: 'it returns false'. Refute it at one input. -/
def fractionFieldWrong : ChangeSpec := { name := "fractionField", fn := fun _ => fun
  | [d1, d2, d3] => { results := [.lit (.bool false)], args := [d1, d2, d3] }
  | _ => none }
def FractionFieldWrongFalsely : Prop := fractionFieldRow.holds Try.pinned (OpenSpec.ofChange fractionFieldWrong)

/-- 'roboticslaw02.FractionComputes': WHATEVER THE INPUT: true; the input reads as it did. -/
def fractionComputesSpec : ChangeSpec := { name := "fractionComputes", fn := fun _ => fun
  | [d1, d2] => { results := [.lit (.bool true)], args := [d1, d2] }
  | _ => none }
def fractionComputesRow : OpenClaim := { program := "ytldnimohnbjfaaa", sum := "50a68d8314ac7e22a44bfd9a78faaeeb09a4df095b99ca0517a37c7afbb73ff0", func := "robotics/roboticslaw02.FractionComputes", spec := "fractionComputes", inPlace := ["internal/bytealg.IndexByteString", "internal/bytealg.IndexString"], named := ["math/bits.overflowError", "internal/bytealg.MaxLen"], apart := false }
def FractionComputesSaid : Prop := fractionComputesRow.holds Try.pinned (OpenSpec.ofChange fractionComputesSpec)

/-- ITS FALSE NEIGHBOUR: 'it returns false'. Refute it at one input. -/
def fractionComputesWrong : ChangeSpec := { name := "fractionComputes", fn := fun _ => fun
  | [d1, d2] => { results := [.lit (.bool false)], args := [d1, d2] }
  | _ => none }
def FractionComputesWrongFalsely : Prop := fractionComputesRow.holds Try.pinned (OpenSpec.ofChange fractionComputesWrong)

/- THE SECOND FORM. 'bulk': how many values and letters a reading holds, each counted each time it is reached (what is shared counts as often as it is met; a slice's spare places count too). A statement '..UptoSaid' is the law's where the arguments, and the package variables that the reading takes, are together of bulk at most 1048576: NARROWER than '..Said'. Prove '..Said' where nothing that the law and all that it calls make is longer than what came in: it says more and counts as full. Else prove '..UptoSaid'. A law counts once. -/
mutual
def uptoBulk {H : Type} : DataW H → Nat
  | .lit (.string bytes) => bytes.length + 1
  | .lit _ => 1
  | .nil => 1
  | .ptr d => uptoBulk d + 1
  | .slice elems spare => uptoBulkAll elems + uptoBulkAll spare + 1
  | .agg parts => uptoBulkAll parts + 1
  | .iface _ d => uptoBulk d + 1
  | .map entries => uptoBulkEntries entries + 1
  | .held _ => 1
def uptoBulkAll {H : Type} : List (DataW H) → Nat
  | [] => 0
  | d :: r => uptoBulk d + uptoBulkAll r
def uptoBulkEntries {H : Type} : List (Lit × DataW H) → Nat
  | [] => 0
  | x :: r => uptoBulkEntry x + uptoBulkEntries r
def uptoBulkEntry {H : Type} : Lit × DataW H → Nat
  | (.string bytes, d) => bytes.length + uptoBulk d + 1
  | (_, d) => uptoBulk d + 1
 end
def uptoSmall : (H : Type) → List (DataW H) → Bool := fun _ ds => decide (uptoBulkAll ds ≤ 1048576)
def OpenSpec.upto (s : _root_.Go.ChangeSpec) : _root_.Go.OpenSpec := { _root_.Go.OpenSpec.ofChange s with cond := some uptoSmall }

/-- 'roboticslaw02.FractionValid', WHERE WHAT IT READS IS OF BULK AT MOST 1048576: true; the input reads as it did. -/
def fractionValidUptoRow : OpenClaim := { program := "ytldnimohnbjfaaa", sum := "50a68d8314ac7e22a44bfd9a78faaeeb09a4df095b99ca0517a37c7afbb73ff0", func := "robotics/roboticslaw02.FractionValid", spec := "fractionValid", inPlace := ["internal/bytealg.IndexByteString", "internal/bytealg.IndexString"], named := ["math/bits.overflowError", "internal/bytealg.MaxLen"], apart := false, narrowed := true }
def FractionValidUptoSaid : Prop := fractionValidUptoRow.holds Try.pinned (OpenSpec.upto fractionValidSpec)

/-- 'roboticslaw02.FractionTexts', WHERE WHAT IT READS IS OF BULK AT MOST 1048576: true; the input reads as it did. -/
def fractionTextsUptoRow : OpenClaim := { program := "ytldnimohnbjfaaa", sum := "50a68d8314ac7e22a44bfd9a78faaeeb09a4df095b99ca0517a37c7afbb73ff0", func := "robotics/roboticslaw02.FractionTexts", spec := "fractionTexts", inPlace := ["internal/bytealg.IndexByteString", "internal/bytealg.IndexString"], named := ["math/bits.overflowError", "internal/bytealg.MaxLen"], apart := false, narrowed := true }
def FractionTextsUptoSaid : Prop := fractionTextsUptoRow.holds Try.pinned (OpenSpec.upto fractionTextsSpec)

/-- 'roboticslaw02.FractionMakes', WHERE WHAT IT READS IS OF BULK AT MOST 1048576: true; the input reads as it did. -/
def fractionMakesUptoRow : OpenClaim := { program := "ytldnimohnbjfaaa", sum := "50a68d8314ac7e22a44bfd9a78faaeeb09a4df095b99ca0517a37c7afbb73ff0", func := "robotics/roboticslaw02.FractionMakes", spec := "fractionMakes", inPlace := ["internal/bytealg.IndexByteString", "internal/bytealg.IndexString"], named := ["math/bits.overflowError", "internal/bytealg.MaxLen"], apart := false, narrowed := true }
def FractionMakesUptoSaid : Prop := fractionMakesUptoRow.holds Try.pinned (OpenSpec.upto fractionMakesSpec)

/-- 'roboticslaw02.FractionLerps', WHERE WHAT IT READS IS OF BULK AT MOST 1048576: true; the input reads as it did. -/
def fractionLerpsUptoRow : OpenClaim := { program := "ytldnimohnbjfaaa", sum := "50a68d8314ac7e22a44bfd9a78faaeeb09a4df095b99ca0517a37c7afbb73ff0", func := "robotics/roboticslaw02.FractionLerps", spec := "fractionLerps", inPlace := ["internal/bytealg.IndexByteString", "internal/bytealg.IndexString"], named := ["math/bits.overflowError", "internal/bytealg.MaxLen"], apart := false, narrowed := true }
def FractionLerpsUptoSaid : Prop := fractionLerpsUptoRow.holds Try.pinned (OpenSpec.upto fractionLerpsSpec)

/-- 'roboticslaw02.FractionFloors', WHERE WHAT IT READS IS OF BULK AT MOST 1048576: true; the input reads as it did. -/
def fractionFloorsUptoRow : OpenClaim := { program := "ytldnimohnbjfaaa", sum := "50a68d8314ac7e22a44bfd9a78faaeeb09a4df095b99ca0517a37c7afbb73ff0", func := "robotics/roboticslaw02.FractionFloors", spec := "fractionFloors", inPlace := ["internal/bytealg.IndexByteString", "internal/bytealg.IndexString"], named := ["math/bits.overflowError", "internal/bytealg.MaxLen"], apart := false, narrowed := true }
def FractionFloorsUptoSaid : Prop := fractionFloorsUptoRow.holds Try.pinned (OpenSpec.upto fractionFloorsSpec)

/-- 'roboticslaw02.FractionOrders', WHERE WHAT IT READS IS OF BULK AT MOST 1048576: true; the input reads as it did. -/
def fractionOrdersUptoRow : OpenClaim := { program := "ytldnimohnbjfaaa", sum := "50a68d8314ac7e22a44bfd9a78faaeeb09a4df095b99ca0517a37c7afbb73ff0", func := "robotics/roboticslaw02.FractionOrders", spec := "fractionOrders", inPlace := ["internal/bytealg.IndexByteString", "internal/bytealg.IndexString"], named := ["math/bits.overflowError", "internal/bytealg.MaxLen"], apart := false, narrowed := true }
def FractionOrdersUptoSaid : Prop := fractionOrdersUptoRow.holds Try.pinned (OpenSpec.upto fractionOrdersSpec)

/-- 'roboticslaw02.FractionField', WHERE WHAT IT READS IS OF BULK AT MOST 1048576: true; the input reads as it did. -/
def fractionFieldUptoRow : OpenClaim := { program := "ytldnimohnbjfaaa", sum := "50a68d8314ac7e22a44bfd9a78faaeeb09a4df095b99ca0517a37c7afbb73ff0", func := "robotics/roboticslaw02.FractionField", spec := "fractionField", inPlace := ["internal/bytealg.IndexByteString", "internal/bytealg.IndexString"], named := ["math/bits.overflowError", "internal/bytealg.MaxLen"], apart := false, narrowed := true }
def FractionFieldUptoSaid : Prop := fractionFieldUptoRow.holds Try.pinned (OpenSpec.upto fractionFieldSpec)

/-- 'roboticslaw02.FractionComputes', WHERE WHAT IT READS IS OF BULK AT MOST 1048576: true; the input reads as it did. -/
def fractionComputesUptoRow : OpenClaim := { program := "ytldnimohnbjfaaa", sum := "50a68d8314ac7e22a44bfd9a78faaeeb09a4df095b99ca0517a37c7afbb73ff0", func := "robotics/roboticslaw02.FractionComputes", spec := "fractionComputes", inPlace := ["internal/bytealg.IndexByteString", "internal/bytealg.IndexString"], named := ["math/bits.overflowError", "internal/bytealg.MaxLen"], apart := false, narrowed := true }
def FractionComputesUptoSaid : Prop := fractionComputesUptoRow.holds Try.pinned (OpenSpec.upto fractionComputesSpec)

end Rows
end Go.Proofs.Ytldnimohnbjfaaa
