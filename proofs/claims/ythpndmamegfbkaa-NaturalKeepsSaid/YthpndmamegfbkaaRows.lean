/-
  No cell of these rows narrows 'for every input' (looked for: loops, veiled, ifaces, maps, wideKeys, modest, calm, conditions, laid).
  DERIVED. THE GIVEN ROWS OF THIS SEAT. 9 by the template 'for every input the law returns true; each argument reads behind the call as it read before'; 0 by the template 'total and deterministic' (their statements: YthpndmamegfbkaaTotals.lean).
  GIVEN WITH THE SEED: the statements are not yours to turn. If you find one false, say at which input.
  Laid BY PROGRAM, IN A SANDBOX (cutbox-rows.mjs): the forced cells as the released guide's own fill.sh prints them over the translation 1daab112d5a324ca… (all of the seat's roots in one cut). By AI agents, Wed Nov 11 2026. No macro, syntax, notation, axiom, sorry.
-/
import Derived.Test.YthpndmamegfbkaaChecked
import GoSem.Claim
import GoSem.ClaimJoined
import GoSem.ClaimMapViews
import Derived.JoinedTies
import Derived.KernelRfl
namespace Go.Proofs.Ythpndmamegfbkaa
/- THE CELL 'sum', in the pinned program and in every row, IS THE sha256 OF THE DUMP (.gsa) THAT YthpndmamegfbkaaProg.lean LOADS. Nothing in Lean hashes anything: it is a label: what it is worth is what the hold of that sum in a sandbox is worth. -/
noncomputable def Try.pinned : Pinned := { name := "ythpndmamegfbkaa", sum := "1daab112d5a324cafa45c1403d8276aeffd35eab694e191443a07ad9b98ef8ab", checked := Try.checked }
namespace Rows
def none {H : Type} : Left H := { results := [], args := [] }

/-- 'roboticslaw01.NaturalDivides': WHATEVER THE INPUT: true; the input reads as it did. -/
def naturalDividesSpec : ChangeSpec := { name := "naturalDivides", fn := fun _ => fun
  | [d1, d2] => { results := [.lit (.bool true)], args := [d1, d2] }
  | _ => none }
def naturalDividesRow : OpenClaim := { program := "ythpndmamegfbkaa", sum := "1daab112d5a324cafa45c1403d8276aeffd35eab694e191443a07ad9b98ef8ab", func := "robotics/roboticslaw01.NaturalDivides", spec := "naturalDivides", named := ["math/bits.overflowError"], apart := false }
def NaturalDividesSaid : Prop := naturalDividesRow.holds Try.pinned (OpenSpec.ofChange naturalDividesSpec)

/-- ITS FALSE NEIGHBOUR: 'it returns false'. Refute it at one input. -/
def naturalDividesWrong : ChangeSpec := { name := "naturalDivides", fn := fun _ => fun
  | [d1, d2] => { results := [.lit (.bool false)], args := [d1, d2] }
  | _ => none }
def NaturalDividesWrongFalsely : Prop := naturalDividesRow.holds Try.pinned (OpenSpec.ofChange naturalDividesWrong)

/-- 'roboticslaw01.NaturalGcd': WHATEVER THE INPUT: true; the input reads as it did. -/
def naturalGcdSpec : ChangeSpec := { name := "naturalGcd", fn := fun _ => fun
  | [d1, d2, d3] => { results := [.lit (.bool true)], args := [d1, d2, d3] }
  | _ => none }
def naturalGcdRow : OpenClaim := { program := "ythpndmamegfbkaa", sum := "1daab112d5a324cafa45c1403d8276aeffd35eab694e191443a07ad9b98ef8ab", func := "robotics/roboticslaw01.NaturalGcd", spec := "naturalGcd", named := ["math/bits.overflowError"], apart := false }
def NaturalGcdSaid : Prop := naturalGcdRow.holds Try.pinned (OpenSpec.ofChange naturalGcdSpec)

/-- ITS FALSE NEIGHBOUR: 'it returns false'. Refute it at one input. -/
def naturalGcdWrong : ChangeSpec := { name := "naturalGcd", fn := fun _ => fun
  | [d1, d2, d3] => { results := [.lit (.bool false)], args := [d1, d2, d3] }
  | _ => none }
def NaturalGcdWrongFalsely : Prop := naturalGcdRow.holds Try.pinned (OpenSpec.ofChange naturalGcdWrong)

/-- 'roboticslaw01.NaturalRing': WHATEVER THE INPUT: true; the input reads as it did. -/
def naturalRingSpec : ChangeSpec := { name := "naturalRing", fn := fun _ => fun
  | [d1, d2, d3] => { results := [.lit (.bool true)], args := [d1, d2, d3] }
  | _ => none }
def naturalRingRow : OpenClaim := { program := "ythpndmamegfbkaa", sum := "1daab112d5a324cafa45c1403d8276aeffd35eab694e191443a07ad9b98ef8ab", func := "robotics/roboticslaw01.NaturalRing", spec := "naturalRing", named := ["math/bits.overflowError"], apart := false }
def NaturalRingSaid : Prop := naturalRingRow.holds Try.pinned (OpenSpec.ofChange naturalRingSpec)

/-- ITS FALSE NEIGHBOUR: 'it returns false'. Refute it at one input. -/
def naturalRingWrong : ChangeSpec := { name := "naturalRing", fn := fun _ => fun
  | [d1, d2, d3] => { results := [.lit (.bool false)], args := [d1, d2, d3] }
  | _ => none }
def NaturalRingWrongFalsely : Prop := naturalRingRow.holds Try.pinned (OpenSpec.ofChange naturalRingWrong)

/-- 'roboticslaw01.NaturalParses': WHATEVER THE INPUT: true; the input reads as it did. -/
def naturalParsesSpec : ChangeSpec := { name := "naturalParses", fn := fun _ => fun
  | [d] => { results := [.lit (.bool true)], args := [d] }
  | _ => none }
def naturalParsesRow : OpenClaim := { program := "ythpndmamegfbkaa", sum := "1daab112d5a324cafa45c1403d8276aeffd35eab694e191443a07ad9b98ef8ab", func := "robotics/roboticslaw01.NaturalParses", spec := "naturalParses", named := ["math/bits.overflowError"], apart := false }
def NaturalParsesSaid : Prop := naturalParsesRow.holds Try.pinned (OpenSpec.ofChange naturalParsesSpec)

/-- ITS FALSE NEIGHBOUR: 'it returns false'. Refute it at one input. -/
def naturalParsesWrong : ChangeSpec := { name := "naturalParses", fn := fun _ => fun
  | [d] => { results := [.lit (.bool false)], args := [d] }
  | _ => none }
def NaturalParsesWrongFalsely : Prop := naturalParsesRow.holds Try.pinned (OpenSpec.ofChange naturalParsesWrong)

/-- 'roboticslaw01.NaturalRoundTrip': WHATEVER THE INPUT: true; the input reads as it did. -/
def naturalRoundTripSpec : ChangeSpec := { name := "naturalRoundTrip", fn := fun _ => fun
  | [d] => { results := [.lit (.bool true)], args := [d] }
  | _ => none }
def naturalRoundTripRow : OpenClaim := { program := "ythpndmamegfbkaa", sum := "1daab112d5a324cafa45c1403d8276aeffd35eab694e191443a07ad9b98ef8ab", func := "robotics/roboticslaw01.NaturalRoundTrip", spec := "naturalRoundTrip", named := ["math/bits.overflowError"], apart := false }
def NaturalRoundTripSaid : Prop := naturalRoundTripRow.holds Try.pinned (OpenSpec.ofChange naturalRoundTripSpec)

/-- ITS FALSE NEIGHBOUR: 'it returns false'. Refute it at one input. -/
def naturalRoundTripWrong : ChangeSpec := { name := "naturalRoundTrip", fn := fun _ => fun
  | [d] => { results := [.lit (.bool false)], args := [d] }
  | _ => none }
def NaturalRoundTripWrongFalsely : Prop := naturalRoundTripRow.holds Try.pinned (OpenSpec.ofChange naturalRoundTripWrong)

/-- 'roboticslaw01.NaturalKeeps': WHATEVER THE INPUT: true; the input reads as it did. -/
def naturalKeepsSpec : ChangeSpec := { name := "naturalKeeps", fn := fun _ => fun
  | [d1, d2] => { results := [.lit (.bool true)], args := [d1, d2] }
  | _ => none }
def naturalKeepsRow : OpenClaim := { program := "ythpndmamegfbkaa", sum := "1daab112d5a324cafa45c1403d8276aeffd35eab694e191443a07ad9b98ef8ab", func := "robotics/roboticslaw01.NaturalKeeps", spec := "naturalKeeps", named := ["math/bits.overflowError"], apart := false }
def NaturalKeepsSaid : Prop := naturalKeepsRow.holds Try.pinned (OpenSpec.ofChange naturalKeepsSpec)

/-- ITS FALSE NEIGHBOUR: 'it returns false'. Refute it at one input. -/
def naturalKeepsWrong : ChangeSpec := { name := "naturalKeeps", fn := fun _ => fun
  | [d1, d2] => { results := [.lit (.bool false)], args := [d1, d2] }
  | _ => none }
def NaturalKeepsWrongFalsely : Prop := naturalKeepsRow.holds Try.pinned (OpenSpec.ofChange naturalKeepsWrong)

/-- 'roboticslaw01.NaturalTells': WHATEVER THE INPUT: true; the input reads as it did. -/
def naturalTellsSpec : ChangeSpec := { name := "naturalTells", fn := fun _ => fun
  | [d1, d2] => { results := [.lit (.bool true)], args := [d1, d2] }
  | _ => none }
def naturalTellsRow : OpenClaim := { program := "ythpndmamegfbkaa", sum := "1daab112d5a324cafa45c1403d8276aeffd35eab694e191443a07ad9b98ef8ab", func := "robotics/roboticslaw01.NaturalTells", spec := "naturalTells", named := ["math/bits.overflowError"], apart := false }
def NaturalTellsSaid : Prop := naturalTellsRow.holds Try.pinned (OpenSpec.ofChange naturalTellsSpec)

/-- ITS FALSE NEIGHBOUR: 'it returns false'. Refute it at one input. -/
def naturalTellsWrong : ChangeSpec := { name := "naturalTells", fn := fun _ => fun
  | [d1, d2] => { results := [.lit (.bool false)], args := [d1, d2] }
  | _ => none }
def NaturalTellsWrongFalsely : Prop := naturalTellsRow.holds Try.pinned (OpenSpec.ofChange naturalTellsWrong)

/-- 'roboticslaw01.NaturalValid': WHATEVER THE INPUT: true; the input reads as it did. -/
def naturalValidSpec : ChangeSpec := { name := "naturalValid", fn := fun _ => fun
  | [d1, d2] => { results := [.lit (.bool true)], args := [d1, d2] }
  | _ => none }
def naturalValidRow : OpenClaim := { program := "ythpndmamegfbkaa", sum := "1daab112d5a324cafa45c1403d8276aeffd35eab694e191443a07ad9b98ef8ab", func := "robotics/roboticslaw01.NaturalValid", spec := "naturalValid", named := ["math/bits.overflowError"], apart := false }
def NaturalValidSaid : Prop := naturalValidRow.holds Try.pinned (OpenSpec.ofChange naturalValidSpec)

/-- ITS FALSE NEIGHBOUR: 'it returns false'. Refute it at one input. -/
def naturalValidWrong : ChangeSpec := { name := "naturalValid", fn := fun _ => fun
  | [d1, d2] => { results := [.lit (.bool false)], args := [d1, d2] }
  | _ => none }
def NaturalValidWrongFalsely : Prop := naturalValidRow.holds Try.pinned (OpenSpec.ofChange naturalValidWrong)

/-- 'roboticslaw01.NaturalOrders': WHATEVER THE INPUT: true; the input reads as it did. -/
def naturalOrdersSpec : ChangeSpec := { name := "naturalOrders", fn := fun _ => fun
  | [d1, d2, d3] => { results := [.lit (.bool true)], args := [d1, d2, d3] }
  | _ => none }
def naturalOrdersRow : OpenClaim := { program := "ythpndmamegfbkaa", sum := "1daab112d5a324cafa45c1403d8276aeffd35eab694e191443a07ad9b98ef8ab", func := "robotics/roboticslaw01.NaturalOrders", spec := "naturalOrders", named := ["math/bits.overflowError"], apart := false }
def NaturalOrdersSaid : Prop := naturalOrdersRow.holds Try.pinned (OpenSpec.ofChange naturalOrdersSpec)

/-- ITS FALSE NEIGHBOUR: 'it returns false'. Refute it at one input. -/
def naturalOrdersWrong : ChangeSpec := { name := "naturalOrders", fn := fun _ => fun
  | [d1, d2, d3] => { results := [.lit (.bool false)], args := [d1, d2, d3] }
  | _ => none }
def NaturalOrdersWrongFalsely : Prop := naturalOrdersRow.holds Try.pinned (OpenSpec.ofChange naturalOrdersWrong)

/- THE SECOND FORM. 'bulk': how many values and letters a reading holds, each counted each time it is reached (what is shared counts as often as it is met; a slice's spare places count too). A statement '..UptoSaid' is the law's where the arguments, and the package variables that the reading takes, are together of bulk at most 1048576: NARROWER than '..Said'. Prove '..Said' where nothing that the law and all that it calls make is longer than what came in: it says more and counts as full. Else prove '..UptoSaid'. A law counts once. -/
mutual
def uptoBulk {H : Type} : DataW H → Nat
  | .lit (.string bytes) => bytes.length + 1
  | .lit _ => 1
  | .nil => 1
  | .ptr d => uptoBulk d + 1
  | .slice elems spare => uptoBulkAll elems + uptoBulkAll spare + 1
  | .agg parts => uptoBulkAll parts + 1
  | .iface _ d => uptoBulk d + 1
  | .map entries => uptoBulkEntries entries + 1
  | .held _ => 1
def uptoBulkAll {H : Type} : List (DataW H) → Nat
  | [] => 0
  | d :: r => uptoBulk d + uptoBulkAll r
def uptoBulkEntries {H : Type} : List (Lit × DataW H) → Nat
  | [] => 0
  | x :: r => uptoBulkEntry x + uptoBulkEntries r
def uptoBulkEntry {H : Type} : Lit × DataW H → Nat
  | (.string bytes, d) => bytes.length + uptoBulk d + 1
  | (_, d) => uptoBulk d + 1
 end
def uptoSmall : (H : Type) → List (DataW H) → Bool := fun _ ds => decide (uptoBulkAll ds ≤ 1048576)
def OpenSpec.upto (s : _root_.Go.ChangeSpec) : _root_.Go.OpenSpec := { _root_.Go.OpenSpec.ofChange s with cond := some uptoSmall }

/-- 'roboticslaw01.NaturalDivides', WHERE WHAT IT READS IS OF BULK AT MOST 1048576: true; the input reads as it did. -/
def naturalDividesUptoRow : OpenClaim := { program := "ythpndmamegfbkaa", sum := "1daab112d5a324cafa45c1403d8276aeffd35eab694e191443a07ad9b98ef8ab", func := "robotics/roboticslaw01.NaturalDivides", spec := "naturalDivides", named := ["math/bits.overflowError"], apart := false, narrowed := true }
def NaturalDividesUptoSaid : Prop := naturalDividesUptoRow.holds Try.pinned (OpenSpec.upto naturalDividesSpec)

/-- 'roboticslaw01.NaturalGcd', WHERE WHAT IT READS IS OF BULK AT MOST 1048576: true; the input reads as it did. -/
def naturalGcdUptoRow : OpenClaim := { program := "ythpndmamegfbkaa", sum := "1daab112d5a324cafa45c1403d8276aeffd35eab694e191443a07ad9b98ef8ab", func := "robotics/roboticslaw01.NaturalGcd", spec := "naturalGcd", named := ["math/bits.overflowError"], apart := false, narrowed := true }
def NaturalGcdUptoSaid : Prop := naturalGcdUptoRow.holds Try.pinned (OpenSpec.upto naturalGcdSpec)

/-- 'roboticslaw01.NaturalRing', WHERE WHAT IT READS IS OF BULK AT MOST 1048576: true; the input reads as it did. -/
def naturalRingUptoRow : OpenClaim := { program := "ythpndmamegfbkaa", sum := "1daab112d5a324cafa45c1403d8276aeffd35eab694e191443a07ad9b98ef8ab", func := "robotics/roboticslaw01.NaturalRing", spec := "naturalRing", named := ["math/bits.overflowError"], apart := false, narrowed := true }
def NaturalRingUptoSaid : Prop := naturalRingUptoRow.holds Try.pinned (OpenSpec.upto naturalRingSpec)

/-- 'roboticslaw01.NaturalParses', WHERE WHAT IT READS IS OF BULK AT MOST 1048576: true; the input reads as it did. -/
def naturalParsesUptoRow : OpenClaim := { program := "ythpndmamegfbkaa", sum := "1daab112d5a324cafa45c1403d8276aeffd35eab694e191443a07ad9b98ef8ab", func := "robotics/roboticslaw01.NaturalParses", spec := "naturalParses", named := ["math/bits.overflowError"], apart := false, narrowed := true }
def NaturalParsesUptoSaid : Prop := naturalParsesUptoRow.holds Try.pinned (OpenSpec.upto naturalParsesSpec)

/-- 'roboticslaw01.NaturalRoundTrip', WHERE WHAT IT READS IS OF BULK AT MOST 1048576: true; the input reads as it did. -/
def naturalRoundTripUptoRow : OpenClaim := { program := "ythpndmamegfbkaa", sum := "1daab112d5a324cafa45c1403d8276aeffd35eab694e191443a07ad9b98ef8ab", func := "robotics/roboticslaw01.NaturalRoundTrip", spec := "naturalRoundTrip", named := ["math/bits.overflowError"], apart := false, narrowed := true }
def NaturalRoundTripUptoSaid : Prop := naturalRoundTripUptoRow.holds Try.pinned (OpenSpec.upto naturalRoundTripSpec)

/-- 'roboticslaw01.NaturalKeeps', WHERE WHAT IT READS IS OF BULK AT MOST 1048576: true; the input reads as it did. -/
def naturalKeepsUptoRow : OpenClaim := { program := "ythpndmamegfbkaa", sum := "1daab112d5a324cafa45c1403d8276aeffd35eab694e191443a07ad9b98ef8ab", func := "robotics/roboticslaw01.NaturalKeeps", spec := "naturalKeeps", named := ["math/bits.overflowError"], apart := false, narrowed := true }
def NaturalKeepsUptoSaid : Prop := naturalKeepsUptoRow.holds Try.pinned (OpenSpec.upto naturalKeepsSpec)

/-- 'roboticslaw01.NaturalTells', WHERE WHAT IT READS IS OF BULK AT MOST 1048576: true; the input reads as it did. -/
def naturalTellsUptoRow : OpenClaim := { program := "ythpndmamegfbkaa", sum := "1daab112d5a324cafa45c1403d8276aeffd35eab694e191443a07ad9b98ef8ab", func := "robotics/roboticslaw01.NaturalTells", spec := "naturalTells", named := ["math/bits.overflowError"], apart := false, narrowed := true }
def NaturalTellsUptoSaid : Prop := naturalTellsUptoRow.holds Try.pinned (OpenSpec.upto naturalTellsSpec)

/-- 'roboticslaw01.NaturalValid', WHERE WHAT IT READS IS OF BULK AT MOST 1048576: true; the input reads as it did. -/
def naturalValidUptoRow : OpenClaim := { program := "ythpndmamegfbkaa", sum := "1daab112d5a324cafa45c1403d8276aeffd35eab694e191443a07ad9b98ef8ab", func := "robotics/roboticslaw01.NaturalValid", spec := "naturalValid", named := ["math/bits.overflowError"], apart := false, narrowed := true }
def NaturalValidUptoSaid : Prop := naturalValidUptoRow.holds Try.pinned (OpenSpec.upto naturalValidSpec)

/-- 'roboticslaw01.NaturalOrders', WHERE WHAT IT READS IS OF BULK AT MOST 1048576: true; the input reads as it did. -/
def naturalOrdersUptoRow : OpenClaim := { program := "ythpndmamegfbkaa", sum := "1daab112d5a324cafa45c1403d8276aeffd35eab694e191443a07ad9b98ef8ab", func := "robotics/roboticslaw01.NaturalOrders", spec := "naturalOrders", named := ["math/bits.overflowError"], apart := false, narrowed := true }
def NaturalOrdersUptoSaid : Prop := naturalOrdersUptoRow.holds Try.pinned (OpenSpec.upto naturalOrdersSpec)

end Rows
end Go.Proofs.Ythpndmamegfbkaa
