/-
  No cell of these rows narrows 'for every input' (looked for: loops, veiled, ifaces, maps, wideKeys, modest, calm, conditions, laid).
  DERIVED. THE GIVEN ROWS OF THIS SEAT. 5 by the template 'for every input the law returns true; each argument reads behind the call as it read before'; 0 by the template 'total and deterministic' (their statements: YtfhinmdhjlmikaaGreatTotals.lean).
  GIVEN WITH THE SEED: the statements are not yours to turn. If you find one false, say at which input.
  Laid BY PROGRAM, IN A SANDBOX (cutbox-rows.mjs): the forced cells as the released guide's own fill.sh prints them over the translation de9de3cee70fd044… (all of the seat's roots in one cut). By AI agents, Wed Nov 11 2026. No macro, syntax, notation, axiom, sorry.
-/
import Derived.Test.YtfhinmdhjlmikaaGreatChecked
import GoSem.Claim
import GoSem.ClaimJoined
import GoSem.ClaimMapViews
import Derived.JoinedTies
import Derived.KernelRfl
namespace Go.Proofs.YtfhinmdhjlmikaaGreat
/- THE CELL 'sum', in the pinned program and in every row, IS THE sha256 OF THE DUMP (.gsa) THAT YtfhinmdhjlmikaaGreatProg.lean LOADS. Nothing in Lean hashes anything: it is a label: what it is worth is what the hold of that sum in a sandbox is worth. -/
noncomputable def Tryz.pinned : Pinned := { name := "ytfhinmdhjlmikaagreat", sum := "de9de3cee70fd0447d8a2886cbc65fe7f62348149f929de487376e5e6221cc83", checked := Tryz.checked }
namespace Rows
def none {H : Type} : Left H := { results := [], args := [] }

/-- 'roboticslaw27.TrackStays': WHATEVER THE INPUT: true; the input reads as it did. -/
def trackStaysSpec : ChangeSpec := { name := "trackStays", fn := fun _ => fun
  | [d1, d2, d3] => { results := [.lit (.bool true)], args := [d1, d2, d3] }
  | _ => none }
def trackStaysRow : OpenClaim := { program := "ytfhinmdhjlmikaagreat", sum := "de9de3cee70fd0447d8a2886cbc65fe7f62348149f929de487376e5e6221cc83", func := "robotics/roboticslaw27.TrackStays", spec := "trackStays", inPlace := ["slices.overlaps[robotics/api.Stamped]"], unfollowed := true, recurses := true, named := ["math/bits.overflowError"], apart := false }
def TrackStaysSaid : Prop := trackStaysRow.holds Tryz.pinned (OpenSpec.ofChange trackStaysSpec)

/-- ITS FALSE NEIGHBOUR: 'it returns false'. Refute it at one input. -/
def trackStaysWrong : ChangeSpec := { name := "trackStays", fn := fun _ => fun
  | [d1, d2, d3] => { results := [.lit (.bool false)], args := [d1, d2, d3] }
  | _ => none }
def TrackStaysWrongFalsely : Prop := trackStaysRow.holds Tryz.pinned (OpenSpec.ofChange trackStaysWrong)

/-- 'roboticslaw27.TrackOf': WHATEVER THE INPUT: true; the input reads as it did. -/
def trackOfSpec : ChangeSpec := { name := "trackOf", fn := fun _ => fun
  | [d] => { results := [.lit (.bool true)], args := [d] }
  | _ => none }
def trackOfRow : OpenClaim := { program := "ytfhinmdhjlmikaagreat", sum := "de9de3cee70fd0447d8a2886cbc65fe7f62348149f929de487376e5e6221cc83", func := "robotics/roboticslaw27.TrackOf", spec := "trackOf", inPlace := ["slices.overlaps[robotics/api.Stamped]"], unfollowed := true, recurses := true, named := ["math/bits.overflowError"], apart := false }
def TrackOfSaid : Prop := trackOfRow.holds Tryz.pinned (OpenSpec.ofChange trackOfSpec)

/-- ITS FALSE NEIGHBOUR: 'it returns false'. Refute it at one input. -/
def trackOfWrong : ChangeSpec := { name := "trackOf", fn := fun _ => fun
  | [d] => { results := [.lit (.bool false)], args := [d] }
  | _ => none }
def TrackOfWrongFalsely : Prop := trackOfRow.holds Tryz.pinned (OpenSpec.ofChange trackOfWrong)

/-- 'roboticslaw27.TrackInterpolates': WHATEVER THE INPUT: true; the input reads as it did. -/
def trackInterpolatesSpec : ChangeSpec := { name := "trackInterpolates", fn := fun _ => fun
  | [d1, d2] => { results := [.lit (.bool true)], args := [d1, d2] }
  | _ => none }
def trackInterpolatesRow : OpenClaim := { program := "ytfhinmdhjlmikaagreat", sum := "de9de3cee70fd0447d8a2886cbc65fe7f62348149f929de487376e5e6221cc83", func := "robotics/roboticslaw27.TrackInterpolates", spec := "trackInterpolates", inPlace := ["slices.overlaps[robotics/api.Stamped]"], unfollowed := true, recurses := true, named := ["math/bits.overflowError"], apart := false }
def TrackInterpolatesSaid : Prop := trackInterpolatesRow.holds Tryz.pinned (OpenSpec.ofChange trackInterpolatesSpec)

/-- ITS FALSE NEIGHBOUR: 'it returns false'. Refute it at one input. -/
def trackInterpolatesWrong : ChangeSpec := { name := "trackInterpolates", fn := fun _ => fun
  | [d1, d2] => { results := [.lit (.bool false)], args := [d1, d2] }
  | _ => none }
def TrackInterpolatesWrongFalsely : Prop := trackInterpolatesRow.holds Tryz.pinned (OpenSpec.ofChange trackInterpolatesWrong)

/-- 'roboticslaw27.TrackDrops': WHATEVER THE INPUT: true; the input reads as it did. -/
def trackDropsSpec : ChangeSpec := { name := "trackDrops", fn := fun _ => fun
  | [d1, d2, d3] => { results := [.lit (.bool true)], args := [d1, d2, d3] }
  | _ => none }
def trackDropsRow : OpenClaim := { program := "ytfhinmdhjlmikaagreat", sum := "de9de3cee70fd0447d8a2886cbc65fe7f62348149f929de487376e5e6221cc83", func := "robotics/roboticslaw27.TrackDrops", spec := "trackDrops", inPlace := ["slices.overlaps[robotics/api.Stamped]"], unfollowed := true, recurses := true, named := ["math/bits.overflowError"], apart := false }
def TrackDropsSaid : Prop := trackDropsRow.holds Tryz.pinned (OpenSpec.ofChange trackDropsSpec)

/-- ITS FALSE NEIGHBOUR: 'it returns false'. Refute it at one input. -/
def trackDropsWrong : ChangeSpec := { name := "trackDrops", fn := fun _ => fun
  | [d1, d2, d3] => { results := [.lit (.bool false)], args := [d1, d2, d3] }
  | _ => none }
def TrackDropsWrongFalsely : Prop := trackDropsRow.holds Tryz.pinned (OpenSpec.ofChange trackDropsWrong)

/-- 'roboticslaw27.TrackPlays': WHATEVER THE INPUT: true; the input reads as it did. -/
def trackPlaysSpec : ChangeSpec := { name := "trackPlays", fn := fun _ => fun
  | [d] => { results := [.lit (.bool true)], args := [d] }
  | _ => none }
def trackPlaysRow : OpenClaim := { program := "ytfhinmdhjlmikaagreat", sum := "de9de3cee70fd0447d8a2886cbc65fe7f62348149f929de487376e5e6221cc83", func := "robotics/roboticslaw27.TrackPlays", spec := "trackPlays", inPlace := ["slices.overlaps[robotics/api.Stamped]"], unfollowed := true, recurses := true, named := ["math/bits.overflowError"], apart := false }
def TrackPlaysSaid : Prop := trackPlaysRow.holds Tryz.pinned (OpenSpec.ofChange trackPlaysSpec)

/-- ITS FALSE NEIGHBOUR: 'it returns false'. Refute it at one input. -/
def trackPlaysWrong : ChangeSpec := { name := "trackPlays", fn := fun _ => fun
  | [d] => { results := [.lit (.bool false)], args := [d] }
  | _ => none }
def TrackPlaysWrongFalsely : Prop := trackPlaysRow.holds Tryz.pinned (OpenSpec.ofChange trackPlaysWrong)

/- THE SECOND FORM. 'bulk': how many values and letters a reading holds, each counted each time it is reached (what is shared counts as often as it is met; a slice's spare places count too). A statement '..UptoSaid' is the law's where the arguments, and the package variables that the reading takes, are together of bulk at most 1048576: NARROWER than '..Said'. Prove '..Said' where nothing that the law and all that it calls make is longer than what came in: it says more and counts as full. Else prove '..UptoSaid'. A law counts once. -/
mutual
def uptoBulk {H : Type} : DataW H → Nat
  | .lit (.string bytes) => bytes.length + 1
  | .lit _ => 1
  | .nil => 1
  | .ptr d => uptoBulk d + 1
  | .slice elems spare => uptoBulkAll elems + uptoBulkAll spare + 1
  | .agg parts => uptoBulkAll parts + 1
  | .iface _ d => uptoBulk d + 1
  | .map entries => uptoBulkEntries entries + 1
  | .held _ => 1
def uptoBulkAll {H : Type} : List (DataW H) → Nat
  | [] => 0
  | d :: r => uptoBulk d + uptoBulkAll r
def uptoBulkEntries {H : Type} : List (Lit × DataW H) → Nat
  | [] => 0
  | x :: r => uptoBulkEntry x + uptoBulkEntries r
def uptoBulkEntry {H : Type} : Lit × DataW H → Nat
  | (.string bytes, d) => bytes.length + uptoBulk d + 1
  | (_, d) => uptoBulk d + 1
 end
def uptoSmall : (H : Type) → List (DataW H) → Bool := fun _ ds => decide (uptoBulkAll ds ≤ 1048576)
def OpenSpec.upto (s : _root_.Go.ChangeSpec) : _root_.Go.OpenSpec := { _root_.Go.OpenSpec.ofChange s with cond := some uptoSmall }

/-- 'roboticslaw27.TrackStays', WHERE WHAT IT READS IS OF BULK AT MOST 1048576: true; the input reads as it did. -/
def trackStaysUptoRow : OpenClaim := { program := "ytfhinmdhjlmikaagreat", sum := "de9de3cee70fd0447d8a2886cbc65fe7f62348149f929de487376e5e6221cc83", func := "robotics/roboticslaw27.TrackStays", spec := "trackStays", inPlace := ["slices.overlaps[robotics/api.Stamped]"], unfollowed := true, recurses := true, named := ["math/bits.overflowError"], apart := false, narrowed := true }
def TrackStaysUptoSaid : Prop := trackStaysUptoRow.holds Tryz.pinned (OpenSpec.upto trackStaysSpec)

/-- 'roboticslaw27.TrackOf', WHERE WHAT IT READS IS OF BULK AT MOST 1048576: true; the input reads as it did. -/
def trackOfUptoRow : OpenClaim := { program := "ytfhinmdhjlmikaagreat", sum := "de9de3cee70fd0447d8a2886cbc65fe7f62348149f929de487376e5e6221cc83", func := "robotics/roboticslaw27.TrackOf", spec := "trackOf", inPlace := ["slices.overlaps[robotics/api.Stamped]"], unfollowed := true, recurses := true, named := ["math/bits.overflowError"], apart := false, narrowed := true }
def TrackOfUptoSaid : Prop := trackOfUptoRow.holds Tryz.pinned (OpenSpec.upto trackOfSpec)

/-- 'roboticslaw27.TrackInterpolates', WHERE WHAT IT READS IS OF BULK AT MOST 1048576: true; the input reads as it did. -/
def trackInterpolatesUptoRow : OpenClaim := { program := "ytfhinmdhjlmikaagreat", sum := "de9de3cee70fd0447d8a2886cbc65fe7f62348149f929de487376e5e6221cc83", func := "robotics/roboticslaw27.TrackInterpolates", spec := "trackInterpolates", inPlace := ["slices.overlaps[robotics/api.Stamped]"], unfollowed := true, recurses := true, named := ["math/bits.overflowError"], apart := false, narrowed := true }
def TrackInterpolatesUptoSaid : Prop := trackInterpolatesUptoRow.holds Tryz.pinned (OpenSpec.upto trackInterpolatesSpec)

/-- 'roboticslaw27.TrackDrops', WHERE WHAT IT READS IS OF BULK AT MOST 1048576: true; the input reads as it did. -/
def trackDropsUptoRow : OpenClaim := { program := "ytfhinmdhjlmikaagreat", sum := "de9de3cee70fd0447d8a2886cbc65fe7f62348149f929de487376e5e6221cc83", func := "robotics/roboticslaw27.TrackDrops", spec := "trackDrops", inPlace := ["slices.overlaps[robotics/api.Stamped]"], unfollowed := true, recurses := true, named := ["math/bits.overflowError"], apart := false, narrowed := true }
def TrackDropsUptoSaid : Prop := trackDropsUptoRow.holds Tryz.pinned (OpenSpec.upto trackDropsSpec)

/-- 'roboticslaw27.TrackPlays', WHERE WHAT IT READS IS OF BULK AT MOST 1048576: true; the input reads as it did. -/
def trackPlaysUptoRow : OpenClaim := { program := "ytfhinmdhjlmikaagreat", sum := "de9de3cee70fd0447d8a2886cbc65fe7f62348149f929de487376e5e6221cc83", func := "robotics/roboticslaw27.TrackPlays", spec := "trackPlays", inPlace := ["slices.overlaps[robotics/api.Stamped]"], unfollowed := true, recurses := true, named := ["math/bits.overflowError"], apart := false, narrowed := true }
def TrackPlaysUptoSaid : Prop := trackPlaysUptoRow.holds Tryz.pinned (OpenSpec.upto trackPlaysSpec)

end Rows
end Go.Proofs.YtfhinmdhjlmikaaGreat
