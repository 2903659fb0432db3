/- Numbers written out: nat(..) of the statements, with digits that are constants. -/
import Derived.Test.YthpndmamegfbkaaO2
namespace Go.Proofs.Ythpndmamegfbkaa
set_option linter.unusedSimpArgs false
set_option linter.unusedVariables false
open Go.RowKit
theorem own1 (w : World) (x : Nat) (hx : x < 4294967296) : OwnR (w.alloc (.cells #[.int .u32 (x : Int)] 42)) w.heap.size 1 x := by
  refine ⟨hx, _, heap_alloc_new w _, ?_⟩
  have h0 : D x 0 = x := by unfold D; rw [Nat.pow_zero, Nat.div_one]; omega
  simp [List.range, List.range.loop, h0]
theorem own2 (w : World) (x y : Nat) (hx : x < 4294967296) (hy : y < 4294967296) : OwnR (w.alloc (.cells #[.int .u32 (x : Int), .int .u32 (y : Int)] 42)) w.heap.size 2 (x + 4294967296 * y) := by
  refine ⟨by omega, _, heap_alloc_new w _, ?_⟩
  have h0 : D (x + 4294967296 * y) 0 = x := by unfold D; rw [Nat.pow_zero, Nat.div_one]; omega
  have h1 : D (x + 4294967296 * y) 1 = y := by unfold D; rw [Nat.pow_one]; omega
  simp [List.range, List.range.loop, h0, h1]
theorem lit_call {w : World} {L N : Nat} {o : Obj} (h : OwnR (w.alloc o) w.heap.size L N) (hL : L ≤ 1000000000000) (hv : nl N = L) :
    Calls Try.prog 29 #[.slice (some ⟨w.heap.size, 0, none⟩) L L] (w.alloc o) fun e w' => RetNew w N e w' := by
  refine (c_nat _ L L N _ h.rw' hL hv).mono ?_
  rintro e w' ⟨v, rfl, hn, hb⟩
  have hb0 : Below w.heap.size w (w.alloc o) := (Below.refl _ _).alloc (Nat.le_refl _) o
  exact ⟨v, rfl, hn.weaken hb0.size, hb0.trans (hb.mono hb0.size)⟩
end Go.Proofs.Ythpndmamegfbkaa
