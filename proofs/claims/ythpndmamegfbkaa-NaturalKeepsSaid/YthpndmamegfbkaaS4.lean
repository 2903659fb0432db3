/- The reference's operations in regions that draw their order. -/
import Derived.Test.YthpndmamegfbkaaE5
namespace Go.Proofs.Ythpndmamegfbkaa
set_option linter.unusedSimpArgs false
set_option linter.unusedVariables false
open Go.RowKit
section
variable {Q : Exit → Act → World → Prop} {o : Oper} {a : Act} {w : World} {x y : Operand} {m n : Nat} {tt : Array TypeId}
theorem arm_rAdd (ho : o.op = .call { callee := .value (.func 17), args := #[x, y], argTypes := tt }) (hx : Is a w x (.nat m)) (hy : Is a w y (.nat n)) (hm : nl m ≤ 1000000000000) (hn : nl n ≤ 1000000000000) {N : Nat} (hN : m + n = N) : Arm Try.prog Q o a w (.nat N) := by
  subst hN
  exact arm_two ho (enters Try.func17 rfl rfl) hx hy (R := fun w => RetNew w (m + n)) (fun va vb w h1 h2 => c_ref_Add va vb m n w h1 h2 hm hn) (fun _ _ h => ofNew h)
theorem arm_rMul (ho : o.op = .call { callee := .value (.func 18), args := #[x, y], argTypes := tt }) (hx : Is a w x (.nat m)) (hy : Is a w y (.nat n)) (hm : nl m ≤ 1000000000000) (hn : nl n ≤ 1000000000000) {N : Nat} (hN : m * n = N) : Arm Try.prog Q o a w (.nat N) := by
  subst hN
  exact arm_two ho (enters Try.func18 rfl rfl) hx hy (R := fun w => RetNew w (m * n)) (fun va vb w h1 h2 => c_ref_Mul va vb m n w h1 h2 hm hn) (fun _ _ h => ofNew h)
theorem arm_rCmp (ho : o.op = .call { callee := .value (.func 15), args := #[x, y], argTypes := tt }) (hx : Is a w x (.nat m)) (hy : Is a w y (.nat n)) (hm : nl m ≤ 1000000000000) (hn : nl n ≤ 1000000000000) {N : Int} (hN : cmpI m n = N) : Arm Try.prog Q o a w (.val (.int .i64 N)) := by
  subst hN
  exact arm_two ho (enters Try.func15 rfl rfl) hx hy (R := fun w => RetV w (.int .i64 (cmpI m n))) (fun va vb w h1 h2 => c_ref_Cmp va vb m n w h1 h2 hm hn) (fun _ _ h => ofV h)
end
end Go.Proofs.Ythpndmamegfbkaa
