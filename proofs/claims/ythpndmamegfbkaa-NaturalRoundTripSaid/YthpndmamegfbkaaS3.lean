/- The reference's digit as an operation of a region that draws its order. -/
import Derived.Test.YthpndmamegfbkaaE1
namespace Go.Proofs.Ythpndmamegfbkaa
set_option linter.unusedSimpArgs false
set_option linter.unusedVariables false
open Go.RowKit
section
variable {Q : Exit → Act → World → Prop} {o : Oper} {a : Act} {w : World} {x y : Operand} {tt : Array TypeId}
theorem arm_digit {m i : Nat} (ho : o.op = .call { callee := .value (.func 45), args := #[x, y], argTypes := tt }) (hx : Is a w x (.nat m)) (hy : Is a w y (.val (.int .i64 (i : Int)))) (hm : nl m ≤ 1000000000000) (hi : i ≤ 60000000000000) :
    Arm Try.prog Q o a w (.val (.int .u64 ((D m i : Nat) : Int))) := by
  refine arm_call ho (enters Try.func45 rfl rfl) (R := RetV w (.int .u64 ((D m i : Nat) : Int))) ?_ (fun _ _ h => ofV h)
  have hy' : a.eval y = .int .i64 (i : Int) := hy
  simpa [hy'] using c_digit _ (nl m) m i w hx (by omega) hi
end
theorem VarI.cell {w : World} {g N : Nat} (h : VarI w g N) : ∃ a c, w.cell? ⟨g, 0, none⟩ = some (.slice a (nl N) c) := by
  obtain ⟨a, c, h1, _⟩ := h; exact ⟨a, c, h1.cell⟩
theorem eq_of_digit {m n k : Nat} (h : m / 4294967296 ^ (k + 1) = n / 4294967296 ^ (k + 1)) (hd : D m k = D n k) : m / 4294967296 ^ k = n / 4294967296 ^ k := by
  rw [div_step m k, div_step n k, h, hd]
theorem GR.below {w w' : World} {base L N : Nat} {v : Value} (h : GR w base v L N) (hb : Below w.heap.size w w') : GR w' base v L N := by
  refine ⟨h.1, h.2.1, ?_⟩
  rcases h.2.2 with ⟨h1, h0⟩ | ⟨g, c, cur, rfl, hbg, hg, hr⟩
  · exact .inl ⟨h1, h0⟩
  · exact .inr ⟨g, c, cur, rfl, hbg, (hb.block g (Array.getElem?_eq_some_iff.1 hg).1).trans hg, hr⟩
theorem run_addU (x y z : Nat) (hz : x + y = z) (h : z < 18446744073709551616) (w : World) : (binOp BinOp.add 44 (.int .u64 (x : Int)) (.int .u64 (y : Int))).run Try.prog w = .ok (.int .u64 (z : Int)) w := by
  subst hz
  have e : ((x : Int) + (y : Int)) % 18446744073709551616 = ((x + y : Nat) : Int) := by omega
  go_simp
  exact e
theorem run_subU (x y z : Nat) (hz : x = y + z) (h : x < 18446744073709551616) (w : World) : (binOp BinOp.sub 44 (.int .u64 (x : Int)) (.int .u64 (y : Int))).run Try.prog w = .ok (.int .u64 (z : Int)) w := by
  subst hz
  have e : (((y + z : Nat) : Int) - (y : Int)) % 18446744073709551616 = (z : Int) := by omega
  go_simp
  exact e
end Go.Proofs.Ythpndmamegfbkaa
