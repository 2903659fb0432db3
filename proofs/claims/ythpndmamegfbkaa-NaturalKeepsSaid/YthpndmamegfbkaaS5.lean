/- More operations of regions that draw their order. -/
import Derived.Test.YthpndmamegfbkaaE6
namespace Go.Proofs.Ythpndmamegfbkaa
set_option linter.unusedSimpArgs false
set_option linter.unusedVariables false
open Go.RowKit
theorem run_eqI (x : Int) (w : World) : (binOp BinOp.eql 3 (.int .i64 x) (.int .i64 x)).run Try.prog w = .ok (.bool true) w := by
  go_simp
theorem run_eqU (x : Int) (w : World) : (binOp BinOp.eql 44 (.int .u64 x) (.int .u64 x)).run Try.prog w = .ok (.bool true) w := by
  go_simp
theorem run_eqB (b : Bool) (w : World) : (binOp BinOp.eql 4 (.bool b) (.bool b)).run Try.prog w = .ok (.bool true) w := by
  cases b <;> rfl
theorem run_eqS (s : ByteArray) (w : World) : (binOp BinOp.eql 9 (.string s) (.string s)).run Try.prog w = .ok (.bool true) w := by
  go_simp
section
variable {Q : Exit → Act → World → Prop} {o : Oper} {a : Act} {w : World} {x y : Operand} {m n : Nat} {tt : Array TypeId}
theorem arm_rBits (ho : o.op = .call { callee := .value (.func 33), args := #[x], argTypes := tt }) (hx : Is a w x (.nat m)) (hm : nl m ≤ 1000000000000) {N : Int} (hN : ((len2 m : Nat) : Int) = N) : Arm Try.prog Q o a w (.val (.int .i64 N)) := by
  subst hN
  exact arm_one ho (enters Try.func33 rfl rfl) hx (R := fun w => RetV w (.int .i64 ((len2 m : Nat) : Int))) (fun va w h1 => c_ref_Bits va m w h1 hm) (fun _ _ h => ofV h)
/-- A variable that holds a row of L digits, leading zeros allowed. -/
def Sp.raw (L N : Nat) : Sp := ⟨fun w v => IsR w v L N, fun _ _ _ h hb => IsR.mono h hb⟩
theorem arm_loadR {g L : Nat} (ho : o.op = .load 24 x) (hx : Is a w x (.val (.pointer (some ⟨g, 0, none⟩)))) (h : VarR w g L n) : Arm Try.prog Q o a w (.raw L n) := by
  obtain ⟨s, c, h1, h2⟩ := h
  have hx' : a.eval x = .pointer (some ⟨g, 0, none⟩) := hx
  refine arm_run (.agg #[.slice s L c]) ?_ h2
  unfold execOp
  rw [ho]
  simp only [hx', Sem.run_bind, run_load w g L c s h1, Result.andThen, Sem.run_pure]
theorem arm_Valid {L : Nat} (ho : o.op = .call { callee := .value (.func 35), args := #[x], argTypes := tt }) (hx : Is a w x (.raw L m)) (hL : L ≤ 60000000000000) {b : Bool} (hb : decide (L = nl m) = b) : Arm Try.prog Q o a w (.val (.bool b)) := by
  subst hb
  refine arm_call ho (enters Try.func35 rfl rfl) (R := RetV w (.bool (decide (L = nl m)))) ?_ (fun _ _ h => ofV h)
  have h := c_natural_Valid _ L m w hx hL
  rw [show #[x].map a.eval = #[a.eval x] by simp]
  exact h
theorem arm_rValid {L : Nat} (ho : o.op = .call { callee := .value (.func 36), args := #[x], argTypes := tt }) (hx : Is a w x (.raw L m)) (hL : L ≤ 60000000000000) {b : Bool} (hb : decide (nl m = L) = b) : Arm Try.prog Q o a w (.val (.bool b)) := by
  subst hb
  refine arm_call ho (enters Try.func36 rfl rfl) (R := RetV w (.bool (decide (nl m = L)))) ?_ (fun _ _ h => ofV h)
  rw [show #[x].map a.eval = #[a.eval x] by simp]
  exact c_ref_Valid _ L m w hx (by omega)
end
end Go.Proofs.Ythpndmamegfbkaa
