/- The reference's Gcd and a negation as operations of a region that draws its order; a variable written behind a table. -/
import Derived.Test.YthpndmamegfbkaaEA
namespace Go.Proofs.Ythpndmamegfbkaa
set_option linter.unusedSimpArgs false
set_option linter.unusedVariables false
open Go.RowKit
theorem gcd_le_add (m n : Nat) : Nat.gcd m n ≤ m + n := by
  rcases Nat.eq_zero_or_pos m with rfl | h
  · rw [Nat.gcd_zero_left]; omega
  · exact Nat.le_trans (Nat.gcd_le_left n h) (Nat.le_add_right _ _)
section
variable {Q : Exit → Act → World → Prop} {o : Oper} {a : Act} {w : World} {x y : Operand} {m n : Nat} {tt : Array TypeId}
theorem ofN {w w' : World} {N : Nat} {e : Ending} (h : RetN w N e w') : ∃ v, e = .returned v ∧ (Sp.nat N).p w' v ∧ Below w.heap.size w w' := h
theorem arm_rGcd (ho : o.op = .call { callee := .value (.func 20), args := #[x, y], argTypes := tt }) (hx : Is a w x (.nat m)) (hy : Is a w y (.nat n)) (hm : nl m ≤ 100000000000) (hn : nl n ≤ 100000000000) {N : Nat} (hN : Nat.gcd m n = N) : Arm Try.prog Q o a w (.nat N) := by
  subst hN
  exact arm_two ho (enters Try.func20 rfl rfl) hx hy (R := fun w => RetN w (Nat.gcd m n)) (fun va vb w h1 h2 => c_ref_Gcd va vb m n w h1 h2 hm hn) (fun _ _ h => ofN h)
theorem arm_not {t : TypeId} {b : Bool} (ho : o.op = .unOp .not t x) (hx : Is a w x (.val (.bool b))) : Arm Try.prog Q o a w (.val (.bool (!b))) := by
  have hx' : a.eval x = .bool b := hx
  refine arm_run (.bool (!b)) ?_ rfl
  unfold execOp
  rw [ho]
  simp only [hx']
  cases b <;> rfl
end
theorem IsN.shape {w : World} {v : Value} {N : Nat} (h : IsN w v N) : ∃ x c, v = .agg #[.slice x (nl N) c] := by
  obtain ⟨x, c, rfl, _⟩ := h; exact ⟨x, c, rfl⟩
/-- A new variable is written: it holds N, the others what they held. -/
theorem VarI.put {w : World} {g N c : Nat} {x : Option Addr} (hv : VarB w g none 0 0) (hn : IsN w (.agg #[.slice x (nl N) c]) N) : VarI (w.setCell ⟨g, 0, none⟩ (.slice x (nl N) c)) g N :=
  ⟨x, c, hv.set, hn.setVar hv⟩
end Go.Proofs.Ythpndmamegfbkaa
