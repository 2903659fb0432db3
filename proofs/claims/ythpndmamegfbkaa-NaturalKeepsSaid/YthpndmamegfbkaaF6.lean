/- Argument variables of the statements; sizes. -/
import Derived.Test.YthpndmamegfbkaaF5
namespace Go.Proofs.Ythpndmamegfbkaa
set_option linter.unusedSimpArgs false
set_option linter.unusedVariables false
open Go.RowKit
/-- Block g is a variable that holds a row of L digits of value N (leading zeros allowed). -/
def VarR (w : World) (g L N : Nat) : Prop := ∃ a c, VarB w g a L c ∧ IsR w (.agg #[.slice a L c]) L N
theorem VarR.mono {w w' : World} {g L N : Nat} (h : VarR w g L N) (hb : Below w.heap.size w w') : VarR w' g L N := by
  obtain ⟨a, c, h1, h2⟩ := h; exact ⟨a, c, h1.mono hb h1.lt, h2.mono hb⟩
theorem VarR.isI {w : World} {g L N : Nat} (h : VarR w g L N) (hl : nl N = L) : VarI w g N := by
  subst hl; exact h
theorem VarR.made {w : World} {a : Option Addr} {L c N : Nat} (h : IsR w (.agg #[.slice a L c]) L N) : VarR (w.alloc (.cells #[.slice a L c] 24)) w.heap.size L N :=
  ⟨a, c, VarB.made w a L c, h.mono ((Below.refl _ _).alloc (Nat.le_refl _) _)⟩
theorem bel1 (w : World) (o : Obj) : Below w.heap.size w (w.alloc o) := (Below.refl _ _).alloc (Nat.le_refl _) o
theorem box1 {w : World} {a : Option Addr} {L c N : Nat} (h : IsR w (.agg #[.slice a L c]) L N) :
    Below w.heap.size w (w.alloc (.cells #[.slice a L c] 24)) ∧ VarR (w.alloc (.cells #[.slice a L c] 24)) w.heap.size L N := ⟨bel1 w _, VarR.made h⟩
theorem box2 {w : World} {a b : Option Addr} {L c N L2 c2 N2 : Nat} (h : IsR w (.agg #[.slice a L c]) L N) (h2 : IsR w (.agg #[.slice b L2 c2]) L2 N2) :
    Below w.heap.size w ((w.alloc (.cells #[.slice a L c] 24)).alloc (.cells #[.slice b L2 c2] 24)) ∧
    VarR ((w.alloc (.cells #[.slice a L c] 24)).alloc (.cells #[.slice b L2 c2] 24)) w.heap.size L N ∧
    VarR ((w.alloc (.cells #[.slice a L c] 24)).alloc (.cells #[.slice b L2 c2] 24)) (w.heap.size + 1) L2 N2 := by
  obtain ⟨k1, k2⟩ := box1 h
  obtain ⟨k3, k4⟩ := box1 (h2.mono k1)
  refine ⟨k1.trans (k3.mono k1.size), k2.mono k3, ?_⟩
  rw [World.size_alloc] at k4
  exact k4
theorem box3 {w : World} {a b d : Option Addr} {L c N L2 c2 N2 L3 c3 N3 : Nat} (h : IsR w (.agg #[.slice a L c]) L N) (h2 : IsR w (.agg #[.slice b L2 c2]) L2 N2) (h3 : IsR w (.agg #[.slice d L3 c3]) L3 N3) :
    Below w.heap.size w (((w.alloc (.cells #[.slice a L c] 24)).alloc (.cells #[.slice b L2 c2] 24)).alloc (.cells #[.slice d L3 c3] 24)) ∧
    VarR (((w.alloc (.cells #[.slice a L c] 24)).alloc (.cells #[.slice b L2 c2] 24)).alloc (.cells #[.slice d L3 c3] 24)) w.heap.size L N ∧
    VarR (((w.alloc (.cells #[.slice a L c] 24)).alloc (.cells #[.slice b L2 c2] 24)).alloc (.cells #[.slice d L3 c3] 24)) (w.heap.size + 1) L2 N2 ∧
    VarR (((w.alloc (.cells #[.slice a L c] 24)).alloc (.cells #[.slice b L2 c2] 24)).alloc (.cells #[.slice d L3 c3] 24)) (w.heap.size + 1 + 1) L3 N3 := by
  obtain ⟨k1, k2, k3⟩ := box2 h h2
  obtain ⟨k4, k5⟩ := box1 (h3.mono k1)
  refine ⟨k1.trans (k4.mono k1.size), k2.mono k4, k3.mono k4, ?_⟩
  rw [World.size_alloc, World.size_alloc] at k5
  exact k5
theorem sm_nl {N d : Nat} (h : nl N ≤ d) : N < 4294967296 ^ d := nl_le_iff.1 h
theorem sm_up {N d e : Nat} (h : N < 4294967296 ^ d) (he : d ≤ e) : N < 4294967296 ^ e := Nat.lt_of_lt_of_le h (Nat.pow_le_pow_right (by decide) he)
theorem sm_add {a b d e : Nat} (h : a < 4294967296 ^ d) (h' : b < 4294967296 ^ e) : a + b < 4294967296 ^ (d + e + 1) := by
  have h1 := sm_up h (Nat.le_add_right d e)
  have h2 := sm_up h' (Nat.le_add_left e d)
  rw [Nat.pow_succ]; omega
theorem sm_mul {a b d e : Nat} (h : a < 4294967296 ^ d) (h' : b < 4294967296 ^ e) : a * b < 4294967296 ^ (d + e) := by
  rw [Nat.pow_add]
  rcases Nat.eq_zero_or_pos b with rfl | hb
  · rw [Nat.mul_zero]; exact Nat.mul_pos (Nat.lt_of_le_of_lt (Nat.zero_le _) h) h'
  · exact Nat.lt_of_lt_of_le ((Nat.mul_lt_mul_right hb).2 h) (Nat.mul_le_mul_left _ (Nat.le_of_lt h'))
theorem sm_le {a b d : Nat} (h : b < 4294967296 ^ d) (hab : a ≤ b) : a < 4294967296 ^ d := Nat.lt_of_le_of_lt hab h
theorem sm_sub {a b d : Nat} (h : a < 4294967296 ^ d) : a - b < 4294967296 ^ d := sm_le h (Nat.sub_le _ _)
theorem nlb' {N d : Nat} (h : N < 4294967296 ^ d) (hd : d ≤ 1000000000000) : nl N ≤ 1000000000000 := Nat.le_trans (nl_le_iff.2 h) hd
section
variable {Q : Exit → Act → World → Prop} {o : Oper} {a : Act} {w : World} {tt : Array TypeId}
theorem arm_awake (ho : o.op = .call { callee := .value (.func 13), args := #[], argTypes := tt }) : Arm Try.prog Q o a w (.val (.bool true)) :=
  arm_call ho (enters Try.func13 rfl rfl) (R := RetV w (.bool true)) (by simpa using c_awake w) (fun _ _ h => ofV h)
end
end Go.Proofs.Ythpndmamegfbkaa
