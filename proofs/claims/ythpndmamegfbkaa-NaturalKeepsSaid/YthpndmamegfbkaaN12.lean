/- The contract of DivMod. -/
import Derived.Test.YthpndmamegfbkaaN11
namespace Go.Proofs.Ythpndmamegfbkaa
set_option linter.unusedSimpArgs false
set_option linter.unusedVariables false
open Go.RowKit
theorem c_natural_DivMod (va vb : Value) (m n : Nat) (w : World) (ha : IsN w va m) (hb : IsN w vb n) (hm : nl m ≤ 1000000000000) (hn : nl n ≤ 1000000000000) (h0 : n ≠ 0) :
    Calls Try.prog 14 #[va, vb] w fun e w' => RetDiv w (m / n) (m % n) 0 e w' := by
  by_cases hlt : m < n
  · have := c_DivMod_less va vb m n w ha hb hm hn hlt
    rwa [Nat.div_eq_of_lt hlt, Nat.mod_eq_of_lt hlt]
  · by_cases h1 : nl n = 1
    · exact c_DivMod_one va vb m n w ha hb hm h1 (by omega)
    · have := nl_pos h0
      exact c_DivMod_big va vb m n w ha hb hm hn (by omega) (by omega)
end Go.Proofs.Ythpndmamegfbkaa
