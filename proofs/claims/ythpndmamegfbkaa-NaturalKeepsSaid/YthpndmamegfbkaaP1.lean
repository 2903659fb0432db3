/- Parse. -/
import Derived.Test.YthpndmamegfbkaaG1
namespace Go.Proofs.Ythpndmamegfbkaa
set_option linter.unusedSimpArgs false
set_option linter.unusedVariables false
open Go.RowKit
def maAt (N d k : Nat) : Nat := (10 * (N % 4294967296 ^ k) + d) % 4294967296 ^ k + 4294967296 ^ k * (N / 4294967296 ^ k)
def maC (N d k : Nat) : Nat := (10 * (N % 4294967296 ^ k) + d) / 4294967296 ^ k
theorem maAt_zero (N d : Nat) : maAt N d 0 = N := by unfold maAt; simp [Nat.mod_one]
theorem maC_zero (N d : Nat) : maC N d 0 = d := by unfold maC; simp [Nat.mod_one]
theorem maC_le (N d k : Nat) (hd : d ≤ 9) : maC N d k ≤ 9 := by
  unfold maC
  have h := Nat.mod_lt N (powB k)
  have : (10 * (N % 4294967296 ^ k) + d) / 4294967296 ^ k < 10 := by rw [Nat.div_lt_iff_lt_mul (powB k)]; omega
  omega
theorem ma_step (N d k : Nat) : upd (maAt N d k) k ((D N k * 10 + maC N d k) % 4294967296) = maAt N d (k + 1) ∧ maC N d (k + 1) = (D N k * 10 + maC N d k) / 4294967296 ∧ D (maAt N d k) k = D N k := by
  have hlow := Nat.mod_lt (10 * (N % 4294967296 ^ k) + d) (powB k)
  have hD : D (maAt N d k) k = D N k := by
    unfold D maAt
    rw [Nat.add_mul_div_left _ _ (powB k), Nat.div_eq_of_lt hlow, Nat.zero_add]
  have hu := upd_add (maAt N d k) k ((D N k * 10 + maC N d k) % 4294967296)
  rw [hD] at hu
  have hm : N % 4294967296 ^ (k + 1) = N % 4294967296 ^ k + 4294967296 ^ k * D N k := mod_succ N k
  have hdv : 10 * (N % 4294967296 ^ k) + d = 4294967296 ^ k * maC N d k + (10 * (N % 4294967296 ^ k) + d) % 4294967296 ^ k := by unfold maC; exact (Nat.div_add_mod _ _).symm
  have ht := Nat.div_add_mod (D N k * 10 + maC N d k) 4294967296
  have htl := Nat.mod_lt (D N k * 10 + maC N d k) (show 0 < 4294967296 by decide)
  have hq : N / 4294967296 ^ k = 4294967296 * (N / 4294967296 ^ (k + 1)) + D N k := by
    unfold D
    rw [Nat.pow_succ, ← Nat.div_div_eq_div_mul]
    omega
  have hall : 10 * (N % 4294967296 ^ (k + 1)) + d = 4294967296 ^ (k + 1) * ((D N k * 10 + maC N d k) / 4294967296) + (4294967296 ^ k * ((D N k * 10 + maC N d k) % 4294967296) + (10 * (N % 4294967296 ^ k) + d) % 4294967296 ^ k) := by
    rw [hm, Nat.pow_succ]
    generalize (10 * (N % 4294967296 ^ k) + d) % 4294967296 ^ k = r at *
    generalize N % 4294967296 ^ k = l at *
    generalize maC N d k = c at *
    generalize D N k = x at *
    generalize (x * 10 + c) / 4294967296 = q at *
    generalize (x * 10 + c) % 4294967296 = t at *
    generalize 4294967296 ^ k = P at *
    grind
  have hlt : 4294967296 ^ k * ((D N k * 10 + maC N d k) % 4294967296) + (10 * (N % 4294967296 ^ k) + d) % 4294967296 ^ k < 4294967296 ^ (k + 1) := by
    rw [Nat.pow_succ]
    have h1 : 4294967296 ^ k * ((D N k * 10 + maC N d k) % 4294967296 + 1) ≤ 4294967296 ^ k * 4294967296 := Nat.mul_le_mul_left _ htl
    rw [Nat.mul_add] at h1
    omega
  refine ⟨?_, ?_, hD⟩
  · have e : maAt N d (k + 1) = (4294967296 ^ k * ((D N k * 10 + maC N d k) % 4294967296) + (10 * (N % 4294967296 ^ k) + d) % 4294967296 ^ k) + 4294967296 ^ (k + 1) * (N / 4294967296 ^ (k + 1)) := by
      unfold maAt
      rw [hall, Nat.mul_add_mod, Nat.mod_eq_of_lt hlt]
    rw [e]
    have e2 : maAt N d k = (10 * (N % 4294967296 ^ k) + d) % 4294967296 ^ k + 4294967296 ^ k * (N / 4294967296 ^ k) := rfl
    generalize upd (maAt N d k) k ((D N k * 10 + maC N d k) % 4294967296) = u at *
    rw [e2, hq] at hu
    rw [Nat.pow_succ] at *
    generalize (10 * (N % 4294967296 ^ k) + d) % 4294967296 ^ k = r at *
    generalize maC N d k = c at *
    generalize D N k = x at *
    generalize (x * 10 + c) % 4294967296 = t at *
    generalize N / (4294967296 ^ k * 4294967296) = h at *
    generalize 4294967296 ^ k = P at *
    grind
  · show (10 * (N % 4294967296 ^ (k + 1)) + d) / 4294967296 ^ (k + 1) = _
    rw [hall, Nat.mul_add_div (powB (k + 1)), Nat.div_eq_of_lt hlt, Nat.add_zero]
theorem ma_end (N d L : Nat) (hN : N < 4294967296 ^ L) : maAt N d L + maC N d L * 4294967296 ^ L = 10 * N + d := by
  unfold maAt maC
  rw [Nat.mod_eq_of_lt hN, Nat.div_eq_of_lt hN, Nat.mul_zero, Nat.add_zero]
  have h := Nat.div_add_mod (10 * N + d) (4294967296 ^ L)
  rw [Nat.mul_comm (4294967296 ^ L)] at h
  omega
end Go.Proofs.Ythpndmamegfbkaa
