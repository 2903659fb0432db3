/- Plain lemmas: the digits of a natural number in base 2^32, and rows of digits in memory. -/
import Derived.WalkKit
import Derived.Lib.Hide
namespace Go.Proofs.Ythpndmamegfbkaa
set_option linter.unusedSimpArgs false
set_option linter.unusedVariables false
open Go.RowKit

/-- Digit i of N in base 2^32. -/
def D (N i : Nat) : Nat := N / 4294967296 ^ i % 4294967296
/-- The number of digits. -/
def nl (N : Nat) : Nat := if N = 0 then 0 else N.log2 / 32 + 1

theorem D_lt (N i : Nat) : D N i < 4294967296 := Nat.mod_lt _ (by decide)
theorem powB (i : Nat) : 0 < 4294967296 ^ i := Nat.pow_pos (by decide)
theorem powB2 (i : Nat) : 4294967296 ^ i = 2 ^ (32 * i) := by rw [Nat.pow_mul]
theorem nl_zero : nl 0 = 0 := by simp [nl]
theorem lt_nl (N : Nat) : N < 4294967296 ^ nl N := by
  unfold nl
  split
  · subst_vars; decide
  · rename_i h
    rw [powB2, ← Nat.log2_lt h]; omega
theorem nl_pos {N : Nat} (h : N ≠ 0) : 0 < nl N := by unfold nl; rw [if_neg h]; omega
theorem nl_eq_zero {N : Nat} : nl N = 0 ↔ N = 0 := by
  constructor
  · intro h
    by_cases h0 : N = 0
    · exact h0
    · have := nl_pos h0; omega
  · rintro rfl; exact nl_zero
theorem nl_le_iff {N k : Nat} : nl N ≤ k ↔ N < 4294967296 ^ k := by
  by_cases h : N = 0
  · subst h; simp [nl_zero, powB k]
  · unfold nl
    rw [if_neg h, powB2, ← Nat.log2_lt h]; omega
theorem nl_mono {m n : Nat} (h : m ≤ n) : nl m ≤ nl n := nl_le_iff.2 (Nat.lt_of_le_of_lt h (lt_nl n))
theorem pow_nl_le {N : Nat} (h : N ≠ 0) : 4294967296 ^ (nl N - 1) ≤ N := by
  have h1 := nl_pos h
  have h3 := nl_le_iff (N := N) (k := nl N - 1)
  omega
theorem nl_succ_iff {N k : Nat} : nl N = k + 1 ↔ 4294967296 ^ k ≤ N ∧ N < 4294967296 ^ (k + 1) := by
  have h1 := nl_le_iff (N := N) (k := k)
  have h2 := nl_le_iff (N := N) (k := k + 1)
  omega
theorem nl_add_le (m n k : Nat) (hm : nl m ≤ k) (hn : nl n ≤ k) : nl (m + n) ≤ k + 1 := by
  rw [nl_le_iff] at *
  rw [Nat.pow_succ]; omega
theorem nl_mul_le (m n : Nat) : nl (m * n) ≤ nl m + nl n := by
  rw [nl_le_iff, Nat.pow_add]
  exact Nat.mul_lt_mul'' (lt_nl m) (lt_nl n)
theorem mod_succ (N i : Nat) : N % 4294967296 ^ (i + 1) = N % 4294967296 ^ i + 4294967296 ^ i * D N i := Nat.mod_pow_succ
theorem div_step (N i : Nat) : N / 4294967296 ^ i = 4294967296 * (N / 4294967296 ^ (i + 1)) + D N i := by
  unfold D
  rw [Nat.pow_succ, ← Nat.div_div_eq_div_mul]
  exact (Nat.div_add_mod _ _).symm
theorem D_of_lt {N i : Nat} (h : N < 4294967296 ^ i) : D N i = 0 := by unfold D; rw [Nat.div_eq_of_lt h]
theorem D_zero (i : Nat) : D 0 i = 0 := by simp [D]
theorem D_ge_nl {N i : Nat} (h : nl N ≤ i) : D N i = 0 := D_of_lt (nl_le_iff.1 h)
theorem D_top {N : Nat} (h : N ≠ 0) : D N (nl N - 1) ≠ 0 := by
  have h1 := pow_nl_le h
  have h2 := lt_nl N
  have h3 := nl_pos h
  obtain ⟨k, hk⟩ : ∃ k, nl N = k + 1 := ⟨nl N - 1, by omega⟩
  rw [hk] at h1 h2 ⊢
  simp only [Nat.add_sub_cancel] at h1 ⊢
  unfold D
  rw [Nat.mod_eq_of_lt]
  · have := Nat.div_pos h1 (powB k); omega
  · rw [Nat.div_lt_iff_lt_mul (powB k), ← Nat.pow_succ']; exact h2
theorem mod_nl (N : Nat) : N % 4294967296 ^ nl N = N := Nat.mod_eq_of_lt (lt_nl N)
theorem mod_of_ge {N k : Nat} (h : nl N ≤ k) : N % 4294967296 ^ k = N := Nat.mod_eq_of_lt (nl_le_iff.1 h)
/-- Two numbers with the same digits below k. -/
theorem mod_ext {m n : Nat} : ∀ k, (∀ i, i < k → D m i = D n i) → m % 4294967296 ^ k = n % 4294967296 ^ k
  | 0, _ => by simp [Nat.mod_one]
  | k + 1, h => by rw [mod_succ, mod_succ, mod_ext k (fun i hi => h i (by omega)), h k (by omega)]
theorem D_mod_of_lt {N k i : Nat} (h : i < k) : D (N % 4294967296 ^ k) i = D N i := by
  unfold D
  obtain ⟨d, rfl⟩ : ∃ d, k = i + 1 + d := ⟨k - (i + 1), by omega⟩
  rw [Nat.pow_add, Nat.pow_succ, Nat.mul_assoc, Nat.mod_mul_right_div_self, Nat.mod_mul_right_mod]

/-! ### addition and subtraction -/
/-- The carry into digit i. -/
def cy (m n i : Nat) : Nat := (m % 4294967296 ^ i + n % 4294967296 ^ i) / 4294967296 ^ i
theorem cy_zero (m n : Nat) : cy m n 0 = 0 := by simp [cy, Nat.mod_one]
theorem cy_le (m n i : Nat) : cy m n i ≤ 1 := by
  unfold cy
  have h1 := Nat.mod_lt m (powB i)
  have h2 := Nat.mod_lt n (powB i)
  have : (m % 4294967296 ^ i + n % 4294967296 ^ i) / 4294967296 ^ i < 2 := by
    rw [Nat.div_lt_iff_lt_mul (powB i)]; omega
  omega
theorem cy_step (m n i : Nat) : D m i + D n i + cy m n i = D (m + n) i + 4294967296 * cy m n (i + 1) := by
  have hP := powB i
  have e1 : (m + n) / 4294967296 ^ i = m / 4294967296 ^ i + n / 4294967296 ^ i + cy m n i := by
    unfold cy
    conv => lhs; rw [← Nat.div_add_mod m (4294967296 ^ i), ← Nat.div_add_mod n (4294967296 ^ i)]
    rw [show 4294967296 ^ i * (m / 4294967296 ^ i) + m % 4294967296 ^ i + (4294967296 ^ i * (n / 4294967296 ^ i) + n % 4294967296 ^ i) = 4294967296 ^ i * (m / 4294967296 ^ i + n / 4294967296 ^ i) + (m % 4294967296 ^ i + n % 4294967296 ^ i) from by rw [Nat.mul_add]; omega]
    rw [Nat.mul_add_div hP]
  have e2 : cy m n (i + 1) = (D m i + D n i + cy m n i) / 4294967296 := by
    unfold cy
    rw [mod_succ, mod_succ, Nat.pow_succ, ← Nat.div_div_eq_div_mul]
    congr 1
    rw [show m % 4294967296 ^ i + 4294967296 ^ i * D m i + (n % 4294967296 ^ i + 4294967296 ^ i * D n i) = 4294967296 ^ i * (D m i + D n i) + (m % 4294967296 ^ i + n % 4294967296 ^ i) from by rw [Nat.mul_add]; omega]
    rw [Nat.mul_add_div hP]
  have e3 : D (m + n) i = (D m i + D n i + cy m n i) % 4294967296 := by
    show (m + n) / 4294967296 ^ i % 4294967296 = _
    rw [e1]
    unfold D
    omega
  rw [e2, e3]
  omega

/-! ### a digit put in place -/
/-- N with digit p turned into e. -/
def upd (N p e : Nat) : Nat := N - 4294967296 ^ p * D N p + 4294967296 ^ p * e
theorem upd_parts (N p : Nat) : N = 4294967296 ^ (p + 1) * (N / 4294967296 ^ (p + 1)) + 4294967296 ^ p * D N p + N % 4294967296 ^ p := by
  have h := Nat.div_add_mod N (4294967296 ^ (p + 1))
  rw [mod_succ] at h
  omega
theorem upd_eq (N p e : Nat) : upd N p e = 4294967296 ^ (p + 1) * (N / 4294967296 ^ (p + 1)) + 4294967296 ^ p * e + N % 4294967296 ^ p := by
  have h := upd_parts N p
  unfold upd
  omega
theorem upd_add (N p e : Nat) : upd N p e + 4294967296 ^ p * D N p = N + 4294967296 ^ p * e := by
  have h := upd_parts N p
  unfold upd
  omega
theorem mod_upd (N p e : Nat) : upd N p e % 4294967296 ^ p = N % 4294967296 ^ p := by
  rw [upd_eq, Nat.pow_succ, Nat.mul_assoc, ← Nat.mul_add]
  rw [Nat.mul_add_mod]
  exact Nat.mod_mod _ _
theorem D_upd_same (N p e : Nat) (he : e < 4294967296) : D (upd N p e) p = e := by
  unfold D
  rw [upd_eq, Nat.pow_succ, Nat.mul_assoc, ← Nat.mul_add, Nat.mul_add_div (powB p), Nat.div_eq_of_lt (Nat.mod_lt _ (powB p))]
  omega
theorem div_upd (N p e : Nat) (he : e < 4294967296) : upd N p e / 4294967296 ^ (p + 1) = N / 4294967296 ^ (p + 1) := by
  rw [upd_eq, Nat.add_assoc, Nat.mul_add_div (powB (p + 1))]
  have h0 := Nat.mod_lt N (powB p)
  have hlt : 4294967296 ^ p * e + N % 4294967296 ^ p < 4294967296 ^ (p + 1) := by
    rw [Nat.pow_succ]
    have h1 : 4294967296 ^ p * (e + 1) ≤ 4294967296 ^ p * 4294967296 := Nat.mul_le_mul_left _ (by omega)
    rw [Nat.mul_add] at h1
    omega
  rw [Nat.div_eq_of_lt hlt, Nat.add_zero]
theorem D_upd_other (N p e i : Nat) (he : e < 4294967296) (hi : i ≠ p) : D (upd N p e) i = D N i := by
  rcases Nat.lt_or_gt_of_ne hi with h | h
  · rw [← D_mod_of_lt (N := upd N p e) h, mod_upd, D_mod_of_lt h]
  · obtain ⟨d, rfl⟩ : ∃ d, i = p + 1 + d := ⟨i - (p + 1), by omega⟩
    unfold D
    rw [Nat.pow_add, ← Nat.div_div_eq_div_mul, ← Nat.div_div_eq_div_mul, div_upd N p e he]
theorem upd_lt {N p e q : Nat} (hN : N < 4294967296 ^ q) (hp : p < q) (he : e < 4294967296) : upd N p e < 4294967296 ^ q := by
  obtain ⟨d, rfl⟩ : ∃ d, q = p + 1 + d := ⟨q - (p + 1), by omega⟩
  rw [Nat.pow_add, Nat.mul_comm] at hN ⊢
  rw [← Nat.div_lt_iff_lt_mul (powB (p + 1))] at hN ⊢
  rw [div_upd N p e he]; exact hN
theorem upd_mod (N k : Nat) : upd (N % 4294967296 ^ k) k (D N k) = N % 4294967296 ^ (k + 1) := by
  have h := upd_add (N % 4294967296 ^ k) k (D N k)
  rw [D_of_lt (Nat.mod_lt N (powB k)), Nat.mul_zero, Nat.add_zero] at h
  rw [h, mod_succ]
theorem cy_last {m n k : Nat} (hm : nl m ≤ k) (hn : nl n ≤ k) : cy m n k = D (m + n) k := by
  have h := cy_step m n k
  rw [D_ge_nl hm, D_ge_nl hn] at h
  have := cy_le m n k
  omega
theorem mul_bd (a b : Nat) (ha : a < 4294967296) (hb : b < 4294967296) : 0 ≤ (a : Int) * (b : Int) ∧ (a : Int) * (b : Int) ≤ 18446744065119617025 := by
  have h := Nat.mul_le_mul (show a ≤ 4294967295 by omega) (show b ≤ 4294967295 by omega)
  have h' : ((a * b : Nat) : Int) ≤ 18446744065119617025 := by omega
  exact ⟨Int.mul_nonneg (by omega) (by omega), by simpa using h'⟩
end Go.Proofs.Ythpndmamegfbkaa
