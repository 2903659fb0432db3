/- The mathematics of the long division. -/
import Derived.Test.YthpndmamegfbkaaN8
namespace Go.Proofs.Ythpndmamegfbkaa
set_option linter.unusedSimpArgs false
set_option linter.unusedVariables false
open Go.RowKit
theorem norm_shift {n : Nat} (hn : n ≠ 0) : ∃ s : Nat, (32 - ((Lib.bitLen (D n (nl n - 1)) : Nat) : Int)) = (s : Int) ∧ s < 32 ∧ n * 2 ^ s < 4294967296 ^ nl n ∧ 2147483648 ≤ D (n * 2 ^ s) (nl n - 1) := by
  have h1 := nl_pos hn
  have h2 := D_top hn
  have h3 := lt_nl n
  obtain ⟨k, hk⟩ : ∃ k, nl n = k + 1 := ⟨nl n - 1, by omega⟩
  rw [hk] at h2 h3 ⊢
  simp only [Nat.add_sub_cancel] at h2 ⊢
  have hD : D n k = n / 4294967296 ^ k := by
    unfold D
    rw [Nat.mod_eq_of_lt]
    rw [Nat.div_lt_iff_lt_mul (powB k), ← Nat.pow_succ']; exact h3
  have hlt := D_lt n k
  have hl : (D n k).log2 < 32 := (Nat.log2_lt h2).2 (by omega)
  have hb := bitLen_eq (t := D n k) (k := (D n k).log2) (by omega) (Nat.log2_self_le h2) Nat.lt_log2_self
  have g1 := Nat.log2_self_le h2
  have g2 : D n k < 2 ^ ((D n k).log2 + 1) := Nat.lt_log2_self
  have hdm := Nat.div_add_mod n (4294967296 ^ k)
  have hml := Nat.mod_lt n (powB k)
  rw [hD] at *
  generalize hL : (n / 4294967296 ^ k).log2 = l at *
  generalize n / 4294967296 ^ k = t at *
  have e1 : 2 ^ (l + 1) * 2 ^ (31 - l) = 4294967296 := by rw [← Nat.pow_add, show l + 1 + (31 - l) = 32 by omega]
  have e2 : 2 ^ l * 2 ^ (31 - l) = 2147483648 := by rw [← Nat.pow_add, show l + (31 - l) = 31 by omega]
  have u1 : n * 2 ^ (31 - l) < 4294967296 ^ (k + 1) := by
    have a1 : n < 4294967296 ^ k * (t + 1) := by rw [Nat.mul_add]; omega
    have a2 := Nat.mul_lt_mul_of_pos_right a1 (show 0 < 2 ^ (31 - l) from Nat.pow_pos (by decide))
    have a3 : 4294967296 ^ k * (t + 1) * 2 ^ (31 - l) ≤ 4294967296 ^ k * (2 ^ (l + 1) * 2 ^ (31 - l)) := by
      rw [Nat.mul_assoc]
      exact Nat.mul_le_mul_left _ (Nat.mul_le_mul_right _ g2)
    rw [e1] at a3
    rw [Nat.pow_succ]
    exact Nat.lt_of_lt_of_le a2 a3
  refine ⟨31 - l, by rw [hb]; omega, by omega, u1, ?_⟩
  have v1 : 2147483648 ≤ n * 2 ^ (31 - l) / 4294967296 ^ k := by
    rw [Nat.le_div_iff_mul_le (powB k), ← e2]
    have a1 : 4294967296 ^ k * 2 ^ l ≤ n := Nat.le_trans (Nat.mul_le_mul_left _ g1) (by omega)
    have a2 := Nat.mul_le_mul_right (2 ^ (31 - l)) a1
    have e3 : 2 ^ l * 2 ^ (31 - l) * 4294967296 ^ k = 4294967296 ^ k * 2 ^ l * 2 ^ (31 - l) := by
      rw [Nat.mul_comm _ (4294967296 ^ k), Nat.mul_assoc]
    rw [e3]; exact a2
  unfold D
  rw [Nat.mod_eq_of_lt]
  · exact v1
  · rw [Nat.div_lt_iff_lt_mul (powB k), ← Nat.pow_succ']; exact u1
/-- The row of the remainder, when the quotient's digits from k on are known. -/
def remAt (U V k : Nat) : Nat := U / 4294967296 ^ k % V * 4294967296 ^ k + U % 4294967296 ^ k
theorem remAt_start {U V k : Nat} (h : U / 4294967296 ^ k < V) : remAt U V k = U := by
  unfold remAt
  rw [Nat.mod_eq_of_lt h, Nat.mul_comm]; exact Nat.div_add_mod _ _
theorem remAt_zero (U V : Nat) : remAt U V 0 = U % V := by unfold remAt; simp [Nat.mod_one]
theorem remAt_eq (U V k : Nat) : remAt U V (k + 1) = 4294967296 ^ k * (U / 4294967296 ^ (k + 1) % V * 4294967296 + D U k) + U % 4294967296 ^ k := by
  unfold remAt
  rw [mod_succ, Nat.pow_succ]; grind
theorem remAt_div (U V k : Nat) : remAt U V (k + 1) / 4294967296 ^ k = U / 4294967296 ^ (k + 1) % V * 4294967296 + D U k := by
  rw [remAt_eq, Nat.mul_add_div (powB k), Nat.div_eq_of_lt (Nat.mod_lt _ (powB k)), Nat.add_zero]
theorem win_lt (U V k : Nat) (hV : 0 < V) : U / 4294967296 ^ (k + 1) % V * 4294967296 + D U k < V * 4294967296 := by
  have h1 := Nat.mod_lt (U / 4294967296 ^ (k + 1)) hV
  have h2 := D_lt U k
  generalize U / 4294967296 ^ (k + 1) % V = r at *
  omega
theorem remAt_lt {U V k N : Nat} (hV : 0 < V) (hVN : V < 4294967296 ^ N) : remAt U V (k + 1) < 4294967296 ^ (k + N + 1) := by
  have h1 := win_lt U V k hV
  have h2 := Nat.mod_lt U (powB k)
  rw [remAt_eq]
  generalize U / 4294967296 ^ (k + 1) % V * 4294967296 + D U k = W at *
  have h3 : 4294967296 ^ k * (W + 1) ≤ 4294967296 ^ k * (4294967296 ^ N * 4294967296) := Nat.mul_le_mul_left _ (by
    have := Nat.mul_le_mul_right 4294967296 (Nat.le_of_lt hVN)
    omega)
  have e : 4294967296 ^ (k + N + 1) = 4294967296 ^ k * (4294967296 ^ N * 4294967296) := by rw [Nat.pow_succ, Nat.pow_add, Nat.mul_assoc]
  rw [e, ]
  rw [Nat.mul_add] at h3
  omega
theorem remAt_step (U V k : Nat) (hV : 0 < V) : remAt U V (k + 1) - 4294967296 ^ k * (remAt U V (k + 1) / 4294967296 ^ k / V * V) = remAt U V k := by
  rw [remAt_div, remAt_eq]
  have h1 := (short_div (U / 4294967296 ^ (k + 1)) (D U k) V hV).2
  rw [← div_step U k] at h1
  unfold remAt
  rw [h1, Nat.mul_comm 4294967296 (U / 4294967296 ^ (k + 1) % V)]
  generalize U / 4294967296 ^ (k + 1) % V * 4294967296 + D U k = W at *
  have h2 := Nat.div_add_mod W V
  have h3 : 4294967296 ^ k * W = 4294967296 ^ k * (W / V * V) + W % V * 4294967296 ^ k := by
    rw [Nat.mul_comm (W % V), ← Nat.mul_add, Nat.mul_comm (W / V), h2]
  rw [h3]
  omega
theorem quo_step (U V k : Nat) (hV : 0 < V) : upd (shortAt U V (k + 1)) k (remAt U V (k + 1) / 4294967296 ^ k / V) = shortAt U V k ∧ remAt U V (k + 1) / 4294967296 ^ k / V < 4294967296 := by
  have h := shortAt_step U V k hV
  rw [remAt_div]
  exact ⟨h.1, h.2.2⟩
theorem guess_bounds {B W V P T V2 w0 v0 : Nat} (hP : 0 < P) (hW : W = T * P + w0) (hw : w0 < P) (hV : V = V2 * P + v0) (hv : v0 < P) (hB : B ≤ V2) (hq : W / V < B) (hB0 : 0 < B) :
    W / V ≤ topQ B T V2 ∧ topQ B T V2 ≤ W / V + 1 := by
  have hV2 : 0 < V2 := by omega
  have hVp : 0 < V := by have := Nat.mul_pos hV2 hP; omega
  constructor
  · have h1 : W / V * V ≤ W := Nat.div_mul_le_self _ _
    have h2 : W / V * V2 ≤ T := by
      have h3 : W / V * V2 * P ≤ W / V * V := by
        rw [Nat.mul_assoc]; exact Nat.mul_le_mul_left _ (by omega)
      have h4 : W / V * V2 * P < (T + 1) * P := by rw [Nat.add_mul]; omega
      have := Nat.lt_of_mul_lt_mul_right h4
      omega
    have h5 : W / V ≤ T / V2 := (Nat.le_div_iff_mul_le hV2).2 h2
    unfold topQ; omega
  · generalize hqq : topQ B T V2 = q
    have h1 : q ≤ B - 1 := by rw [← hqq]; unfold topQ; omega
    have h2 : q * V2 ≤ T := by
      have : q ≤ T / V2 := by rw [← hqq]; unfold topQ; omega
      exact (Nat.le_div_iff_mul_le hV2).1 this
    rcases Nat.eq_zero_or_pos q with h0 | h0
    · rw [h0]; exact Nat.zero_le _
    · obtain ⟨z, rfl⟩ : ∃ z, q = z + 1 := ⟨q - 1, by omega⟩
      have h3 : z * V ≤ W := by
        have h4 : z * V ≤ z * (V2 * P + P) := Nat.mul_le_mul_left _ (by omega)
        have h5 : z * (V2 * P + P) ≤ T * P := by
          have h6 : (z * V2 + z) * P ≤ T * P := Nat.mul_le_mul_right _ (by rw [Nat.add_mul] at h2; omega)
          have e : z * (V2 * P + P) = (z * V2 + z) * P := by grind
          rw [e]; exact h6
        omega
      have : z ≤ W / V := (Nat.le_div_iff_mul_le hVp).2 h3
      omega
/-- The three leading digits, and the two. -/
theorem knuth {C V k N : Nat} (hN : 2 ≤ N) (hVN : V < 4294967296 ^ N) (htop : 2147483648 ≤ D V (N - 1)) (hC : C < 4294967296 ^ (k + N + 1)) (hW : C / 4294967296 ^ k < V * 4294967296) :
    D C (k + N) ≤ D V (N - 1) ∧
    C / 4294967296 ^ k / V ≤ topQ 4294967296 ((D C (k + N) * 4294967296 + D C (k + N - 1)) * 4294967296 + D C (k + N - 2)) (D V (N - 1) * 4294967296 + D V (N - 2)) ∧
    topQ 4294967296 ((D C (k + N) * 4294967296 + D C (k + N - 1)) * 4294967296 + D C (k + N - 2)) (D V (N - 1) * 4294967296 + D V (N - 2)) ≤ C / 4294967296 ^ k / V + 1 := by
  obtain ⟨j, rfl⟩ : ∃ j, N = j + 2 := ⟨N - 2, by omega⟩
  have e1 : k + (j + 2) - 1 = k + j + 1 := by omega
  have e2 : k + (j + 2) - 2 = k + j := by omega
  have e3 : j + 2 - 1 = j + 1 := by omega
  have e4 : j + 2 - 2 = j := by omega
  have e5 : k + (j + 2) = k + j + 2 := by omega
  rw [e3] at htop
  rw [e1, e2, e3, e4, e5]
  rw [show k + (j + 2) + 1 = k + j + 3 by omega] at hC
  have c3 : C / 4294967296 ^ (k + j + 3) = 0 := Nat.div_eq_of_lt hC
  have c2 := div_step C (k + j + 2)
  have c1 := div_step C (k + j + 1)
  have c0 := div_step C (k + j)
  rw [c3, Nat.mul_zero, Nat.zero_add] at c2
  rw [show k + j + 1 + 1 = k + j + 2 by omega, c2] at c1
  rw [c1] at c0
  have v2 : V / 4294967296 ^ (j + 2) = 0 := Nat.div_eq_of_lt hVN
  have v1 := div_step V (j + 1)
  have v0 := div_step V j
  rw [show j + 1 + 1 = j + 2 by omega, v2, Nat.mul_zero, Nat.zero_add] at v1
  rw [v1] at v0
  have hVpos : 0 < V := by
    rcases Nat.eq_zero_or_pos V with h | h
    · rw [h, D_zero] at htop; omega
    · exact h
  have hWj : C / 4294967296 ^ k / 4294967296 ^ j = (D C (k + j + 2) * 4294967296 + D C (k + j + 1)) * 4294967296 + D C (k + j) := by
    rw [Nat.div_div_eq_div_mul, ← Nat.pow_add, c0]; omega
  have hVj : V / 4294967296 ^ j = D V (j + 1) * 4294967296 + D V j := by rw [v0]; omega
  have hWd := Nat.div_add_mod (C / 4294967296 ^ k) (4294967296 ^ j)
  have hVd := Nat.div_add_mod V (4294967296 ^ j)
  rw [hWj] at hWd
  rw [hVj] at hVd
  rw [Nat.mul_comm] at hWd hVd
  have hgb := guess_bounds (B := 4294967296) (W := C / 4294967296 ^ k) (V := V) (P := 4294967296 ^ j) (T := (D C (k + j + 2) * 4294967296 + D C (k + j + 1)) * 4294967296 + D C (k + j)) (V2 := D V (j + 1) * 4294967296 + D V j)
    (powB j) hWd.symm (Nat.mod_lt _ (powB j)) hVd.symm (Nat.mod_lt _ (powB j)) (by omega) ((Nat.div_lt_iff_lt_mul hVpos).2 (by rw [Nat.mul_comm]; exact hW)) (by decide)
  refine ⟨?_, hgb.1, hgb.2⟩
  have t1 : C / 4294967296 ^ k / 4294967296 ≤ V := by
    have : C / 4294967296 ^ k / 4294967296 < V := (Nat.div_lt_iff_lt_mul (by decide)).2 hW
    omega
  have t2 := Nat.div_le_div_right (c := 4294967296 ^ (j + 1)) t1
  rw [v1, Nat.div_div_eq_div_mul, Nat.div_div_eq_div_mul] at t2
  rw [show 4294967296 ^ k * (4294967296 * 4294967296 ^ (j + 1)) = 4294967296 ^ (k + j + 2) by rw [← Nat.pow_succ', ← Nat.pow_add]; congr 1] at t2
  rw [c2] at t2
  exact t2
/-- The first remainder is the number itself. -/
theorem first_rem {m n s a N : Nat} (hm : m < 4294967296 ^ a) (hs : s < 32) (hN : 1 ≤ N) (hNa : N ≤ a) (htop : 2147483648 ≤ D (n * 2 ^ s) (N - 1)) : m * 2 ^ s / 4294967296 ^ (a - N + 1) < n * 2 ^ s := by
  rw [Nat.div_lt_iff_lt_mul (powB _)]
  have h1 : m * 2 ^ s < 4294967296 ^ a * 2147483648 := by
    have h2 : 2 ^ s ≤ 2147483648 := by
      have := Nat.pow_le_pow_right (n := 2) (by decide) (show s ≤ 31 by omega)
      exact Nat.le_trans this (by decide)
    exact Nat.lt_of_lt_of_le (Nat.mul_lt_mul_of_pos_right hm (Nat.pow_pos (by decide))) (Nat.mul_le_mul_left _ h2)
  have h3 : 2147483648 * 4294967296 ^ (N - 1) ≤ n * 2 ^ s := by
    have h4 : 2147483648 ≤ n * 2 ^ s / 4294967296 ^ (N - 1) := Nat.le_trans htop (Nat.mod_le _ _)
    exact (Nat.le_div_iff_mul_le (powB _)).1 h4
  have h5 := Nat.mul_le_mul_right (4294967296 ^ (a - N + 1)) h3
  rw [Nat.mul_assoc, ← Nat.pow_add, show N - 1 + (a - N + 1) = a by omega, Nat.mul_comm] at h5
  omega
end Go.Proofs.Ythpndmamegfbkaa
