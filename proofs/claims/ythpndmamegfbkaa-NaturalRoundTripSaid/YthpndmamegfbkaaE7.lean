/- The reference's bit. -/
import Derived.Test.YthpndmamegfbkaaS6
namespace Go.Proofs.Ythpndmamegfbkaa
set_option linter.unusedSimpArgs false
set_option linter.unusedVariables false
open Go.RowKit
theorem bit_of (m i : Nat) : D m (i / 32) / 2 ^ (i % 32) % 2 = m / 2 ^ i % 2 := by
  unfold D
  have h1 : (4294967296 : Nat) ^ (i / 32) = 2 ^ (32 * (i / 32)) := by rw [Nat.pow_mul]
  have h3 : ∀ X s : Nat, s ≤ 32 → X % 4294967296 / 2 ^ s = X / 2 ^ s % 2 ^ (32 - s) := by
    intro X s hs
    rw [show (4294967296 : Nat) = 2 ^ s * 2 ^ (32 - s) by rw [← Nat.pow_add, show s + (32 - s) = 32 by omega], Nat.mod_mul_right_div_self]
  rw [h3 _ _ (by omega), h1, Nat.div_div_eq_div_mul, ← Nat.pow_add, Nat.div_add_mod]
  have h4 : (2 : Nat) ∣ 2 ^ (32 - i % 32) := ⟨2 ^ (31 - i % 32), by rw [← Nat.pow_succ', show (31 - i % 32).succ = 32 - i % 32 by omega]⟩
  exact Nat.mod_mod_of_dvd _ h4
theorem c_bit (va : Value) (m i : Nat) (w : World) (ha : IsN w va m) (hm : nl m ≤ 1000000000000) (hi : i ≤ 60000000000000) :
    Calls Try.prog 54 #[va, .int .i64 (i : Int)] w fun e w' => RetV w (.int .u64 ((m / 2 ^ i % 2 : Nat) : Int)) e w' := by
  obtain ⟨a, ca, rfl, hca, ra⟩ := ha
  obtain ⟨k0, k1⟩ := box1 (L := nl m) (c := ca) (N := m) ⟨a, ca, rfl, hca, ra⟩
  obtain ⟨y1, d1, q1, i1⟩ := k1
  have e1 := q1.cell
  obtain ⟨P, hP⟩ : ∃ P : Nat, Hid (P = i / 32) := ⟨_, Lib.hid rfl⟩
  obtain ⟨R, hR⟩ : ∃ R : Nat, Hid (R = i % 32) := ⟨_, Lib.hid rfl⟩
  have hq : (i : Int) / 32 = (P : Int) := by have := hP.out; omega
  have hq' : Int.tdiv (i : Int) 32 = (P : Int) := by rw [Int.tdiv_eq_ediv_of_nonneg (by omega)]; exact hq
  have hr : (i : Int) % 32 = (R : Int) := by have := hR.out; omega
  have hr' : Int.tmod (i : Int) 32 = (R : Int) := by rw [Int.tmod_eq_emod_of_nonneg (by omega)]; exact hr
  have hR32 : R ≤ 31 := by have := hR.out; omega
  have hPb : P ≤ 60000000000000 := by have := hP.out; omega
  have hbit : D m P / 2 ^ R % 2 = m / 2 ^ i % 2 := by rw [hP.out, hR.out]; exact bit_of m i
  have HB := Lib.hid hbit
  clear hbit
  obtain ⟨V, hV⟩ : ∃ V : Nat, Hid (V = D m P) := ⟨_, Lib.hid rfl⟩
  have hVb : V ≤ 4294967295 := by have := D_lt m P; have := hV.out; omega
  go_enter Try.func54, Try.ntmps54
  go_wp2_with fail
  refine (c_digit _ (nl m) m P _ i1 (by omega) hPb).mono ?_
  rintro e w1 ⟨rfl, bb⟩
  rw [← hV.out]
  have hb1 := k0.trans (bb.mono k0.size)
  go_wp2_with fail
  go_loopw [5, 6] (fun s5 s6 wr => ∃ k x : Nat, k ≤ R ∧ s6 = .int .i64 (k : Int) ∧ s5 = .int .u64 (x : Int) ∧ Hid (x = V / 2 ^ k) ∧ x ≤ 4294967295 ∧ wr = w1) (fun _ s6 _ => R - (intOf s6).toNat)
  case atStart => exact ⟨0, V, Nat.zero_le _, rfl, rfl, Lib.hid (by simp), hVb, rfl⟩
  case round =>
    obtain ⟨k, x, hk, rfl, rfl, HX, hxb, rfl⟩ := hrel
    by_cases hlt : k < R
    · obtain ⟨y, hy⟩ : ∃ y : Nat, Hid (y = x / 2) := ⟨_, Lib.hid rfl⟩
      have hq2 : ((x : Nat) : Int) / 2 = ((y : Nat) : Int) := by have := hy.out; omega
      have hyb : y ≤ 4294967295 := by have := hy.out; omega
      go_wp2_with fail
      go_roundw
      case rel => exact ⟨k + 1, y, by omega, by go_num, rfl, Lib.hid (by rw [hy.out, HX.out, Nat.pow_succ, Nat.div_div_eq_div_mul]), hyb, trivial⟩
      case measure => simp [intOf] <;> omega
    · obtain rfl : k = R := by omega
      obtain ⟨y, hy⟩ : ∃ y : Nat, Hid (y = x % 2) := ⟨_, Lib.hid rfl⟩
      have hq2 : ((x : Nat) : Int) % 2 = ((y : Nat) : Int) := by have := hy.out; omega
      go_wp2
      go_ret
      refine ⟨?_, hb1⟩
      rw [← HB.out, ← hV.out, ← HX.out]
      refine congrArg Ending.returned (congrArg (Value.int IntKind.u64) ?_)
      have := hy.out
      omega
end Go.Proofs.Ythpndmamegfbkaa
