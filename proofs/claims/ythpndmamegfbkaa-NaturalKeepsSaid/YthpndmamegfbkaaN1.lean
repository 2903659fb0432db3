/- Contracts of norm, made and of math/bits' additions. -/
import Derived.Test.YthpndmamegfbkaaMem
namespace Go.Proofs.Ythpndmamegfbkaa
set_option linter.unusedSimpArgs false
set_option linter.unusedVariables false
open Go.RowKit

theorem nl_mod_of_zero {N k : Nat} (hN : nl N ≤ k + 1) (h : D N k = 0) : nl N ≤ k := by
  rw [nl_le_iff] at *
  have h1 := Nat.mod_eq_of_lt hN
  rw [mod_succ, h, Nat.mul_zero, Nat.add_zero] at h1
  rw [← h1]; exact Nat.mod_lt _ (powB k)
theorem nl_of_top {N k : Nat} (hN : nl N ≤ k + 1) (h : D N k ≠ 0) : nl N = k + 1 := by
  have : ¬ nl N ≤ k := fun h' => h (D_ge_nl h')
  omega

theorem c_norm (a : Option Addr) (L cap N : Nat) (w : World) (hL : L ≤ 9223372036854775807) (hcap : L ≤ cap) (hr : Rw w a L N) :
    Calls Try.prog 37 #[.slice a L cap] w fun e w' => e = .returned (.slice a (nl N) (nl N)) ∧ w = w' := by
  go_enter Try.func37, Try.ntmps37
  go_wp2
  go_loop [3] (fun n => ∃ k : Nat, k ≤ L ∧ n = .int .i64 k ∧ nl N ≤ k) (fun n => (intOf n).toNat)
  case atStart => exact ⟨L, Nat.le_refl _, rfl, nl_le_iff.2 hr.lt⟩
  case round =>
    obtain ⟨k, hk, rfl, hn⟩ := hrel
    cases k with
    | zero =>
      go_wp2
      go_ret
      have : nl N = 0 := by omega
      rw [this]
      exact ⟨rfl, rfl⟩
    | succ k =>
      obtain ⟨b, off, rfl, hcell⟩ := hr.cells (by omega)
      have hck := hcell k (by omega)
      by_cases hz : D N k = 0
      · rw [hz] at hck
        have HZ := Lib.hid hz; clear hz
        go_wp2
        go_round
        case rel => exact ⟨k, by omega, by go_num, nl_mod_of_zero hn HZ.out⟩
        case measure => simp [intOf]
      · have hz' : (((D N k : Nat) : Int) == 0) = false := by simpa using hz
        have HZ := Lib.hid hz; clear hz
        go_wp2
        go_ret
        have : nl N = k + 1 := nl_of_top hn HZ.out
        rw [this]
        exact ⟨rfl, rfl⟩

/-- 'made(w)': the Nat of a row. -/
theorem c_made (a : Option Addr) (L cap N : Nat) (w : World) (hL : L ≤ 9223372036854775807) (hcap : L ≤ cap) (hr : Rw w a L N) :
    Calls Try.prog 39 #[.slice a L cap] w fun e w' => e = .returned (.agg #[.slice a (nl N) (nl N)]) ∧ Below w.heap.size w w' := by
  go_enter Try.func39, Try.ntmps39
  go_wp2_with fail
  refine (c_norm a L cap N _ hL hcap (hr.mono ((Below.refl _ _).alloc (Nat.le_refl _) _))).mono ?_
  rintro e w' ⟨rfl, rfl⟩
  go_wp2
  exact bodyPost_ret (v := .agg #[.slice a (nl N) (nl N)]) (by simp [results, Try.results39, go_sem]) rfl ⟨rfl, ((Below.refl _ _).alloc (Nat.le_refl _) _)⟩

theorem c_add32 (x y c : Int) (w : World) (hx : 0 ≤ x) (hx' : x < 4294967296) (hy : 0 ≤ y) (hy' : y < 4294967296) (hc : 0 ≤ c) (hc' : c ≤ 1) :
    Calls Try.prog 48 #[.int .u32 x, .int .u32 y, .int .u32 c] w fun e w' =>
      e = .returned (.tuple #[.int .u32 ((x + y + c) % 4294967296), .int .u32 ((x + y + c) / 4294967296)]) ∧ w = w' := by
  go_enter Try.func48, Try.ntmps48
  go_wp2
  go_ret2
  exact ⟨rfl, rfl⟩
end Go.Proofs.Ythpndmamegfbkaa
