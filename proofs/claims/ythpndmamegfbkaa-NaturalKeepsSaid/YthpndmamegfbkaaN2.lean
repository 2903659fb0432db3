/- Contracts of math/bits' Sub32, Len32, LeadingZeros32 and Div32. -/
import Derived.Test.YthpndmamegfbkaaN1
import Derived.BigQuiet
import Derived.Deep.QuietTactic
import Derived.Lib.BitFns
namespace Go.Proofs.Ythpndmamegfbkaa
set_option linter.unusedSimpArgs false
set_option linter.unusedVariables false
open Go.RowKit

theorem div_or (a b : Nat) : (a ||| b) / 2147483648 = a / 2147483648 ||| b / 2147483648 := by
  have h := Nat.shiftRight_or_distrib (i := 31) (a := a) (b := b)
  simpa only [Nat.shiftRight_eq_div_pow] using h
theorem div_and (a b : Nat) : (a &&& b) / 2147483648 = a / 2147483648 &&& b / 2147483648 := by
  have h := Nat.shiftRight_and_distrib (i := 31) (a := a) (b := b)
  simpa only [Nat.shiftRight_eq_div_pow] using h
theorem div_xor (a b : Nat) : (a ^^^ b) / 2147483648 = (a / 2147483648) ^^^ (b / 2147483648) := by
  have h := Nat.shiftRight_xor_distrib (i := 31) (a := a) (b := b)
  simpa only [Nat.shiftRight_eq_div_pow] using h
/-- The top bit of a difference's borrow. -/
theorem borrow_nat (x y c d : Nat) (hx : x < 4294967296) (hy : y < 4294967296) (hc : c ≤ 1) (hd : d = (x + 8589934592 - y - c) % 4294967296) :
    (((4294967295 ^^^ x) &&& y) ||| ((4294967295 ^^^ (x ^^^ y)) &&& d)) / 2147483648 = if x < y + c then 1 else 0 := by
  rw [div_or, div_and, div_and, div_xor, div_xor, div_xor]
  have hd' : d < 4294967296 := by rw [hd]; exact Nat.mod_lt _ (by decide)
  have h1 : x / 2147483648 = 0 ∨ x / 2147483648 = 1 := by omega
  have h2 : y / 2147483648 = 0 ∨ y / 2147483648 = 1 := by omega
  have h3 : d / 2147483648 = 0 ∨ d / 2147483648 = 1 := by omega
  rcases h1 with h1 | h1 <;> rcases h2 with h2 | h2 <;> rcases h3 with h3 | h3 <;> rw [h1, h2, h3] <;> (split <;> first | rfl | (exfalso; omega))
def borrow (x y c : Int) : Int := if x < y + c then 1 else 0
theorem borrow_int (x y c : Int) (hx : 0 ≤ x) (hx' : x < 4294967296) (hy : 0 ≤ y) (hy' : y < 4294967296) (hc : 0 ≤ c) (hc' : c ≤ 1) :
    bits BinOp.or IntKind.u32 (bits BinOp.and IntKind.u32 (bits BinOp.xor IntKind.u32 IntKind.u32.max x) y)
                (bits BinOp.and IntKind.u32
                  (bits BinOp.xor IntKind.u32 IntKind.u32.max (bits BinOp.xor IntKind.u32 x y))
                  ((x - y - c) % 4294967296)) / 2147483648 = borrow x y c := by
  obtain ⟨x, rfl⟩ := Int.eq_ofNat_of_zero_le hx
  obtain ⟨y, rfl⟩ := Int.eq_ofNat_of_zero_le hy
  obtain ⟨c, rfl⟩ := Int.eq_ofNat_of_zero_le hc
  have ed : ((x : Int) - y - c) % 4294967296 = (((x + 8589934592 - y - c) % 4294967296 : Nat) : Int) := by omega
  have em : IntKind.u32.max = ((4294967295 : Nat) : Int) := by decide
  have hx : x < 4294967296 := by omega
  have hy : y < 4294967296 := by omega
  have l1 : 4294967295 ^^^ x < 4294967296 := Nat.xor_lt_two_pow (n := 32) (by decide) hx
  have l2 : x ^^^ y < 4294967296 := Nat.xor_lt_two_pow (n := 32) hx hy
  have l3 : 4294967295 ^^^ (x ^^^ y) < 4294967296 := Nat.xor_lt_two_pow (n := 32) (by decide) l2
  have l4 : (x + 8589934592 - y - c) % 4294967296 < 4294967296 := Nat.mod_lt _ (by decide)
  have l5 : (4294967295 ^^^ x) &&& y < 4294967296 := Nat.and_lt_two_pow (n := 32) _ hy
  have l6 : (4294967295 ^^^ (x ^^^ y)) &&& ((x + 8589934592 - y - c) % 4294967296) < 4294967296 := Nat.and_lt_two_pow (n := 32) _ l4
  rw [ed, em, u32_xor_nat _ _ (by decide) hx, u32_xor_nat _ _ hx hy, u32_xor_nat _ _ (by decide) l2, u32_and_nat _ _ l1 hy, u32_and_nat _ _ l3 l4, u32_or_nat _ _ l5 l6]
  have hb := borrow_nat x y c _ hx hy (by omega) rfl
  unfold borrow
  have hcast : ((((((4294967295 ^^^ x) &&& y) ||| ((4294967295 ^^^ (x ^^^ y)) &&& ((x + 8589934592 - y - c) % 4294967296))) / 2147483648 : Nat)) : Int) = if (x : Int) < y + c then 1 else 0 := by
    rw [hb]
    split <;> split <;> first | rfl | omega
  simpa using hcast
theorem c_sub32 (x y c : Int) (w : World) (hx : 0 ≤ x) (hx' : x < 4294967296) (hy : 0 ≤ y) (hy' : y < 4294967296) (hc : 0 ≤ c) (hc' : c ≤ 1) :
    Calls Try.prog 49 #[.int .u32 x, .int .u32 y, .int .u32 c] w fun e w' =>
      e = .returned (.tuple #[.int .u32 ((x - y - c) % 4294967296), .int .u32 (borrow x y c)]) ∧ w = w' := by
  have hb := Lib.hid (borrow_int x y c hx hx' hy hy' hc hc')
  go_enter Try.func49, Try.ntmps49
  go_wp2
  go_ret2
  refine ⟨?_, rfl⟩
  rw [← hb.out]
  rfl

set_option maxHeartbeats 4000000 in
set_option maxRecDepth 100000 in
theorem c_len32 (x : Int) (w : World) (h0 : 0 ≤ x) (h1 : x ≤ 4294967295) :
    Calls Try.prog 51 #[.int .u32 x] w fun e w' => e = .returned (.int .i64 (Lib.bitLen x.toNat)) ∧ w = w' := by
  by_cases c2 : x < 65536
  · by_cases c1 : x < 256
    · have b1 : x ≤ 255 := by omega
      have l := Lib.bitLen_le8' x (by omega) (by omega)
      have hl := Lib.hid (Lib.len8_of x (by omega) (by omega))
      go_enter Try.func51, Try.ntmps51
      go_wp2
      go_ret
      refine ⟨congrArg Ending.returned (congrArg (Value.int IntKind.i64) ?_), rfl⟩
      rw [hl.out]
      simp only [wrap64]; omega
    · have b0 : 0 ≤ x / 256 := by omega
      have b1 : x / 256 ≤ 255 := by omega
      have l := Lib.bitLen_le8' (x / 256) (by omega) (by omega)
      have hl := Lib.hid (Lib.len8_of (x / 256) (by omega) (by omega))
      have hs := Lib.hid (Lib.bitLen_shift8 x.toNat (by omega) (by omega))
      have e := Lib.hid (show (x / 256).toNat = x.toNat / 256 from by omega)
      go_enter Try.func51, Try.ntmps51
      go_wp2
      go_ret
      refine ⟨congrArg Ending.returned (congrArg (Value.int IntKind.i64) ?_), rfl⟩
      rw [hl.out, hs.out, ← e.out]
      simp only [wrap64]; omega
  · by_cases c1 : x / 65536 < 256
    · have b0 : 0 ≤ x / 65536 := by omega
      have b1 : x / 65536 ≤ 255 := by omega
      have l := Lib.bitLen_le8' (x / 65536) (by omega) (by omega)
      have hl := Lib.hid (Lib.len8_of (x / 65536) (by omega) (by omega))
      have hs := Lib.hid (Lib.bitLen_shift16 x.toNat (by omega) (by omega))
      have e := Lib.hid (show (x / 65536).toNat = x.toNat / 65536 from by omega)
      go_enter Try.func51, Try.ntmps51
      go_wp2
      go_ret
      refine ⟨congrArg Ending.returned (congrArg (Value.int IntKind.i64) ?_), rfl⟩
      rw [hl.out, hs.out, ← e.out]
      simp only [wrap64]; omega
    · have b0 : 0 ≤ x / 65536 / 256 := by omega
      have b1 : x / 65536 / 256 ≤ 255 := by omega
      have l := Lib.bitLen_le8' (x / 65536 / 256) (by omega) (by omega)
      have hl := Lib.hid (Lib.len8_of (x / 65536 / 256) (by omega) (by omega))
      have hs := Lib.hid (Lib.bitLen_shift24 x.toNat (by omega) (by omega))
      have e := Lib.hid (show (x / 65536 / 256).toNat = x.toNat / 16777216 from by omega)
      go_enter Try.func51, Try.ntmps51
      go_wp2
      go_ret
      refine ⟨congrArg Ending.returned (congrArg (Value.int IntKind.i64) ?_), rfl⟩
      rw [hl.out, hs.out, ← e.out]
      simp only [wrap64]; omega
theorem c_lz32 (x : Int) (w : World) (h0 : 0 ≤ x) (h1 : x ≤ 4294967295) :
    Calls Try.prog 41 #[.int .u32 x] w fun e w' => e = .returned (.int .i64 (32 - (Lib.bitLen x.toNat : Int))) ∧ w = w' := by
  have l := Lib.bitLen_le x.toNat 32 (by omega) (by omega)
  go_enter Try.func41, Try.ntmps41
  go_wp2_with fail
  refine (c_len32 x _ h0 h1).mono ?_
  rintro e w' ⟨rfl, rfl⟩
  go_wp2
  go_ret
  exact ⟨rfl, rfl⟩
theorem or32 (hi lo : Int) (h0 : 0 ≤ hi) (h1 : hi ≤ 4294967295) (h2 : 0 ≤ lo) (h3 : lo ≤ 4294967295) : bits BinOp.or IntKind.u64 (hi * 4294967296) lo = hi * 4294967296 + lo := by
  obtain ⟨x, rfl⟩ := Int.eq_ofNat_of_zero_le h0
  obtain ⟨y, rfl⟩ := Int.eq_ofNat_of_zero_le h2
  have := u64_or_nat (x * 4294967296) y (by omega) (by omega)
  rw [nat_join 32 (x * 4294967296) y (by omega) (by omega)] at this
  simpa using this
theorem c_div32 (hi lo y : Int) (w : World) (h0 : 0 ≤ hi) (h1 : hi < y) (h2 : 0 ≤ lo) (h3 : lo ≤ 4294967295) (h4 : y ≤ 4294967295) :
    Calls Try.prog 52 #[.int .u32 hi, .int .u32 lo, .int .u32 y] w fun e w' => e = .returned (.tuple #[.int .u32 ((hi * 4294967296 + lo) / y), .int .u32 ((hi * 4294967296 + lo) % y)]) ∧ ∃ n, w' = w.drewN n := by
  have hy : 0 < y := by omega
  have hor := or32 hi lo h0 (by omega) h2 h3
  have hne : (y != 0) = true := by rw [bne_iff_ne]; omega
  have q1 : 0 ≤ (hi * 4294967296 + lo) / y := Int.ediv_nonneg (by omega) (by omega)
  have q2 : (hi * 4294967296 + lo) / y ≤ 4294967295 := by
    have : (hi * 4294967296 + lo) / y < 4294967296 := by
      rw [Int.ediv_lt_iff_lt_mul hy]
      omega
    omega
  have r1 : 0 ≤ (hi * 4294967296 + lo) % y := Int.emod_nonneg _ (by omega)
  have r2 : (hi * 4294967296 + lo) % y < y := Int.emod_lt_of_pos _ hy
  go_enter Try.func52, Try.ntmps52
  go_wp2
  go_quiet (fail)
  go_wp2
  go_ret2
  exact ⟨rfl, _, rfl⟩
end Go.Proofs.Ythpndmamegfbkaa
