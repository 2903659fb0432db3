/- The contracts of short and Bits. -/
import Derived.Test.YthpndmamegfbkaaN6
namespace Go.Proofs.Ythpndmamegfbkaa
set_option linter.unusedSimpArgs false
set_option linter.unusedVariables false
open Go.RowKit
/-- The row of the quotient, when the digits from k on are done. -/
def shortAt (N d k : Nat) : Nat := 4294967296 ^ k * (N / 4294967296 ^ k / d)
theorem short_div (A x d : Nat) (hd : 0 < d) : (4294967296 * A + x) / d = 4294967296 * (A / d) + (4294967296 * (A % d) + x) / d ∧ (4294967296 * A + x) % d = (4294967296 * (A % d) + x) % d := by
  have h := Nat.div_add_mod A d
  have e : 4294967296 * A + x = d * (4294967296 * (A / d)) + (4294967296 * (A % d) + x) := by
    have h2 : 4294967296 * A = 4294967296 * (d * (A / d) + A % d) := by rw [h]
    rw [h2]
    grind
  rw [e]
  exact ⟨Nat.mul_add_div hd _ _, Nat.mul_add_mod _ _ _⟩
theorem shortAt_step (N d k : Nat) (hd : 0 < d) :
    upd (shortAt N d (k + 1)) k ((N / 4294967296 ^ (k + 1) % d * 4294967296 + D N k) / d) = shortAt N d k ∧
    (N / 4294967296 ^ (k + 1) % d * 4294967296 + D N k) % d = N / 4294967296 ^ k % d ∧ (N / 4294967296 ^ (k + 1) % d * 4294967296 + D N k) / d < 4294967296 := by
  have h1 := short_div (N / 4294967296 ^ (k + 1)) (D N k) d hd
  rw [← div_step N k] at h1
  rw [Nat.mul_comm (N / 4294967296 ^ (k + 1) % d) 4294967296]
  have hlt : (4294967296 * (N / 4294967296 ^ (k + 1) % d) + D N k) / d < 4294967296 := by
    rw [Nat.div_lt_iff_lt_mul hd]
    have := Nat.mod_lt (N / 4294967296 ^ (k + 1)) hd
    have := D_lt N k
    omega
  refine ⟨?_, h1.2.symm, hlt⟩
  have h2 := upd_add (shortAt N d (k + 1)) k ((4294967296 * (N / 4294967296 ^ (k + 1) % d) + D N k) / d)
  have h3 : D (shortAt N d (k + 1)) k = 0 := by
    unfold shortAt D
    rw [Nat.pow_succ, Nat.mul_assoc, Nat.mul_div_cancel_left _ (powB k), Nat.mul_mod_right]
  rw [h3, Nat.mul_zero, Nat.add_zero] at h2
  rw [h2]
  unfold shortAt
  rw [h1.1, Nat.pow_succ]
  grind
def RetShort (W : World) (L N d : Nat) (e : Ending) (w' : World) : Prop :=
  ∃ g, e = .returned (.tuple #[.slice (some ⟨g, 0, none⟩) L L, .int .u32 ((N % d : Nat) : Int)]) ∧ W.heap.size ≤ g ∧ OwnR w' g L (N / d) ∧ Below W.heap.size W w'
theorem c_short (a : Option Addr) (L cap N d : Nat) (w : World) (ra : Rw w a L N) (hL : L ≤ 1000000000000) (hd : 0 < d) (hdB : d < 4294967296) :
    Calls Try.prog 40 #[.slice a L cap, .int .u32 (d : Int)] w fun e w' => RetShort w L N d e w' := by
  go_enter Try.func40, Try.ntmps40
  go_upto_region 1 with (fail)
  go_cut [6] (fun s5 wx => ∃ g, s5 = .slice (some ⟨g, 0, none⟩) L L ∧ OwnR wx g L 0 ∧ Below w.heap.size w wx ∧ w.heap.size ≤ g ∧ g < wx.heap.size)
  case first =>
    have hown := OwnR.made w L
    go_wp2_with (at_make; refine wpList_make_dig rfl _ _ rfl _ _ _ _ L rfl rfl (by omega) (by omega) (by omega) ?_)
    go_meet
    case rel => exact ⟨_, rfl, hown, (Below.refl _ _).alloc (Nat.le_refl _) _, Nat.le_refl _, by simp⟩
  case rest =>
    obtain ⟨g, rfl, hown, hbel, hwg, hgs⟩ := hcut
    go_wp2_with fail
    go_loopw [7, 8] (fun s7 s8 wr => ∃ k : Nat, k ≤ L ∧ s8 = .int .i64 ((k : Int) - 1) ∧ s7 = .int .u32 ((N / 4294967296 ^ k % d : Nat) : Int) ∧ OwnR wr g L (shortAt N d k) ∧ Below g wc wr)
      (fun _ i _ => (intOf i + 1).toNat)
    case atStart => exact ⟨L, Nat.le_refl _, rfl, by rw [Nat.div_eq_of_lt ra.lt]; simp, by unfold shortAt; rw [Nat.div_eq_of_lt ra.lt]; simpa using hown, Below.refl _ _⟩
    case round =>
      obtain ⟨k, hk, rfl, rfl, ho, hbr⟩ := hrel
      cases k with
      | zero =>
        have e0 : N / 4294967296 ^ 0 % d = N % d := by simp
        have e1 : shortAt N d 0 = N / d := by simp [shortAt]
        rw [e1] at ho
        rw [e0]
        clear e0 e1
        go_wp2
        go_ret2
        exact ⟨g, rfl, hwg, ho, hbel.trans (hbr.mono hwg)⟩
      | succ k =>
        have rar := ra.mono (hbel.trans (hbr.mono hwg))
        obtain ⟨b1, o1, rfl, h1⟩ := rar.cells (by omega)
        have c1 := h1 k (by omega)
        have c3 := ho.cell (p := k) (by omega)
        have f3 := ho.frozen k
        have hdx := D_lt N k
        have hrd := Nat.mod_lt (N / 4294967296 ^ (k + 1)) hd
        have HS := shortAt_step N d k hd
        have hst := ho.store (p := k) (by omega) HS.2.2
        rw [HS.1] at hst
        have HM := Lib.hid HS.2.1
        clear HS
        have e : (((k + 1 : Nat) : Int) - 1) = (k : Int) := by omega
        simp only [e]
        clear e
        generalize N / 4294967296 ^ (k + 1) % d = r at *
        go_wp2_with fail
        refine (c_div32 _ _ _ _ (by omega) (by omega) (by omega) (by omega) (by omega)).mono ?_
        rintro e w1 ⟨rfl, q, rfl⟩
        rw [show ((r : Int) * 4294967296 + ((D N k : Nat) : Int)) / (d : Int) = (((r * 4294967296 + D N k) / d : Nat) : Int) from by simp, show ((r : Int) * 4294967296 + ((D N k : Nat) : Int)) % (d : Int) = ((N / 4294967296 ^ k % d : Nat) : Int) from by rw [← HM.out]; simp]
        generalize (r * 4294967296 + D N k) / d = t at *
        generalize hr' : N / 4294967296 ^ k % d = r' at *
        have HR := Lib.hid hr'; clear hr'
        go_wp2
        go_roundw
        case rel => exact ⟨k, by omega, rfl, by rw [HR.out], hst, by first | exact (bel_drewN hbr q).setCell (p := ⟨g, k, none⟩) (Nat.le_refl _) _ | exact bel_drewN (hbr.setCell (p := ⟨g, k, none⟩) (Nat.le_refl _) _) q⟩
        case measure => simp [intOf]
theorem bitLen_eq {t k : Nat} (hk : k < 64) (h1 : 2 ^ k ≤ t) (h2 : t < 2 ^ (k + 1)) : Lib.bitLen t = k + 1 := by
  have := Lib.bitLen_shift k t h1 (Nat.lt_of_lt_of_le h2 (Nat.pow_le_pow_right (by decide) (by omega)))
  have e : t / 2 ^ k = 1 := by
    apply Nat.div_eq_of_lt_le
    · omega
    · rw [Nat.pow_succ] at h2; omega
  rw [this, e]
  rfl
/-- The number of binary digits of N. -/
def len2 (N : Nat) : Nat := if N = 0 then 0 else N.log2 + 1
theorem len2_top {N : Nat} (h : N ≠ 0) : len2 N = 32 * (nl N - 1) + Lib.bitLen (D N (nl N - 1)) := by
  have h1 := nl_pos h
  have h2 := pow_nl_le h
  have h3 := lt_nl N
  obtain ⟨k, hk⟩ : ∃ k, nl N = k + 1 := ⟨nl N - 1, by omega⟩
  rw [hk] at h2 h3 ⊢
  simp only [Nat.add_sub_cancel] at h2 ⊢
  have hD : D N k = N / 4294967296 ^ k := by
    unfold D
    rw [Nat.mod_eq_of_lt]
    rw [Nat.div_lt_iff_lt_mul (powB k), ← Nat.pow_succ']; exact h3
  have ht : D N k ≠ 0 := by rw [hD]; have := Nat.div_pos h2 (powB k); omega
  have hb := bitLen_eq (t := D N k) (k := (D N k).log2) (by have := D_lt N k; have : (D N k).log2 < 64 := (Nat.log2_lt ht).2 (by omega); exact this) (Nat.log2_self_le ht) Nat.lt_log2_self
  rw [hb]
  unfold len2
  rw [if_neg h]
  have h4 : N.log2 = 32 * k + (D N k).log2 := by
    have l1 := Nat.log2_self_le ht
    have l2 : D N k < 2 ^ ((D N k).log2 + 1) := Nat.lt_log2_self
    have m1 : 2 ^ (32 * k + (D N k).log2) ≤ N := by
      rw [Nat.pow_add, ← powB2]
      rw [hD] at l1
      calc 4294967296 ^ k * 2 ^ (D N k).log2 ≤ 4294967296 ^ k * (N / 4294967296 ^ k) := Nat.mul_le_mul_left _ (by rw [hD]; exact l1)
        _ ≤ N := Nat.mul_div_le _ _
    have m2 : N < 2 ^ (32 * k + (D N k).log2 + 1) := by
      rw [Nat.add_assoc, Nat.pow_add, ← powB2, Nat.mul_comm]
      rw [← Nat.div_lt_iff_lt_mul (powB k), ← hD]; exact l2
    have n1 := (Nat.le_log2 h).2 m1
    have n2 := (Nat.log2_lt h).2 m2
    omega
  omega
theorem c_natural_Bits (va : Value) (N : Nat) (w : World) (ha : IsN w va N) (hN : nl N ≤ 1000000000000) :
    Calls Try.prog 32 #[va] w fun e w' => e = .returned (.int .i64 ((len2 N : Nat) : Int)) ∧ Below w.heap.size w w' := by
  obtain ⟨a, ca, rfl, hca, ra⟩ := ha
  have hw : Below w.heap.size w (w.alloc (.cells #[.slice a (nl N) ca] 24)) := (Below.refl _ _).alloc (Nat.le_refl _) _
  have ra' := ra.mono hw
  by_cases h0 : N = 0
  · have e1 : nl N = 0 := nl_eq_zero.2 h0
    have e2 : len2 N = 0 := by unfold len2; rw [if_pos h0]
    have HE2 := Lib.hid e2
    rw [e1] at ra' hw hca ⊢
    clear e1 e2 ra hN
    go_enter Try.func32, Try.ntmps32
    go_wp2_with fail
    refine (c_norm a 0 ca N _ (by omega) (by omega) ra').mono ?_
    rintro e w1 ⟨rfl, rfl⟩
    rw [nl_eq_zero.2 h0]
    go_wp2
    go_ret
    rw [HE2.out]
    exact ⟨rfl, hw⟩
  · have hp := nl_pos h0
    have hne : (((nl N : Nat) : Int) == 0) = false := by rw [beq_eq_false_iff_ne]; omega
    have HT := Lib.hid (len2_top h0)
    obtain ⟨b1, o1, rfl, h1⟩ := ra'.cells (by omega)
    have c1 := h1 (nl N - 1) (by omega)
    have hd := D_lt N (nl N - 1)
    have hbl := Lib.bitLen_le (D N (nl N - 1)) 32 (by omega) (by omega)
    have e1 : ((nl N : Int) - 1) = ((nl N - 1 : Nat) : Int) := by omega
    go_enter Try.func32, Try.ntmps32
    go_wp2_with fail
    refine (c_norm _ (nl N) ca N _ (by omega) hca ra').mono ?_
    rintro e w1 ⟨rfl, rfl⟩
    go_wp2_with fail
    refine (c_len32 _ _ (by omega) (by omega)).mono ?_
    rintro e w1 ⟨rfl, rfl⟩
    rw [Int.toNat_natCast]
    go_wp2
    go_ret
    refine ⟨?_, hw⟩
    rw [HT.out]
    refine congrArg Ending.returned (congrArg (Value.int IntKind.i64) ?_)
    omega
end Go.Proofs.Ythpndmamegfbkaa
