/- The reference's Bits, Of, bit. -/
import Derived.Test.YthpndmamegfbkaaS4
namespace Go.Proofs.Ythpndmamegfbkaa
set_option linter.unusedSimpArgs false
set_option linter.unusedVariables false
open Go.RowKit
theorem len2_half {x : Nat} (h : x ≠ 0) : len2 x = len2 (x / 2) + 1 := by
  unfold len2
  rw [if_neg h, Nat.log2_def]
  by_cases h2 : 2 ≤ x
  · rw [if_pos h2, if_neg (by omega)]
  · rw [if_neg h2, if_pos (by omega)]
theorem len2_digit {N : Nat} (h : N ≠ 0) : len2 N = 32 * (nl N - 1) + len2 (D N (nl N - 1)) := by
  rw [len2_top h]
  have ht : D N (nl N - 1) ≠ 0 := D_top h
  have hlt := D_lt N (nl N - 1)
  have h1 : nl (D N (nl N - 1)) = 1 := by
    have := nl_pos ht
    have := (nl_le_iff (N := D N (nl N - 1)) (k := 1)).2 (by rw [Nat.pow_one]; exact hlt)
    omega
  have h2 := len2_top ht
  rw [h1] at h2
  have h3 : D (D N (nl N - 1)) 0 = D N (nl N - 1) := by
    show D N (nl N - 1) / 4294967296 ^ 0 % 4294967296 = _
    rw [Nat.pow_zero, Nat.div_one, Nat.mod_eq_of_lt hlt]
  simp only [Nat.sub_self, h3, Nat.mul_zero, Nat.zero_add] at h2
  rw [h2]
set_option maxRecDepth 100000 in
theorem c_ref_Bits (va : Value) (N : Nat) (w : World) (ha : IsN w va N) (hN : nl N ≤ 1000000000000) :
    Calls Try.prog 33 #[va] w fun e w' => RetV w (.int .i64 ((len2 N : Nat) : Int)) e w' := by
  obtain ⟨a, ca, rfl, hca, ra⟩ := ha
  have hw := bel1 w (.cells #[.slice a (nl N) ca] 24)
  have v1 := VarB.made w a (nl N) ca
  have ra0 := ra.mono hw
  by_cases h0 : N = 0
  · have e1 : nl N = 0 := nl_eq_zero.2 h0
    have e2 : len2 N = 0 := by unfold len2; rw [if_pos h0]
    have HE2 := Lib.hid e2
    rw [e1] at ra0 hw hca v1 ⊢
    clear e1 e2 ra hN
    have c1 := v1.cell
    go_enter Try.func33, Try.ntmps33
    go_wp2
    go_ret
    exact ⟨by rw [HE2.out]; rfl, hw⟩
  · have hp := nl_pos h0
    have hne : (((nl N : Nat) : Int) == 0) = false := by rw [beq_eq_false_iff_ne]; omega
    have HT := Lib.hid (len2_digit h0)
    have hdl := D_lt N (nl N - 1)
    obtain ⟨T, hT⟩ : ∃ T : Nat, Hid (T = D N (nl N - 1)) := ⟨_, Lib.hid rfl⟩
    obtain ⟨b1, o1, rfl, h1⟩ := ra0.cells (by omega)
    have d1 := h1 (nl N - 1) (by omega)
    rw [← hT.out] at d1 hdl
    obtain ⟨P, hP⟩ : ∃ P : Nat, Hid (P = nl N - 1) := ⟨_, Lib.hid rfl⟩
    have e1 : ((nl N : Int) - 1) = ((P : Nat) : Int) := by have := hP.out; omega
    have hPb : P ≤ 1000000000000 := by have := hP.out; omega
    rw [← hP.out] at d1
    have c1 := v1.cell
    have hlT : len2 T ≤ 32 := by
      rcases Nat.eq_zero_or_pos T with h | h
      · rw [h]; decide
      · unfold len2; rw [if_neg (by omega)]; have := (Nat.log2_lt (n := T) (k := 32) (by omega)).2 (by simpa using hdl); omega
    have htot : len2 N = 32 * (nl N - 1) + len2 T := by rw [HT.out, hT.out]
    have HTOT := Lib.hid htot
    clear htot h0
    have hlN : len2 N ≤ 32000000000032 := by have := HTOT.out; omega
    go_enter Try.func33, Try.ntmps33
    go_wp2_with fail
    go_loopw [3, 4] (fun s3 s4 wr => ∃ c x : Nat, s3 = .int .i64 (c : Int) ∧ s4 = .int .u32 (x : Int) ∧ x < 4294967296 ∧ Hid (len2 N = c + len2 x) ∧ wr = w.alloc (.cells #[.slice (some ⟨b1, o1, none⟩) (nl N) ca] 24)) (fun _ s4 _ => (intOf s4).toNat)
    case atStart => exact ⟨32 * P, T, by go_num, rfl, hdl, by rw [hP.out]; exact HTOT, rfl⟩
    case round =>
      obtain ⟨c, x, rfl, rfl, hx, HL, rfl⟩ := hrel
      have hcN : c ≤ 32000000000032 := by have := HL.out; omega
      by_cases hx0 : x = 0
      · subst hx0
        have hc : len2 N = c := by have h := HL.out; have h2 : len2 0 = 0 := rfl; omega
        have HC := Lib.hid hc
        clear hc
        go_wp2
        go_ret
        exact ⟨by rw [HC.out]; rfl, hw⟩
      · have hxp : (0 : Int) < (x : Int) := by omega
        have hst := len2_half hx0
        have HS := Lib.hid (show len2 N = (c + 1) + len2 (x / 2) by have h := HL.out; omega)
        obtain ⟨y, hy⟩ : ∃ y : Nat, Hid (y = x / 2) := ⟨_, Lib.hid rfl⟩
        have hq : ((x : Nat) : Int) / 2 = ((y : Nat) : Int) := by have := hy.out; omega
        have hlt : y < x := by have := hy.out; omega
        rw [← hy.out] at HS
        clear hst hx0
        go_wp2_with fail
        go_roundw
        case rel => exact ⟨c + 1, y, by go_num, rfl, by omega, HS, trivial⟩
        case measure => simp [intOf] <;> omega
theorem c_ref_Of (n : Nat) (w : World) (hn : n < 18446744073709551616) :
    Calls Try.prog 53 #[.int .u64 (n : Int)] w fun e w' => RetNew w n e w' := by
  have hw := bel1 w (.cells #[.slice none 0 0] 24)
  have v0 := VarB.made w none 0 0
  have hown := OwnR.two (w.alloc (.cells #[.slice none 0 0] 24)) n hn
  have b2 := hw.alloc (by simp) (.cells #[.int .u32 ((n : Int) % 4294967296), .int .u32 ((n : Int) / 4294967296)] 42)
  have v1 := VarB.mono v0 (bel1 _ (.cells #[.int .u32 ((n : Int) % 4294967296), .int .u32 ((n : Int) / 4294967296)] 42)) v0.lt
  rw [World.size_alloc] at hown
  go_enter Try.func53, Try.ntmps53
  go_wp2_with fail
  refine (c_Trim _ 2 2 n _ hown.rw' (by omega)).mono ?_
  rintro e w2 ⟨v2, rfl, ⟨x2, c2, rfl, hc2, hx2⟩, bb⟩
  have n2 : NewN w.heap.size w2 (.agg #[.slice x2 (nl n) c2]) n := NewN.weaken (by exact ⟨x2, c2, rfl, hc2, hx2⟩) b2.size
  have vr2 := v1.mono bb v1.lt
  have cr := vr2.cell
  have fr := vr2.frozen
  have n3 := n2.setVar (u := .slice x2 (nl n) c2) vr2
  have hB := (b2.trans (bb.mono b2.size)).setCell (p := ⟨w.heap.size, 0, none⟩) (Nat.le_refl _) (.slice x2 (nl n) c2)
  go_wp2
  exact bodyPost_ret (res_nat rfl _ _ w.heap.size _ rfl vr2.set.cell) rfl ⟨_, rfl, n3, hB⟩
end Go.Proofs.Ythpndmamegfbkaa
