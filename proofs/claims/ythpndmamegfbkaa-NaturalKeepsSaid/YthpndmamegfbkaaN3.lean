/- Contracts of compare and Cmp. -/
import Derived.Test.YthpndmamegfbkaaN2
namespace Go.Proofs.Ythpndmamegfbkaa
set_option linter.unusedSimpArgs false
set_option linter.unusedVariables false
open Go.RowKit
def cmpI (m n : Nat) : Int := if m < n then -1 else if n < m then 1 else 0
theorem cmpI_lt {m n : Nat} (h : m < n) : cmpI m n = -1 := by unfold cmpI; rw [if_pos h]
theorem cmpI_gt {m n : Nat} (h : n < m) : cmpI m n = 1 := by unfold cmpI; rw [if_neg (by omega), if_pos h]
theorem cmpI_eq {m n : Nat} (h : m = n) : cmpI m n = 0 := by unfold cmpI; rw [if_neg (by omega), if_neg (by omega)]
theorem lt_of_nl {m n : Nat} (h : nl m < nl n) : m < n := by
  have h1 := nl_le_iff (N := n) (k := nl m)
  have h2 := lt_nl m
  omega
theorem lt_of_digit {m n k : Nat} (h : m / 4294967296 ^ (k + 1) = n / 4294967296 ^ (k + 1)) (hd : D m k < D n k) : m < n := by
  have h1 := div_step m k
  have h2 := div_step n k
  have h3 : m / 4294967296 ^ k < n / 4294967296 ^ k := by omega
  have h4 := Nat.div_add_mod m (4294967296 ^ k)
  have h5 := Nat.div_add_mod n (4294967296 ^ k)
  have h6 := Nat.mod_lt m (powB k)
  have h7 : 4294967296 ^ k * (m / 4294967296 ^ k + 1) ≤ 4294967296 ^ k * (n / 4294967296 ^ k) := Nat.mul_le_mul_left _ h3
  rw [Nat.mul_add] at h7
  omega
theorem c_compare (a b : Option Addr) (ca cb m n : Nat) (w : World) (ha : Rw w a (nl m) m) (hb : Rw w b (nl n) n) (hm : nl m ≤ 60000000000000) (hn : nl n ≤ 60000000000000) :
    Calls Try.prog 38 #[.slice a (nl m) ca, .slice b (nl n) cb] w fun e w' => e = .returned (.int .i64 (cmpI m n)) ∧ ∃ n, w' = w.drewN n := by
  by_cases hL : nl m = nl n
  · rw [← hL] at hb ⊢
    clear hL hn
    generalize nl m = L at *
    have hne : ((L : Int) != L) = false := by simp
    go_enter Try.func38, Try.ntmps38
    go_wp2
    go_loopw [5] (fun i wr => ∃ k : Nat, k ≤ L ∧ i = .int .i64 ((k : Int) - 1) ∧ m / 4294967296 ^ k = n / 4294967296 ^ k ∧ ∃ q, wr = w.drewN q) (fun i _ => ((intOf i) + 1).toNat)
    case atStart => exact ⟨L, Nat.le_refl _, rfl, by rw [Nat.div_eq_of_lt ha.lt, Nat.div_eq_of_lt hb.lt], 0, rfl⟩
    case round =>
      obtain ⟨k, hk, rfl, hr, q, rfl⟩ := hrel
      have HR := Lib.hid hr; clear hr
      cases k with
      | zero =>
        go_wp2
        go_ret
        refine ⟨?_, q, rfl⟩
        rw [cmpI_eq (by simpa using HR.out)]
        rfl
      | succ k =>
        obtain ⟨b1, o1, rfl, h1⟩ := ha.cells (by omega)
        obtain ⟨b2, o2, rfl, h2⟩ := hb.cells (by omega)
        have c1 := h1 k (by omega)
        have c2 := h2 k (by omega)
        have e : (((k + 1 : Nat) : Int) - 1) = (k : Int) := by omega
        simp only [e]
        clear e
        rcases Nat.lt_trichotomy (D m k) (D n k) with h | h | h
        · have h' : ((D m k : Nat) : Int) < ((D n k : Nat) : Int) := by omega
          go_wp2
          go_quiet (fail)
          go_wp2
          go_ret
          exact ⟨by rw [cmpI_lt (lt_of_digit HR.out h)]; rfl, drewN_add _ _ _⟩
        · have HD := Lib.hid h
          have h1' : ¬ ((D m k : Nat) : Int) < ((D n k : Nat) : Int) := by omega
          have h2' : ¬ ((D n k : Nat) : Int) < ((D m k : Nat) : Int) := by omega
          clear h
          go_wp2
          go_quiet (fail)
          go_wp2
          go_quiet (fail)
          go_wp2
          go_roundw
          case rel => exact ⟨k, by omega, rfl, by rw [div_step m k, div_step n k, HR.out, HD.out], _, rfl⟩
          case measure => simp [intOf]
        · have h1' : ¬ ((D m k : Nat) : Int) < ((D n k : Nat) : Int) := by omega
          have h2' : ((D n k : Nat) : Int) < ((D m k : Nat) : Int) := by omega
          go_wp2
          go_quiet (fail)
          go_wp2
          go_quiet (fail)
          go_wp2
          go_ret
          exact ⟨by rw [cmpI_gt (lt_of_digit HR.out.symm h)]; rfl, by simp only [World.drewN_drewN]; exact ⟨_, rfl⟩⟩
  · have hne : (((nl m : Nat) : Int) != ((nl n : Nat) : Int)) = true := by rw [bne_iff_ne]; omega
    rcases Nat.lt_or_gt_of_ne hL with h | h
    · have h' : ((nl m : Nat) : Int) < ((nl n : Nat) : Int) := by omega
      go_enter Try.func38, Try.ntmps38
      go_wp2
      go_ret
      exact ⟨by rw [cmpI_lt (lt_of_nl h)]; rfl, 0, rfl⟩
    · have h' : ¬ ((nl m : Nat) : Int) < ((nl n : Nat) : Int) := by omega
      go_enter Try.func38, Try.ntmps38
      go_wp2
      go_ret
      exact ⟨by rw [cmpI_gt (lt_of_nl h)]; rfl, 0, rfl⟩

/-- 'Cmp': the order of the values. -/
theorem c_natural_Cmp (va vb : Value) (m n : Nat) (w : World) (ha : IsN w va m) (hb : IsN w vb n) (hm : nl m ≤ 60000000000000) (hn : nl n ≤ 60000000000000) :
    Calls Try.prog 31 #[va, vb] w fun e w' => e = .returned (.int .i64 (cmpI m n)) ∧ Below w.heap.size w w' := by
  obtain ⟨a, ca, rfl, hca, ra⟩ := ha
  obtain ⟨b, cb, rfl, hcb, rb⟩ := hb
  have hw : Below w.heap.size w ((w.alloc (.cells #[.slice a (nl m) ca] 24)).alloc (.cells #[.slice b (nl n) cb] 24)) := ((Below.refl _ _).alloc (Nat.le_refl _) _).alloc (by simp) _
  have ra' := ra.mono hw
  have rb' := rb.mono hw
  have hm' : nl m ≤ 9223372036854775807 := by omega
  have hn' : nl n ≤ 9223372036854775807 := by omega
  go_enter Try.func31, Try.ntmps31
  go_wp2
  go_quiet (first
    | (go_at_call 37; with_reducible exact quietS (c_norm a (nl m) ca m _ hm' hca (ra'.drewN _)))
    | (go_at_call 37; with_reducible exact quietS (c_norm b (nl n) cb n _ hn' hcb (rb'.drewN _)))
    | (go_at_call 38; with_reducible exact Calls.quiet_of (c_compare a b _ _ m n _ (ra'.drewN _) (rb'.drewN _) hm hn)))
  go_wp2
  go_ret
  exact ⟨rfl, bel_drewN hw _⟩
end Go.Proofs.Ythpndmamegfbkaa
