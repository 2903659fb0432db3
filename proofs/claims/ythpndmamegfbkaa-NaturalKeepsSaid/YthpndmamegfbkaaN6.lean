/- The contract of Mul. -/
import Derived.Test.YthpndmamegfbkaaN5
namespace Go.Proofs.Ythpndmamegfbkaa
set_option linter.unusedSimpArgs false
set_option linter.unusedVariables false
open Go.RowKit
theorem mul_step (O O' Q P R d e x y c c' M nk : Nat) (hQ : Q = P * R) (h1 : O' + Q * d = O + Q * e) (h2 : x * y + d + c = e + 4294967296 * c') (h3 : O + c * Q = M + x * P * nk) :
   O' + c' * (Q * 4294967296) = M + x * P * (nk + R * y) := by grind
/-- The state of the inner loop: i rows are done, and k digits of the next. -/
def MulAt (m n i k O c : Nat) : Prop := O + c * 4294967296 ^ (i + k) = (m % 4294967296 ^ i) * n + D m i * 4294967296 ^ i * (n % 4294967296 ^ k) ∧ O < 4294967296 ^ (i + nl n)
theorem MulAt.start (m n i : Nat) : MulAt m n i 0 ((m % 4294967296 ^ i) * n) 0 := by
  refine ⟨by simp [Nat.mod_one], ?_⟩
  rw [Nat.pow_add]
  exact Nat.mul_lt_mul'' (Nat.mod_lt _ (powB i)) (lt_nl n)
theorem MulAt.step {m n i k O c : Nat} (h : MulAt m n i k O c) (hk : k < nl n) :
    MulAt m n i (k + 1) (upd O (i + k) ((D m i * D n k + D O (i + k) + c) % 4294967296)) ((D m i * D n k + D O (i + k) + c) / 4294967296) := by
  refine ⟨?_, upd_lt h.2 (by omega) (Nat.mod_lt _ (by decide))⟩
  rw [mod_succ n k, ← Nat.add_assoc i k 1, Nat.pow_succ]
  exact mul_step O _ _ (4294967296 ^ i) (4294967296 ^ k) (D O (i + k)) _ (D m i) (D n k) c _ _ _ (Nat.pow_add _ _ _) (upd_add O (i + k) _) (by omega) h.1
theorem MulAt.last {m n i O c : Nat} (h : MulAt m n i (nl n) O c) : upd O (i + nl n) c = (m % 4294967296 ^ (i + 1)) * n := by
  have h1 := upd_add O (i + nl n) c
  rw [D_of_lt h.2, Nat.mul_zero, Nat.add_zero] at h1
  have h2 := h.1
  rw [mod_nl] at h2
  rw [h1, mod_succ]
  grind
theorem c_natural_Mul (va vb : Value) (m n : Nat) (w : World) (ha : IsN w va m) (hb : IsN w vb n) (hm : nl m ≤ 1000000000000) (hn : nl n ≤ 1000000000000) :
    Calls Try.prog 22 #[va, vb] w fun e w' => RetNew w (m * n) e w' := by
  obtain ⟨a, ca, rfl, hca, ra⟩ := ha
  obtain ⟨b, cb, rfl, hcb, rb⟩ := hb
  have hw : Below w.heap.size w (((w.alloc (.cells #[.slice a (nl m) ca] 24)).alloc (.cells #[.slice b (nl n) cb] 24)).alloc (.cells #[.slice none 0 0] 24)) := (((Below.refl _ _).alloc (Nat.le_refl _) _).alloc (by simp) _).alloc (by simp; omega) _
  go_enter Try.func22, Try.ntmps22
  go_upto_region 1 with (fail)
  go_cut [5] (fun s5 wx => ∃ g, s5 = .slice (some ⟨g, 0, none⟩) (nl m + nl n) (nl m + nl n) ∧ OwnR wx g (nl m + nl n) 0 ∧ Made w wx (w.heap.size + 1 + 1) g ∧
      wx.cell? ⟨w.heap.size, 0, none⟩ = some (.slice a (nl m) ca) ∧ wx.cell? ⟨w.heap.size + 1, 0, none⟩ = some (.slice b (nl n) cb))
  case first =>
    have hown := OwnR.made (((w.alloc (.cells #[.slice a (nl m) ca] 24)).alloc (.cells #[.slice b (nl n) cb] 24)).alloc (.cells #[.slice none 0 0] 24)) (nl m + nl n)
    go_wp2_with (at_make; refine wpList_make_dig rfl _ _ rfl _ _ _ _ (nl m + nl n) rfl rfl (by omega) (by omega) (by omega) ?_)
    go_meet
    case rel => exact ⟨_, rfl, by simpa using hown, ⟨hw.alloc (by simp; omega) _, by omega, by simp, by simp, by simp [go_sem], by simp [go_sem]⟩, by simp [go_sem], by simp [go_sem]⟩
  case rest =>
    obtain ⟨g, rfl, hown, hmade, hca', hcb'⟩ := hcut
    have hlt1 := hmade.lt
    go_wp2_with fail
    go_loopw [23] (fun s23 wr => ∃ i : Nat, i ≤ nl m ∧ s23 = .int .i64 i ∧ OwnR wr g (nl m + nl n) ((m % 4294967296 ^ i) * n) ∧ Below g wc wr)
      (fun i _ => nl m - (intOf i).toNat)
    case atStart => exact ⟨0, Nat.zero_le _, rfl, by simpa [Nat.mod_one] using hown, Below.refl _ _⟩
    case round =>
      obtain ⟨i, hi, rfl, ho, hbr⟩ := hrel
      have hmr := hmade.step hbr
      by_cases hlt : i < nl m
      · have rar := ra.mono hmr.below
        obtain ⟨b1, o1, rfl, h1⟩ := rar.cells (by omega)
        have c1 := h1 i hlt
        have c2 := (hbr.cell (p := ⟨w.heap.size + 1, 0, none⟩) (by show w.heap.size + 1 < g; omega)).trans hcb'
        have hdx := D_lt m i
        go_wp2_with fail
        go_loopw [8, 31] (fun s8 s31 wq => ∃ k O c : Nat, k ≤ nl n ∧ s31 = .int .i64 k ∧ s8 = .int .u64 (c : Int) ∧ c < 4294967296 ∧ OwnR wq g (nl m + nl n) O ∧ MulAt m n i k O c ∧ Below g wc wq)
          (fun _ s _ => nl n - (intOf s).toNat)
        case atStart => exact ⟨0, (m % 4294967296 ^ i) * n, 0, Nat.zero_le _, rfl, rfl, by decide, ho, MulAt.start m n i, hbr⟩
        case round =>
          obtain ⟨k, O, c, hk, rfl, rfl, hc, hoq, hat, hbq⟩ := hrel
          have hmq := hmade.step hbq
          clear ho hbr hmr rar h1 c1 c2
          have c2 := (hbq.cell (p := ⟨w.heap.size + 1, 0, none⟩) (by show w.heap.size + 1 < g; omega)).trans hcb'
          by_cases hlt2 : k < nl n
          · have rbq := rb.mono hmq.below
            obtain ⟨b2, o2, rfl, h2⟩ := rbq.cells (by omega)
            have c3 := h2 k hlt2
            have hdy := D_lt n k
            have c4 := hoq.cell (p := i + k) (by omega)
            have f4 := hoq.frozen (i + k)
            have hdo := D_lt O (i + k)
            have hxy : ((D m i : Nat) : Int) * ((D n k : Nat) : Int) ≤ 18446744065119617025 := by
              have h := Nat.mul_le_mul (show D m i ≤ 4294967295 by omega) (show D n k ≤ 4294967295 by omega)
              have h' : ((D m i * D n k : Nat) : Int) ≤ 18446744065119617025 := by omega
              simpa using h'
            have hxy0 : 0 ≤ ((D m i : Nat) : Int) * ((D n k : Nat) : Int) := Int.mul_nonneg (by omega) (by omega)
            have HT := hat.step hlt2
            have hst := hoq.store (p := i + k) (e := (D m i * D n k + D O (i + k) + c) % 4294967296) (by omega) (Nat.mod_lt _ (by decide))
            go_wp2
            go_roundw
            case rel => exact ⟨k + 1, _, _, by omega, by go_num, by simp, by rw [Nat.div_lt_iff_lt_mul (by decide)]; omega, by simpa using hst, HT, by simpa using hbq.setCell (p := ⟨g, i + k, none⟩) (Nat.le_refl _) _⟩
            case measure => simp [intOf]; omega
          · obtain rfl : k = nl n := by omega
            have c4 := hoq.cell (p := i + nl n) (by omega)
            have f4 := hoq.frozen (i + nl n)
            have hst := hoq.store (p := i + nl n) (e := c) (by omega) hc
            rw [hat.last] at hst
            have hbs := hbq.setCell (p := ⟨g, i + nl n, none⟩) (Nat.le_refl _) (.int .u32 (c : Int))
            go_wp2
            go_roundw
            case rel => exact ⟨i + 1, by omega, by go_num, hst, hbs⟩
            case measure => simp [intOf]; omega
      · obtain rfl : i = nl m := by omega
        rw [mod_nl] at ho
        go_wp2_with fail
        refine (c_made _ (nl m + nl n) (nl m + nl n) (m * n) _ (by omega) (Nat.le_refl _) ho.rw').mono ?_
        rintro e w1 ⟨rfl, hb2⟩
        obtain ⟨hcc, hff⟩ := hmr.after hb2
        go_wp2
        exact bodyPost_ret (res_nat rfl _ _ (w.heap.size + 1 + 1) _ rfl (World.cell?_setCell_same _ _ _ hcc)) rfl (hmr.fin ho hb2)
end Go.Proofs.Ythpndmamegfbkaa
