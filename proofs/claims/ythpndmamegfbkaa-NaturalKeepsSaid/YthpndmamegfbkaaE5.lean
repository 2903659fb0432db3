/- The reference's Mul. -/
import Derived.Test.YthpndmamegfbkaaE4
namespace Go.Proofs.Ythpndmamegfbkaa
set_option linter.unusedSimpArgs false
set_option linter.unusedVariables false
open Go.RowKit
theorem OwnR.drewN {w : World} {g L N : Nat} (h : OwnR w g L N) (q : Nat) : OwnR (w.drewN q) g L N := h
theorem NewN.setLow {w : World} {base N : Nat} {v u : Value} (h : NewN base w v N) (p : Addr) (hp : p.block < base) : NewN base (w.setCell p u) v N := by
  obtain ⟨x, cap, rfl, hc, hx⟩ := h
  refine ⟨x, cap, rfl, hc, fun hL => ?_⟩
  obtain ⟨b, off, rfl, hb, hd, hf⟩ := hx hL
  have hne : b ≠ p.block := by omega
  refine ⟨b, off, rfl, hb, fun j hj => ?_, fun j hj => ?_⟩
  · rw [World.cell?_of_block (Below.heap_setCell w p u b hne)]; exact hd j hj
  · rw [World.frozen?_of_block (Below.heap_setCell w p u b hne)]; exact hf j hj
set_option maxHeartbeats 1000000 in
theorem c_ref_Mul (va vb : Value) (m n : Nat) (w : World) (ha : IsN w va m) (hb : IsN w vb n) (hm : nl m ≤ 1000000000000) (hn : nl n ≤ 1000000000000) :
    Calls Try.prog 18 #[va, vb] w fun e w' => RetNew w (m * n) e w' := by
  obtain ⟨a, ca, rfl, hca, ra⟩ := ha
  obtain ⟨b, cb, rfl, hcb, rb⟩ := hb
  have hw : Below w.heap.size w (((w.alloc (.cells #[.slice a (nl m) ca] 24)).alloc (.cells #[.slice b (nl n) cb] 24)).alloc (.cells #[.slice none 0 0] 24)) := (((Below.refl _ _).alloc (Nat.le_refl _) _).alloc (by simp) _).alloc (by simp; omega) _
  go_enter Try.func18, Try.ntmps18
  go_upto_region 1 with (fail)
  go_cut [5] (fun s5 wx => ∃ g, s5 = .slice (some ⟨g, 0, none⟩) (nl m + nl n) (nl m + nl n) ∧ OwnR wx g (nl m + nl n) 0 ∧ Made w wx (w.heap.size + 1 + 1) g ∧
      wx.cell? ⟨w.heap.size, 0, none⟩ = some (.slice a (nl m) ca) ∧ wx.cell? ⟨w.heap.size + 1, 0, none⟩ = some (.slice b (nl n) cb))
  case first =>
    have hown := OwnR.made (((w.alloc (.cells #[.slice a (nl m) ca] 24)).alloc (.cells #[.slice b (nl n) cb] 24)).alloc (.cells #[.slice none 0 0] 24)) (nl m + nl n)
    go_wp2_with (at_make; refine wpList_make_dig rfl _ _ rfl _ _ _ _ (nl m + nl n) rfl rfl (by omega) (by omega) (by omega) ?_)
    go_meet
    case rel => exact ⟨_, rfl, by simpa using hown, ⟨hw.alloc (by simp; omega) _, by omega, by simp, by simp, by simp [go_sem], by simp [go_sem]⟩, by simp [go_sem], by simp [go_sem]⟩
  case rest =>
    obtain ⟨g, rfl, hown, hmade, hca', hcb'⟩ := hcut
    have hlt1 := hmade.lt
    go_wp2_with fail
    go_loopw [6] (fun s6 wr => ∃ i : Nat, i ≤ nl m ∧ s6 = .int .i64 i ∧ OwnR wr g (nl m + nl n) ((m % 4294967296 ^ i) * n) ∧ Below g wc wr)
      (fun i _ => nl m - (intOf i).toNat)
    case atStart => exact ⟨0, Nat.zero_le _, rfl, by simpa [Nat.mod_one] using hown, Below.refl _ _⟩
    case round =>
      obtain ⟨i, hi, rfl, ho, hbr⟩ := hrel
      have hmr := hmade.step hbr
      have c0 := (hbr.cell (p := ⟨w.heap.size, 0, none⟩) (by show w.heap.size < g; omega)).trans hca'
      by_cases hlt : i < nl m
      · have c2 := (hbr.cell (p := ⟨w.heap.size + 1, 0, none⟩) (by show w.heap.size + 1 < g; omega)).trans hcb'
        have hdx := D_lt m i
        go_wp2_with fail
        go_loopw [7, 8] (fun s7 s8 wq => ∃ k O c : Nat, k ≤ nl n ∧ s8 = .int .i64 k ∧ s7 = .int .u64 (c : Int) ∧ c < 4294967296 ∧ OwnR wq g (nl m + nl n) O ∧ MulAt m n i k O c ∧ Below g wc wq)
          (fun _ s _ => nl n - (intOf s).toNat)
        case atStart => exact ⟨0, (m % 4294967296 ^ i) * n, 0, Nat.zero_le _, rfl, rfl, by decide, ho, MulAt.start m n i, hbr⟩
        case round =>
          obtain ⟨k, O, c, hk, rfl, rfl, hc, hoq, hat, hbq⟩ := hrel
          have hmq := hmade.step hbq
          clear ho hbr hmr c0 c2
          have c0 := (hbq.cell (p := ⟨w.heap.size, 0, none⟩) (by show w.heap.size < g; omega)).trans hca'
          have c2 := (hbq.cell (p := ⟨w.heap.size + 1, 0, none⟩) (by show w.heap.size + 1 < g; omega)).trans hcb'
          by_cases hlt2 : k < nl n
          · have raq := ra.mono hmq.below
            obtain ⟨b1, o1, rfl, h1⟩ := raq.cells (by omega)
            have c1 := h1 i hlt
            have rbq := rb.mono hmq.below
            obtain ⟨b2, o2, rfl, h2⟩ := rbq.cells (by omega)
            have c3 := h2 k hlt2
            have hdy := D_lt n k
            have c4 := hoq.cell (p := i + k) (by omega)
            have f4 := hoq.frozen (i + k)
            have hdo := D_lt O (i + k)
            have hxy : ((D m i : Nat) : Int) * ((D n k : Nat) : Int) ≤ 18446744065119617025 := by
              have h := Nat.mul_le_mul (show D m i ≤ 4294967295 by omega) (show D n k ≤ 4294967295 by omega)
              have h' : ((D m i * D n k : Nat) : Int) ≤ 18446744065119617025 := by omega
              simpa using h'
            have hxy0 : 0 ≤ ((D m i : Nat) : Int) * ((D n k : Nat) : Int) := Int.mul_nonneg (by omega) (by omega)
            have HT := hat.step hlt2
            go_wp2_with fail
            go_quiet (fail)
            go_wp2
            go_roundw
            case rel =>
              have hst := fun q => (hoq.drewN q).store (p := i + k) (e := (D m i * D n k + D O (i + k) + c) % 4294967296) (by omega) (Nat.mod_lt _ (by decide))
              exact ⟨k + 1, _, _, by omega, by go_num, by simp, by rw [Nat.div_lt_iff_lt_mul (by decide)]; omega, by simpa using hst _, HT, by simpa using (bel_drewN hbq _).setCell (p := ⟨g, i + k, none⟩) (Nat.le_refl _) _⟩
            case measure => simp [intOf] <;> omega
          · obtain rfl : k = nl n := by omega
            have c4 := hoq.cell (p := i + nl n) (by omega)
            have f4 := hoq.frozen (i + nl n)
            have hst := hoq.store (p := i + nl n) (e := c) (by omega) hc
            rw [hat.last] at hst
            have hbs := hbq.setCell (p := ⟨g, i + nl n, none⟩) (Nat.le_refl _) (.int .u32 (c : Int))
            go_wp2
            go_roundw
            case rel => exact ⟨i + 1, by omega, by go_num, hst, hbs⟩
            case measure => simp [intOf] <;> omega
      · obtain rfl : i = nl m := by omega
        rw [mod_nl] at ho
        go_wp2_with fail
        refine (c_Trim _ (nl m + nl n) (nl m + nl n) (m * n) _ ho.rw' (by omega)).mono ?_
        rintro e w1 ⟨v1, rfl, ⟨x1, c1, rfl, hc1, hx1⟩, hb2⟩
        obtain ⟨hcc, hff⟩ := hmr.after hb2
        have hb0 := hmr.below
        have hz := hmr.lt
        have hz2 := hmr.size
        have n2 : NewN wr.heap.size w1 (.agg #[.slice x1 (nl (m * n)) c1]) (m * n) := ⟨x1, c1, rfl, hc1, hx1⟩
        have n3 := (n2.setLow (u := .slice x1 (nl (m * n)) c1) ⟨w.heap.size + 1 + 1, 0, none⟩ (by show w.heap.size + 1 + 1 < wr.heap.size; omega)).weaken hb0.size
        have hB := (hb0.trans (hb2.mono hb0.size)).setCell (p := ⟨w.heap.size + 1 + 1, 0, none⟩) (by show w.heap.size ≤ w.heap.size + 1 + 1; omega) (.slice x1 (nl (m * n)) c1)
        go_wp2
        exact bodyPost_ret (res_nat rfl _ _ (w.heap.size + 1 + 1) _ rfl (World.cell?_setCell_same _ _ _ hcc)) rfl ⟨_, rfl, n3, hB⟩
end Go.Proofs.Ythpndmamegfbkaa
