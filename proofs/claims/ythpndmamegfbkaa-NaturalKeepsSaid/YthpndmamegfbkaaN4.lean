/- Contracts of Valid, Of and Add. -/
import Derived.Test.YthpndmamegfbkaaN3
namespace Go.Proofs.Ythpndmamegfbkaa
set_option linter.unusedSimpArgs false
set_option linter.unusedVariables false
open Go.RowKit
/-- 'Valid', of any digits: is the highest one not zero? -/
theorem c_natural_Valid (va : Value) (L N : Nat) (w : World) (ha : IsR w va L N) (hL : L ≤ 60000000000000) :
    Calls Try.prog 35 #[va] w fun e w' => e = .returned (.bool (decide (L = nl N))) ∧ Below w.heap.size w w' := by
  obtain ⟨a, ca, rfl, hca, ra⟩ := ha
  have hw : Below w.heap.size w (w.alloc (.cells #[.slice a L ca] 24)) := (Below.refl _ _).alloc (Nat.le_refl _) _
  have ra' := ra.mono hw
  have hm' : L ≤ 9223372036854775807 := by omega
  go_enter Try.func35, Try.ntmps35
  go_wp2
  go_quiet ((go_at_call 37; with_reducible exact quietS (c_norm a L ca N _ hm' hca (ra'.drewN _))))
  go_wp2
  go_ret
  refine ⟨?_, bel_drewN hw _⟩
  have e : ((L : Int) == ((nl N : Nat) : Int)) = decide (L = nl N) := by rw [Bool.eq_iff_iff]; simp; omega
  rw [← e]
  rfl
theorem c_natural_Of (n : Nat) (w : World) (hn : n < 18446744073709551616) :
    Calls Try.prog 34 #[.int .u64 (n : Int)] w fun e w' => RetNew w n e w' := by
  have hown := OwnR.two (w.alloc (.cells #[.slice none 0 0] 24)) n hn
  have hb0 : Below w.heap.size w (w.alloc (.cells #[.slice none 0 0] 24)) := (Below.refl _ _).alloc (Nat.le_refl _) _
  have hb1 := hb0.alloc (by simp) (.cells #[.int .u32 ((n : Int) % 4294967296), .int .u32 ((n : Int) / 4294967296)] 42)
  rw [World.size_alloc] at hown
  go_enter Try.func34, Try.ntmps34
  go_wp2_with fail
  refine (c_made _ 2 2 n _ (by omega) (Nat.le_refl _) hown.rw').mono ?_
  rintro e w1 ⟨rfl, hb2⟩
  obtain ⟨hc, hf⟩ := bcell hb2
  have hz := hb2.size
  simp only [World.size_alloc] at hz
  go_wp2
  exact bodyPost_ret (res_nat rfl _ _ w.heap.size _ rfl (World.cell?_setCell_same _ _ _ (u := .slice none 0 0) (by simp [hc, go_sem]))) rfl
    (fin_new hb1 hown hb2 (by omega) (Nat.le_refl _) (by omega))
theorem c_natural_Add (va vb : Value) (m n : Nat) (w : World) (ha : IsN w va m) (hb : IsN w vb n) (hm : nl m ≤ 1000000000000) (hn : nl n ≤ 1000000000000) :
    Calls Try.prog 21 #[va, vb] w fun e w' => RetNew w (m + n) e w' := by
  obtain ⟨a, ca, rfl, hca, ra⟩ := ha
  obtain ⟨b, cb, rfl, hcb, rb⟩ := hb
  go_enter Try.func21, Try.ntmps21
  go_wp2_with fail
  go_quiet (fail)
  go_upto_if 19 with (fail)
  go_cut [5, 6] (fun s5 s6 wx => Below w.heap.size w wx ∧ w.heap.size + 1 + 1 < wx.heap.size ∧ wx.cell? ⟨w.heap.size + 1 + 1, 0, none⟩ = some (.slice none 0 0) ∧ wx.frozen? ⟨w.heap.size + 1 + 1, 0, none⟩ = false ∧
     ∃ al cl x bl cs y, s5 = .slice al (nl x) cl ∧ s6 = .slice bl (nl y) cs ∧ nl y ≤ nl x ∧ nl x ≤ 1000000000000 ∧ Hid (x + y = m + n) ∧ Rw w al (nl x) x ∧ Rw w bl (nl y) y)
  case first =>
    have hW := bel_drewN ((((Below.refl w.heap.size w).alloc (Nat.le_refl _) (.cells #[.slice a (nl m) ca] 24)).alloc (by simp) (.cells #[.slice b (nl n) cb] 24)).alloc (by simp; omega) (.cells #[.slice none 0 0] 24)) nq
    go_wp2_with fail
    all_goals go_meet
    case rel => exact ⟨hW, by simp, by simp [go_sem], by simp [go_sem], b, cb, n, a, ca, m, rfl, rfl, by omega, by omega, Lib.hid (Nat.add_comm _ _), rb, ra⟩
    case rel => exact ⟨hW, by simp, by simp [go_sem], by simp [go_sem], a, ca, m, b, cb, n, rfl, rfl, by omega, by omega, Lib.hid rfl, ra, rb⟩
  case rest =>
    obtain ⟨hW, hsz, hc, hf, al, cl, x, bl, cs, y, rfl, rfl, hyx, hx, hsum, rx, ry⟩ := hcut
    clear ra rb hca hcb hm hn
    have hown := OwnR.made wc (nl x + 1)
    go_wp2_with (at_make; refine wpList_make_dig rfl _ _ rfl _ _ _ _ (nl x + 1) rfl rfl (by omega) (by omega) (by omega) ?_)
    go_loopw [8, 28] (fun s8 s28 wr => ∃ k : Nat, k ≤ nl x ∧ s28 = .int .i64 k ∧ s8 = .int .u32 ((cy x y k : Nat) : Int) ∧ OwnR wr wc.heap.size (nl x + 1) ((x + y) % 4294967296 ^ k) ∧ Below wc.heap.size wc wr ∧ wc.heap.size < wr.heap.size)
      (fun _ i _ => nl x - (intOf i).toNat)
    case atStart => exact ⟨0, Nat.zero_le _, rfl, by rw [cy_zero]; rfl, by simpa [Nat.mod_one] using hown, (Below.refl _ _).alloc (Nat.le_refl _) _, by simp⟩
    case round =>
      obtain ⟨k, hk, rfl, rfl, ho, hbr, hsr⟩ := hrel
      clear hown
      have hcy := cy_le x y k
      have hdx := D_lt x k
      have hdy := D_lt y k
      have hds := D_lt (x + y) k
      have E1 : Hid (((D x k : Nat) : Int) + ((D y k : Nat) : Int) + ((cy x y k : Nat) : Int) = ((D (x + y) k : Nat) : Int) + 4294967296 * ((cy x y (k + 1) : Nat) : Int)) := by
        have := cy_step x y k
        show _ = _
        omega
      by_cases hlt : k < nl x
      · have rxr := rx.mono (hW.trans (hbr.mono hW.size))
        have ryr := ry.mono (hW.trans (hbr.mono hW.size))
        obtain ⟨b1, o1, rfl, h1⟩ := rxr.cells (by omega)
        have c1 := h1 k hlt
        have c3 := ho.cell (p := k) (by omega)
        have f3 := ho.frozen k
        have hst : OwnR (wr.setCell ⟨wc.heap.size, k, none⟩ (.int .u32 ((D (x + y) k : Nat) : Int))) wc.heap.size (nl x + 1) ((x + y) % 4294967296 ^ (k + 1)) := by
          rw [← upd_mod]; exact ho.store (by omega) hds
        have hbs := hbr.setCell (p := ⟨wc.heap.size, k, none⟩) (Nat.le_refl _) (.int .u32 ((D (x + y) k : Nat) : Int))
        by_cases hlt2 : k < nl y
        · obtain ⟨b2, o2, rfl, h2⟩ := ryr.cells (by omega)
          have c2 := h2 k hlt2
          go_wp2_with fail
          refine (c_add32 _ _ _ _ (by omega) (by omega) (by omega) (by omega) (by omega) (by omega)).mono ?_
          rintro e w1 ⟨rfl, rfl⟩
          rw [show (((D x k : Nat) : Int) + ((D y k : Nat) : Int) + ((cy x y k : Nat) : Int)) % 4294967296 = ((D (x + y) k : Nat) : Int) from by have := E1.out; omega, show (((D x k : Nat) : Int) + ((D y k : Nat) : Int) + ((cy x y k : Nat) : Int)) / 4294967296 = ((cy x y (k + 1) : Nat) : Int) from by have := E1.out; omega]
          go_wp2
          go_roundw
          case rel => exact ⟨k + 1, by omega, by go_num, rfl, hst, hbs, by simpa using hsr⟩
          case measure => simp [intOf]; omega
        · have E0 : Hid (D y k = 0) := D_ge_nl (by omega)
          go_wp2_with fail
          refine (c_add32 _ _ _ _ (by omega) (by omega) (by omega) (by omega) (by omega) (by omega)).mono ?_
          rintro e w1 ⟨rfl, rfl⟩
          rw [show (((D x k : Nat) : Int) + 0 + ((cy x y k : Nat) : Int)) % 4294967296 = ((D (x + y) k : Nat) : Int) from by have := E1.out; have := E0.out; omega, show (((D x k : Nat) : Int) + 0 + ((cy x y k : Nat) : Int)) / 4294967296 = ((cy x y (k + 1) : Nat) : Int) from by have := E1.out; have := E0.out; omega]
          go_wp2
          go_roundw
          case rel => exact ⟨k + 1, by omega, by go_num, rfl, hst, hbs, by simpa using hsr⟩
          case measure => simp [intOf]; omega
      · obtain rfl : k = nl x := by omega
        have c3 := ho.cell (p := nl x) (by omega)
        have f3 := ho.frozen (nl x)
        have hst : OwnR (wr.setCell ⟨wc.heap.size, nl x, none⟩ (.int .u32 ((cy x y (nl x) : Nat) : Int))) wc.heap.size (nl x + 1) (x + y) := by
          have h := ho.store (p := nl x) (e := cy x y (nl x)) (by omega) (by omega)
          rw [cy_last (Nat.le_refl _) hyx] at h ⊢
          rwa [upd_mod, mod_of_ge (nl_add_le x y (nl x) (Nat.le_refl _) hyx)] at h
        have hbs := hbr.setCell (p := ⟨wc.heap.size, nl x, none⟩) (Nat.le_refl _) (.int .u32 ((cy x y (nl x) : Nat) : Int))
        have hB := hW.trans (hbs.mono hW.size)
        go_wp2_with fail
        refine (c_made _ (nl x + 1) (nl x + 1) (x + y) _ (by omega) (Nat.le_refl _) hst.rw').mono ?_
        rintro e w1 ⟨rfl, hb2⟩
        have hcc : w1.cell? ⟨w.heap.size + 1 + 1, 0, none⟩ = some (.slice none 0 0) := by
          rw [hb2.cell (p := ⟨w.heap.size + 1 + 1, 0, none⟩) (by simp; omega), hbs.cell (p := ⟨w.heap.size + 1 + 1, 0, none⟩) hsz]; exact hc
        have hff : w1.frozen? ⟨w.heap.size + 1 + 1, 0, none⟩ = false := by
          rw [hb2.frozen (p := ⟨w.heap.size + 1 + 1, 0, none⟩) (by simp; omega), hbs.frozen (p := ⟨w.heap.size + 1 + 1, 0, none⟩) hsz]; exact hf
        go_wp2
        exact bodyPost_ret (res_nat rfl _ _ (w.heap.size + 1 + 1) _ rfl (World.cell?_setCell_same _ _ _ hcc)) rfl
          (by rw [← hsum.out]; exact fin_new hB hst hb2 (by have := hW.size; omega) (by omega) (by omega))
end Go.Proofs.Ythpndmamegfbkaa
