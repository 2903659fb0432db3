/- The contract of Sub. -/
import Derived.Test.YthpndmamegfbkaaN4
namespace Go.Proofs.Ythpndmamegfbkaa
set_option linter.unusedSimpArgs false
set_option linter.unusedVariables false
open Go.RowKit
def RetSub (W : World) (m n : Nat) (e : Ending) (w' : World) : Prop := ∃ v, e = .returned (.tuple #[v, .bool (decide (n ≤ m))]) ∧ NewN W.heap.size w' v (m - n) ∧ Below W.heap.size W w'
theorem c_natural_Sub (va vb : Value) (m n : Nat) (w : World) (ha : IsN w va m) (hb : IsN w vb n) (hm : nl m ≤ 1000000000000) (hn : nl n ≤ 1000000000000) :
    Calls Try.prog 23 #[va, vb] w fun e w' => RetSub w m n e w' := by
  obtain ⟨a, ca, rfl, hca, ra⟩ := ha
  obtain ⟨b, cb, rfl, hcb, rb⟩ := hb
  have hw : Below w.heap.size w (((w.alloc (.cells #[.slice a (nl m) ca] 24)).alloc (.cells #[.slice b (nl n) cb] 24)).alloc (.cells #[.slice none 0 0] 24)) := (((Below.refl _ _).alloc (Nat.le_refl _) _).alloc (by simp) _).alloc (by simp; omega) _
  have ra' := ra.mono hw
  have rb' := rb.mono hw
  have hm' : nl m ≤ 9223372036854775807 := by omega
  have hn' : nl n ≤ 9223372036854775807 := by omega
  by_cases hmn : m < n
  · have hcm : cmpI m n = -1 := cmpI_lt hmn
    go_enter Try.func23, Try.ntmps23
    go_wp2_with fail
    go_quiet (first
      | (go_at_call 37; with_reducible exact quietS (c_norm a (nl m) ca m _ hm' hca (ra'.drewN _)))
      | (go_at_call 37; with_reducible exact quietS (c_norm b (nl n) cb n _ hn' hcb (rb'.drewN _))))
    go_wp2_with fail
    refine (c_compare a b _ _ m n _ (ra'.drewN _) (rb'.drewN _) (by omega) (by omega)).mono ?_
    rintro e w1 ⟨rfl, q, rfl⟩
    go_wp2
    have hsub : m - n = 0 := by omega
    refine bodyPost_ret (res_nat2 rfl _ _ (w.heap.size + 1 + 1) (.slice none 0 0) (.bool false) rfl rfl (by simp [go_sem])) rfl ⟨.agg #[.slice none 0 0], ?_, ?_, ?_⟩
    · rw [decide_eq_false (by omega)]
    · rw [hsub]; exact NewN.of_zero
    · first | exact bel_drewN hw _ | exact (bel_drewN hw _).setCell (by simp; omega) _
  · have hcm : 0 ≤ cmpI m n := by unfold cmpI; split <;> first | (exfalso; omega) | (split <;> omega)
    have HS := Lib.hid (show m - n + n = m by omega)
    go_enter Try.func23, Try.ntmps23
    go_wp2_with fail
    go_quiet (first
      | (go_at_call 37; with_reducible exact quietS (c_norm a (nl m) ca m _ hm' hca (ra'.drewN _)))
      | (go_at_call 37; with_reducible exact quietS (c_norm b (nl n) cb n _ hn' hcb (rb'.drewN _))))
    go_wp2_with fail
    refine (c_compare a b _ _ m n _ (ra'.drewN _) (rb'.drewN _) (by omega) (by omega)).mono ?_
    rintro e w1 ⟨rfl, q, rfl⟩
    go_upto_region 4 with (fail)
    go_cut [8] (fun s8 wx => ∃ g, s8 = .slice (some ⟨g, 0, none⟩) (nl m) (nl m) ∧ OwnR wx g (nl m) 0 ∧ Made w wx (w.heap.size + 1 + 1) g)
    case first =>
      have hown := OwnR.made ((((w.alloc (.cells #[.slice a (nl m) ca] 24)).alloc (.cells #[.slice b (nl n) cb] 24)).alloc (.cells #[.slice none 0 0] 24)).drewN (nq + q)) (nl m)
      go_wp2_with (at_make; refine wpList_make_dig rfl _ _ rfl _ _ _ _ (nl m) rfl rfl (by omega) (by omega) (by omega) ?_)
      go_meet
      case rel => exact ⟨_, rfl, by simpa using hown, (bel_drewN hw _).alloc (by simp; omega) _, by omega, by simp, by simp, by simp [go_sem], by simp [go_sem]⟩
    case rest =>
      obtain ⟨g, rfl, hown, hmade⟩ := hcut
      go_wp2_with fail
      go_loopw [9, 28] (fun s9 s28 wr => ∃ k : Nat, k ≤ nl m ∧ s28 = .int .i64 k ∧ s9 = .int .u32 ((cy (m - n) n k : Nat) : Int) ∧ OwnR wr g (nl m) ((m - n) % 4294967296 ^ k) ∧ Below g wc wr)
        (fun _ i _ => nl m - (intOf i).toNat)
      case atStart => exact ⟨0, Nat.zero_le _, rfl, by rw [cy_zero]; rfl, by simpa [Nat.mod_one] using hown, Below.refl _ _⟩
      case round =>
        obtain ⟨k, hk, rfl, rfl, ho, hbr⟩ := hrel
        have hmr := hmade.step hbr
        have hcy := cy_le (m - n) n k
        have hcy1 := cy_le (m - n) n (k + 1)
        have hdx := D_lt m k
        have hdy := D_lt n k
        have hds := D_lt (m - n) k
        have E1 : Hid (((D (m - n) k : Nat) : Int) + ((D n k : Nat) : Int) + ((cy (m - n) n k : Nat) : Int) = ((D m k : Nat) : Int) + 4294967296 * ((cy (m - n) n (k + 1) : Nat) : Int)) := by
          have := cy_step (m - n) n k
          rw [HS.out] at this
          show _ = _
          omega
        by_cases hlt : k < nl m
        · have rar := ra.mono hmr.below
          have rbr := rb.mono hmr.below
          obtain ⟨b1, o1, rfl, h1⟩ := rar.cells (by omega)
          have c1 := h1 k hlt
          have c3 := ho.cell hlt
          have f3 := ho.frozen k
          have hst : OwnR (wr.setCell ⟨g, k, none⟩ (.int .u32 ((D (m - n) k : Nat) : Int))) g (nl m) ((m - n) % 4294967296 ^ (k + 1)) := by
            rw [← upd_mod]; exact ho.store (by omega) hds
          have hbs := hbr.setCell (p := ⟨g, k, none⟩) (Nat.le_refl _) (.int .u32 ((D (m - n) k : Nat) : Int))
          by_cases hlt2 : k < nl n
          · obtain ⟨b2, o2, rfl, h2⟩ := rbr.cells (by omega)
            have c2 := h2 k hlt2
            go_wp2_with fail
            refine (c_sub32 _ _ _ _ (by omega) (by omega) (by omega) (by omega) (by omega) (by omega)).mono ?_
            rintro e w1 ⟨rfl, rfl⟩
            rw [show (((D m k : Nat) : Int) - ((D n k : Nat) : Int) - ((cy (m - n) n k : Nat) : Int)) % 4294967296 = ((D (m - n) k : Nat) : Int) from by have := E1.out; omega, show borrow ((D m k : Nat) : Int) ((D n k : Nat) : Int) ((cy (m - n) n k : Nat) : Int) = ((cy (m - n) n (k + 1) : Nat) : Int) from by have := E1.out; unfold borrow; split <;> omega]
            go_wp2
            go_roundw
            case rel => exact ⟨k + 1, by omega, by go_num, rfl, hst, hbs⟩
            case measure => simp [intOf]; omega
          · have E0 : Hid (D n k = 0) := D_ge_nl (by omega)
            go_wp2_with fail
            refine (c_sub32 _ _ _ _ (by omega) (by omega) (by omega) (by omega) (by omega) (by omega)).mono ?_
            rintro e w1 ⟨rfl, rfl⟩
            rw [show (((D m k : Nat) : Int) - 0 - ((cy (m - n) n k : Nat) : Int)) % 4294967296 = ((D (m - n) k : Nat) : Int) from by have := E1.out; have := E0.out; omega, show borrow ((D m k : Nat) : Int) 0 ((cy (m - n) n k : Nat) : Int) = ((cy (m - n) n (k + 1) : Nat) : Int) from by have := E1.out; have := E0.out; unfold borrow; split <;> omega]
            go_wp2
            go_roundw
            case rel => exact ⟨k + 1, by omega, by go_num, rfl, hst, hbs⟩
            case measure => simp [intOf]; omega
        · obtain rfl : k = nl m := by omega
          have hmod : (m - n) % 4294967296 ^ nl m = m - n := mod_of_ge (nl_mono (Nat.sub_le _ _))
          rw [hmod] at ho
          clear hmod
          go_wp2_with fail
          refine (c_made _ (nl m) (nl m) (m - n) _ (by omega) (Nat.le_refl _) ho.rw').mono ?_
          rintro e w1 ⟨rfl, hb2⟩
          obtain ⟨hcc, hff⟩ := hmr.after hb2
          go_wp2
          obtain ⟨v, hv, h1, h2⟩ := hmr.fin (u := .slice (some ⟨g, 0, none⟩) (nl (m - n)) (nl (m - n))) ho hb2
          cases hv
          refine bodyPost_ret (res_nat2 rfl _ _ (w.heap.size + 1 + 1) _ (.bool true) rfl rfl (World.cell?_setCell_same _ _ _ hcc)) rfl ⟨_, ?_, h1, h2⟩
          rw [decide_eq_true (by omega)]
end Go.Proofs.Ythpndmamegfbkaa
