/- The contract of DivMod: the long division. -/
import Derived.Test.YthpndmamegfbkaaA1
import Derived.Test.YthpndmamegfbkaaN10
import Derived.Test.YthpndmamegfbkaaK1
import Derived.Test.YthpndmamegfbkaaR1
namespace Go.Proofs.Ythpndmamegfbkaa
set_option linter.unusedSimpArgs false
set_option linter.unusedVariables false
open Go.RowKit
theorem OwnR.kept {w w' : World} {g L N : Nat} {row : Option Nat} (h : OwnR w g L N) (hg : w.grownBy w' row) (hne : some g ≠ row) : OwnR w' g L N := h.block (hg.block g h.lt hne)
theorem Dig.setOther {w : World} {b off L N : Nat} (h : Dig w b off L N) (p : Addr) (u : Value) (hp : p.block ≠ b) : Dig (w.setCell p u) b off L N := fun j hj => by
  rw [World.cell?_setCell_other _ _ _ _ (by intro e; subst e; exact hp rfl)]; exact h j hj
theorem unshift (x s i : Nat) (hs : s < 32) : (D (x * 2 ^ s) (i + 1) * 4294967296 + D (x * 2 ^ s) i) / 2 ^ s % 4294967296 = D x i := by
  have hB : (4294967296 : Nat) = 2 ^ s * 2 ^ (32 - s) := by rw [← Nat.pow_add, show s + (32 - s) = 32 by omega]
  have h2 : 0 < 2 ^ s := Nat.pow_pos (by decide)
  have e1 : D (x * 2 ^ s) (i + 1) * 4294967296 + D (x * 2 ^ s) i = x * 2 ^ s / 4294967296 ^ i % (4294967296 * 4294967296) := by
    unfold D
    rw [Nat.pow_succ, ← Nat.div_div_eq_div_mul, Nat.mod_mul]
    omega
  have e2 : (4294967296 : Nat) * 4294967296 = 2 ^ s * (2 ^ (32 - s) * 4294967296) := by rw [← Nat.mul_assoc, ← hB]
  rw [e1, e2, Nat.mod_mul_right_div_self, Nat.mod_mod_of_dvd _ (Nat.dvd_mul_left _ _), Nat.div_div_eq_div_mul, Nat.mul_comm (4294967296 ^ i), ← Nat.div_div_eq_div_mul, Nat.mul_div_cancel _ h2]
  rfl
set_option maxRecDepth 100000 in
set_option maxHeartbeats 4000000 in
theorem c_DivMod_big (va vb : Value) (m n : Nat) (w : World) (ha : IsN w va m) (hb : IsN w vb n) (hm : nl m ≤ 1000000000000) (hn : nl n ≤ 1000000000000) (hn1 : 2 ≤ nl n) (hmn : n ≤ m) :
    Calls Try.prog 14 #[va, vb] w fun e w' => RetDiv w (m / n) (m % n) 0 e w' := by
  have hn0 : n ≠ 0 := fun h => by rw [h, nl_zero] at hn1; omega
  obtain ⟨a, ca, rfl, hca, ra⟩ := ha
  obtain ⟨b, cb, rfl, hcb, rb⟩ := hb
  have hw := below4 w a b (nl m) ca (nl n) cb
  have ra' := ra.mono hw
  have rb' := rb.mono hw
  have hm' : nl m ≤ 9223372036854775807 := by omega
  have hn' : nl n ≤ 9223372036854775807 := by omega
  have hp := nl_pos hn0
  have hne : (((nl n : Nat) : Int) == 0) = false := by rw [beq_eq_false_iff_ne]; omega
  have hcm : 0 ≤ cmpI m n := by unfold cmpI; split <;> first | (exfalso; omega) | (split <;> omega)
  have hone : (((nl n : Nat) : Int) == 1) = false := by rw [beq_eq_false_iff_ne]; omega
  have hmnl : nl n ≤ nl m := nl_mono hmn
  have HTOP := Lib.hid (D_top hn0)
  obtain ⟨b1, o1, rfl, hdb⟩ := rb.cells (by omega)
  go_enter Try.func14, Try.ntmps14
  go_wp2_with fail
  go_quiet (first
    | (go_at_call 37; with_reducible exact quietS (c_norm a (nl m) ca m _ hm' hca (ra'.drewN _)))
    | (go_at_call 37; with_reducible exact quietS (c_norm (some ⟨b1, o1, none⟩) (nl n) cb n _ hn' hcb (rb'.drewN _))))
  go_upto_region 2 with (fail)
  go_cut [25] (fun s25 wx => s25 = .bool false ∧ Res2 w wx (w.heap.size + 1 + 1) (w.heap.size + 1 + 1 + 1))
  case first =>
    go_wp2_with fail
    go_meet
    case rel => exact ⟨rfl, bel_drewN hw nq, by omega, by omega, by simp, by simp [go_sem], by simp [go_sem], by simp [go_sem], by simp [go_sem]⟩
  case rest =>
    obtain ⟨rfl, hr⟩ := hcut
    clear hw ra' rb'
    go_wp2_with fail
    refine (c_compare a (some ⟨b1, o1, none⟩) _ _ m n _ (ra.mono hr.below) (rb.mono hr.below) (by omega) (by omega)).mono ?_
    rintro e w1 ⟨rfl, q, rfl⟩
    have hr1 := hr.drewN q
    have c1 := (hdb.mono hr1.below (hdb.lt (by omega))) (nl n - 1) (by omega)
    have e1 : ((nl n : Int) - 1) = ((nl n - 1 : Nat) : Int) := by omega
    have hdt := D_lt n (nl n - 1)
    have hbl := Lib.bitLen_le (D n (nl n - 1)) 32 (by omega) (by omega)
    go_wp2_with fail
    refine (c_lz32 _ _ (by omega) (by omega)).mono ?_
    rintro e w2 ⟨rfl, rfl⟩
    rw [Int.toNat_natCast]
    obtain ⟨s, hs, hs32, hVlt, hVtop⟩ := norm_shift hn0
    rw [hs]
    go_upto_region 11 with (fail)
    go_cut [13, 14] (fun s13 s14 wx => ∃ g1 g2 c2, s13 = .slice (some ⟨g1, 0, none⟩) (nl m + 1) (nl m + 1) ∧ s14 = .slice (some ⟨g2, 0, none⟩) (nl n) c2 ∧ OwnR wx g1 (nl m + 1) (m * 2 ^ s) ∧ Dig wx g2 0 (nl n) (n * 2 ^ s) ∧ g2 ≠ g1 ∧
       Res2 w wx (w.heap.size + 1 + 1) (w.heap.size + 1 + 1 + 1) ∧ w.heap.size + 1 + 1 + 1 < g1 ∧ w.heap.size + 1 + 1 + 1 < g2)
    case first =>
      go_region_with (first
        | (go_at_call_of 42 (Value.slice a (nl m) (nl m)); refine (c_shifted a (nl m) (nl m) m s _ (ra.mono (hr.drewN _).below) hm hs32).mono ?_; rintro e w2 ⟨g1, rfl, hg1, ho1, hb1⟩)
        | (go_at_call_of 42 (Value.slice (some ⟨b1, o1, none⟩) (nl n) (nl n)); refine (c_shifted _ (nl n) (nl n) n s _ (rb.mono ((hr.drewN _).after hb1).below) hn hs32).mono ?_; rintro e w3 ⟨g2, rfl, hg2, ho2, hb2⟩))
      go_wp2_with fail
      go_meet
      have hl1 := ho1.lt
      have hsz := hr.size
      have hg1' : wc.heap.size ≤ g1 := hg1
      have hb1' := hb1.size
      have hb1'' : wc.heap.size ≤ w2.heap.size := hb1'
      case rel => exact ⟨g1, g2, _, rfl, rfl, ho1.mono hb2 ho1.lt, fun j hj => ho2.dig j (by omega), by omega, ((hr.drewN _).after hb1).after hb2, by omega, by omega⟩
    case rest =>
      obtain ⟨g1, g2, c2, rfl, rfl, ho1, hd2, hne21, hr2, hlt1, hlt2⟩ := hcut
      clear hr hr1 c1 hdb
      go_upto_region 12 with (fail)
      go_cut [15] (fun s15 wx => ∃ g3, s15 = .slice (some ⟨g3, 0, none⟩) (nl m - nl n + 1 : Nat) (nl m - nl n + 1 : Nat) ∧ OwnR wx g3 (nl m - nl n + 1) 0 ∧ OwnR wx g1 (nl m + 1) (m * 2 ^ s) ∧ Dig wx g2 0 (nl n) (n * 2 ^ s) ∧
         Res2 w wx (w.heap.size + 1 + 1) (w.heap.size + 1 + 1 + 1) ∧ w.heap.size + 1 + 1 + 1 < g3 ∧ g3 ≠ g1 ∧ g3 ≠ g2)
      case first =>
        have hl1 := ho1.lt
        have hl2 := hd2.lt (by omega)
        have hsz := hr2.size
        have e2 : ((nl m : Int) - (nl n : Int) + 1) = ((nl m - nl n + 1 : Nat) : Int) := by omega
        have E2 := Lib.hid e2
        clear e2
        go_wp2_with (at_make; refine wpList_make_dig rfl _ _ rfl _ _ _ _ (nl m - nl n + 1) rfl rfl (by omega) (by omega) (by omega) ?_)
        go_meet
        have hb := (Below.refl wc.heap.size wc).alloc (Nat.le_refl _) (zrow (nl m - nl n + 1))
        case rel => exact ⟨_, rfl, OwnR.made _ _, ho1.mono hb hl1, hd2.mono hb hl2, hr2.after hb, by omega, by omega, by omega⟩
      case rest =>
        obtain ⟨g3, rfl, ho3, ho1', hd2', hr3, hlt3, h31, h32⟩ := hcut
        clear ho1 hd2 hr2
        go_wp2_with fail
        go_loopw [16] (fun s16 wr => ∃ k : Nat, k ≤ nl m - nl n + 1 ∧ s16 = .int .i64 ((k : Int) - 1) ∧ OwnR wr g3 (nl m - nl n + 1) (shortAt (m * 2 ^ s) (n * 2 ^ s) k) ∧ OwnR wr g1 (nl m + 1) (remAt (m * 2 ^ s) (n * 2 ^ s) k) ∧
            Dig wr g2 0 (nl n) (n * 2 ^ s) ∧ Res2 w wr (w.heap.size + 1 + 1) (w.heap.size + 1 + 1 + 1))
          (fun i _ => (intOf i + 1).toNat)
        case atStart =>
          have hfr := first_rem (n := n) (lt_nl m) hs32 (by omega) hmnl hVtop
          have e3 : remAt (m * 2 ^ s) (n * 2 ^ s) (nl m - nl n + 1) = m * 2 ^ s := remAt_start hfr
          have e4 : shortAt (m * 2 ^ s) (n * 2 ^ s) (nl m - nl n + 1) = 0 := by unfold shortAt; rw [Nat.div_eq_of_lt hfr]; rfl
          exact ⟨nl m - nl n + 1, Nat.le_refl _, by rw [show (((nl m - nl n + 1 : Nat) : Int) - 1) = ((nl m - nl n : Nat) : Int) by omega], by rw [e4]; exact ho3, by rw [e3]; exact ho1', hd2', hr3⟩
        case round =>
          obtain ⟨k, hk, rfl, ho, hu, hd, hrr⟩ := hrel
          clear ho3 ho1' hd2' hr3
          have hV0 : 0 < n * 2 ^ s := Nat.mul_pos (by omega) (Nat.pow_pos (by decide))
          cases k with
          | zero =>
            simp only [show (((0 : Nat) : Int) - 1) = -1 from rfl]
            have hdiv0 : shortAt (m * 2 ^ s) (n * 2 ^ s) 0 = m / n := by unfold shortAt; rw [Nat.pow_zero, Nat.one_mul, Nat.div_one]; exact Nat.mul_div_mul_right _ _ (Nat.pow_pos (by decide))
            have hrem0 : remAt (m * 2 ^ s) (n * 2 ^ s) 0 = m % n * 2 ^ s := by rw [remAt_zero]; exact Nat.mul_mod_mul_right _ _ _
            rw [hdiv0] at ho
            rw [hrem0] at hu
            have hxlt : m % n < 4294967296 ^ nl n := Nat.lt_trans (Nat.mod_lt _ (by omega)) (lt_nl n)
            clear hdiv0 hrem0 hd
            go_upto_region 17 with (fail)
            go_cut [17] (fun s17 wx => ∃ g4, s17 = .slice (some ⟨g4, 0, none⟩) (nl n) (nl n) ∧ OwnR wx g4 (nl n) 0 ∧ OwnR wx g3 (nl m - nl n + 1) (m / n) ∧ Dig wx g1 0 (nl m + 1) (m % n * 2 ^ s) ∧
              Res2 w wx (w.heap.size + 1 + 1) (w.heap.size + 1 + 1 + 1) ∧ g1 < g4 ∧ g3 < g4)
            case first =>
              have hl1 := hu.lt
              have hl3 := ho.lt
              go_wp2_with (at_make; refine wpList_make_dig rfl _ _ rfl _ _ _ _ (nl n) rfl rfl (by omega) (by omega) (by omega) ?_)
              go_meet
              have hb := (Below.refl wr.heap.size wr).alloc (Nat.le_refl _) (zrow (nl n))
              case rel => exact ⟨_, rfl, OwnR.made _ _, ho.mono hb hl3, hu.dig.mono hb hl1, hrr.after hb, hl1, hl3⟩
            case rest =>
              obtain ⟨g4, rfl, ho4, ho3', hd1, hr4, h14, h34⟩ := hcut
              clear ho hu hrr
              go_wp2_with fail
              go_loopw [128] (fun s128 wq => ∃ i : Nat, i ≤ nl n ∧ s128 = .int .i64 i ∧ OwnR wq g4 (nl n) (m % n % 4294967296 ^ i) ∧ Below g4 wc wq)
                (fun i _ => nl n - (intOf i).toNat)
              case atStart => exact ⟨0, Nat.zero_le _, rfl, by simpa [Nat.mod_one] using ho4, Below.refl _ _⟩
              case round =>
                obtain ⟨i, hi, rfl, hox, hbx⟩ := hrel
                by_cases hlt : i < nl n
                · have hdx := hd1.mono hbx h14
                  have c1 := hdx i (by omega)
                  have c2 := hdx (i + 1) (by omega)
                  simp only [Nat.zero_add] at c1 c2
                  have hdl1 := D_lt (m % n * 2 ^ s) i
                  have hdl2 := D_lt (m % n * 2 ^ s) (i + 1)
                  have hor := or32 (D (m % n * 2 ^ s) (i + 1)) (D (m % n * 2 ^ s) i) (by omega) (by omega) (by omega) (by omega)
                  have c3 := hox.cell hlt
                  have f3 := hox.frozen i
                  have HST : Hid (OwnR (wr.setCell ⟨g4, i, none⟩ (.int .u32 ((D (m % n) i : Nat) : Int))) g4 (nl n) (m % n % 4294967296 ^ (i + 1))) := by
                    show OwnR _ _ _ _
                    rw [← upd_mod]; exact hox.store hlt (D_lt _ _)
                  have hbs := hbx.setCell (p := ⟨g4, i, none⟩) (Nat.le_refl _) (.int .u32 ((D (m % n) i : Nat) : Int))
                  have x1 : IntKind.i64.wrap ((i : Int) + 1) = (i : Int) + 1 := by rw [IntKind.wrap_i64]; omega
                  have y1 : ((i : Int) + 1).toNat = i + 1 := by omega
                  have z1 : IntKind.u64.wrap ((D (m % n * 2 ^ s) (i + 1) : Nat) : Int) = ((D (m % n * 2 ^ s) (i + 1) : Nat) : Int) := by rw [IntKind.wrap_u64]; omega
                  have z2 : IntKind.u64.wrap ((D (m % n * 2 ^ s) i : Nat) : Int) = ((D (m % n * 2 ^ s) i : Nat) : Int) := by rw [IntKind.wrap_u64]; omega
                  have z3 : IntKind.u64.wrap (((D (m % n * 2 ^ s) (i + 1) : Nat) : Int) * 4294967296) = ((D (m % n * 2 ^ s) (i + 1) : Nat) : Int) * 4294967296 := by rw [IntKind.wrap_u64]; omega
                  have HBK := Lib.hid (unshift (m % n) s i hs32)
                  have z4 : IntKind.u32.wrap ((((D (m % n * 2 ^ s) (i + 1) : Nat) : Int) * 4294967296 + ((D (m % n * 2 ^ s) i : Nat) : Int)) / 2 ^ s) = ((D (m % n) i : Nat) : Int) := by
                    rw [← HBK.out, IntKind.wrap_u32]; simp
                  go_wp2_with fail
                  refine wp_region_any (by kernel_rfl) ?_
                  change wpAny _ _ _ _ _ _ _ (World.drew _)
                  refine wpAny_take (i := 0) (v := ?v21_0_1) rfl (by kernel_rfl) (by kernel_rfl) (by kernel_rfl) (fun _ _ _ h => h) (Or.inl ⟨by rfl, ?hy21_0_1⟩) ?_
                  case hy21_0_1 => (intro w; go_simp; try with_reducible rfl)
                  try simp only [Act.put, List.setIfInBounds_toArray, List.set_cons_zero, List.set_cons_succ]
                  refine wpAny_take (i := 1) (v := ?v21_1_2) rfl (by kernel_rfl) (by kernel_rfl) (by kernel_rfl) (fun _ _ _ h => h) (Or.inl ⟨by rfl, ?hy21_1_2⟩) ?_
                  case hy21_1_2 => (intro w; go_simp; try with_reducible rfl)
                  try simp only [Act.put, List.setIfInBounds_toArray, List.set_cons_zero, List.set_cons_succ]
                  refine wpAny_take (i := 2) (v := ?v21_2_3) rfl (by kernel_rfl) (by kernel_rfl) (by kernel_rfl) (fun _ _ _ h => h) (Or.inl ⟨by rfl, ?hy21_2_3⟩) ?_
                  case hy21_2_3 => (intro w; go_simp; try with_reducible rfl)
                  try simp only [Act.put, List.setIfInBounds_toArray, List.set_cons_zero, List.set_cons_succ]
                  refine wpAny_take (i := 3) (v := ?v21_3_4) rfl (by kernel_rfl) (by kernel_rfl) (by kernel_rfl) (fun _ _ _ h => h) (Or.inl ⟨by rfl, ?hy21_3_4⟩) ?_
                  case hy21_3_4 => (intro w; go_simp; try with_reducible rfl)
                  try simp only [Act.put, List.setIfInBounds_toArray, List.set_cons_zero, List.set_cons_succ]
                  refine wpAny_take (i := 4) (v := ?v21_4_5) rfl (by kernel_rfl) (by kernel_rfl) (by kernel_rfl) (fun _ _ _ h => h) (Or.inl ⟨by rfl, ?hy21_4_5⟩) ?_
                  case hy21_4_5 => (intro w; go_simp; try with_reducible rfl)
                  try simp only [Act.put, List.setIfInBounds_toArray, List.set_cons_zero, List.set_cons_succ]
                  refine wpAny_take (i := 5) (v := ?v21_5_6) rfl (by kernel_rfl) (by kernel_rfl) (by kernel_rfl) (fun _ _ _ h => h) (Or.inl ⟨by rfl, ?hy21_5_6⟩) ?_
                  case hy21_5_6 => (intro w; go_simp; first | with_reducible rfl | rw [if_pos (by omega)]; try with_reducible rfl)
                  try simp only [Act.put, List.setIfInBounds_toArray, List.set_cons_zero, List.set_cons_succ]
                  refine wpAny_take (i := 9) (v := ?v21_9_7) rfl (by kernel_rfl) (by kernel_rfl) (by kernel_rfl) (fun _ _ _ h => h) (Or.inl ⟨by rfl, ?hy21_9_7⟩) ?_
                  case hy21_9_7 => (intro w; go_simp; try with_reducible rfl)
                  try simp only [Act.put, List.setIfInBounds_toArray, List.set_cons_zero, List.set_cons_succ]
                  refine wpAny_take (i := 10) (v := ?v21_10_8) rfl (by kernel_rfl) (by kernel_rfl) (by kernel_rfl) (fun _ _ _ h => h) (Or.inl ⟨by rfl, ?hy21_10_8⟩) ?_
                  case hy21_10_8 => (intro w; go_simp; try with_reducible rfl)
                  try simp only [Act.put, List.setIfInBounds_toArray, List.set_cons_zero, List.set_cons_succ]
                  refine wpAny_take (i := 11) (v := ?v21_11_9) rfl (by kernel_rfl) (by kernel_rfl) (by kernel_rfl) (fun _ _ _ h => h) (Or.inl ⟨by rfl, ?hy21_11_9⟩) ?_
                  case hy21_11_9 => (intro w; go_simp; first | with_reducible rfl | rw [if_pos (by omega)]; try with_reducible rfl)
                  try simp only [Act.put, List.setIfInBounds_toArray, List.set_cons_zero, List.set_cons_succ]
                  refine wpAny_take (i := 15) (v := ?v21_15_10) rfl (by kernel_rfl) (by kernel_rfl) (by kernel_rfl) (fun _ _ _ h => h) (Or.inl ⟨by rfl, ?hy21_15_10⟩) ?_
                  case hy21_15_10 => (intro w; go_simp; try with_reducible rfl)
                  try simp only [Act.put, List.setIfInBounds_toArray, List.set_cons_zero, List.set_cons_succ]
                  refine wpAny_ready (rs := [6, 12]) (by kernel_rfl) (by simp) ?_
                  refine AllReady.cons rfl (fun K hK => ?_) ?_
                  · go_simp
                    refine hK _ _ ?_
                    clear hK K
                    try simp only [Act.put, List.setIfInBounds_toArray, List.set_cons_zero, List.set_cons_succ]
                    refine wpAny_take (i := 7) (v := ?v21_7_12) rfl (by kernel_rfl) (by kernel_rfl) (by kernel_rfl) (fun _ _ _ h => h) (Or.inl ⟨by rfl, ?hy21_7_12⟩) ?_
                    case hy21_7_12 => (intro w; go_simp; try with_reducible rfl)
                    try simp only [Act.put, List.setIfInBounds_toArray, List.set_cons_zero, List.set_cons_succ]
                    refine wpAny_take (i := 8) (v := ?v21_8_13) rfl (by kernel_rfl) (by kernel_rfl) (by kernel_rfl) (fun _ _ _ h => h) (Or.inl ⟨by rfl, ?hy21_8_13⟩) ?_
                    case hy21_8_13 => (intro w; go_simp; try with_reducible rfl)
                    try simp only [Act.put, List.setIfInBounds_toArray, List.set_cons_zero, List.set_cons_succ]
                    refine wpAny_ready (rs := [12]) (by kernel_rfl) (by simp) ?_
                    refine AllReady.cons rfl (fun K hK => ?_) AllReady.nil
                    go_simp
                    refine hK _ _ ?_
                    clear hK K
                    try simp only [Act.put, List.setIfInBounds_toArray, List.set_cons_zero, List.set_cons_succ]
                    refine wpAny_take (i := 13) (v := ?v21_13_15) rfl (by kernel_rfl) (by kernel_rfl) (by kernel_rfl) (fun _ _ _ h => h) (Or.inl ⟨by rfl, ?hy21_13_15⟩) ?_
                    case hy21_13_15 => (intro w; go_simp; try with_reducible rfl)
                    try simp only [Act.put, List.setIfInBounds_toArray, List.set_cons_zero, List.set_cons_succ]
                    refine wpAny_take (i := 14) (v := ?v21_14_16) rfl (by kernel_rfl) (by kernel_rfl) (by kernel_rfl) (fun _ _ _ h => h) (Or.inl ⟨by rfl, ?hy21_14_16⟩) ?_
                    case hy21_14_16 => (intro w; go_simp; try with_reducible rfl)
                    try simp only [Act.put, List.setIfInBounds_toArray, List.set_cons_zero, List.set_cons_succ]
                    refine wpAny_take (i := 16) (v := ?v21_16_17) rfl (by kernel_rfl) (by kernel_rfl) (by kernel_rfl) (fun _ _ _ h => h) (Or.inl ⟨by rfl, ?hy21_16_17⟩) ?_
                    case hy21_16_17 => (intro w; go_simp; try with_reducible rfl)
                    try simp only [Act.put, List.setIfInBounds_toArray, List.set_cons_zero, List.set_cons_succ]
                    refine wpAny_take (i := 17) (v := ?v21_17_18) rfl (by kernel_rfl) (by kernel_rfl) (by kernel_rfl) (fun _ _ _ h => h) (Or.inl ⟨by rfl, ?hy21_17_18⟩) ?_
                    case hy21_17_18 => (intro w; go_simp; try with_reducible rfl)
                    try simp only [Act.put, List.setIfInBounds_toArray, List.set_cons_zero, List.set_cons_succ]
                    refine wpAny_take (i := 18) (v := ?v21_18_19) rfl (by kernel_rfl) (by kernel_rfl) (by kernel_rfl) (fun _ _ _ h => h) (Or.inl ⟨by rfl, ?hy21_18_19⟩) ?_
                    case hy21_18_19 => (intro w; go_simp; first | with_reducible rfl | rw [if_pos (by omega)]; try with_reducible rfl)
                    try simp only [Act.put, List.setIfInBounds_toArray, List.set_cons_zero, List.set_cons_succ]
                    refine wpAny_ready (rs := [19]) (by kernel_rfl) (by simp) ?_
                    refine AllReady.cons rfl (fun K hK => ?_) AllReady.nil
                    go_simp
                    refine hK _ _ ?_
                    clear hK K
                    refine wpAny_done (by kernel_rfl) ?_ _
                    go_wp2_with fail
                    go_roundw
                    case rel => exact ⟨i + 1, by omega, by go_num, HST.out.block rfl, ⟨hbs.os, hbs.tape, hbs.output, hbs.size, hbs.block⟩⟩
                    case measure => simp [intOf]; omega
                  refine AllReady.cons rfl (fun K hK => ?_) ?_
                  · go_simp
                    refine hK _ _ ?_
                    clear hK K
                    try simp only [Act.put, List.setIfInBounds_toArray, List.set_cons_zero, List.set_cons_succ]
                    refine wpAny_take (i := 13) (v := ?v21_13_21) rfl (by kernel_rfl) (by kernel_rfl) (by kernel_rfl) (fun _ _ _ h => h) (Or.inl ⟨by rfl, ?hy21_13_21⟩) ?_
                    case hy21_13_21 => (intro w; go_simp; try with_reducible rfl)
                    try simp only [Act.put, List.setIfInBounds_toArray, List.set_cons_zero, List.set_cons_succ]
                    refine wpAny_ready (rs := [6]) (by kernel_rfl) (by simp) ?_
                    refine AllReady.cons rfl (fun K hK => ?_) AllReady.nil
                    go_simp
                    refine hK _ _ ?_
                    clear hK K
                    try simp only [Act.put, List.setIfInBounds_toArray, List.set_cons_zero, List.set_cons_succ]
                    refine wpAny_take (i := 7) (v := ?v21_7_23) rfl (by kernel_rfl) (by kernel_rfl) (by kernel_rfl) (fun _ _ _ h => h) (Or.inl ⟨by rfl, ?hy21_7_23⟩) ?_
                    case hy21_7_23 => (intro w; go_simp; try with_reducible rfl)
                    try simp only [Act.put, List.setIfInBounds_toArray, List.set_cons_zero, List.set_cons_succ]
                    refine wpAny_take (i := 8) (v := ?v21_8_24) rfl (by kernel_rfl) (by kernel_rfl) (by kernel_rfl) (fun _ _ _ h => h) (Or.inl ⟨by rfl, ?hy21_8_24⟩) ?_
                    case hy21_8_24 => (intro w; go_simp; try with_reducible rfl)
                    try simp only [Act.put, List.setIfInBounds_toArray, List.set_cons_zero, List.set_cons_succ]
                    refine wpAny_take (i := 14) (v := ?v21_14_25) rfl (by kernel_rfl) (by kernel_rfl) (by kernel_rfl) (fun _ _ _ h => h) (Or.inl ⟨by rfl, ?hy21_14_25⟩) ?_
                    case hy21_14_25 => (intro w; go_simp; try with_reducible rfl)
                    try simp only [Act.put, List.setIfInBounds_toArray, List.set_cons_zero, List.set_cons_succ]
                    refine wpAny_take (i := 16) (v := ?v21_16_26) rfl (by kernel_rfl) (by kernel_rfl) (by kernel_rfl) (fun _ _ _ h => h) (Or.inl ⟨by rfl, ?hy21_16_26⟩) ?_
                    case hy21_16_26 => (intro w; go_simp; try with_reducible rfl)
                    try simp only [Act.put, List.setIfInBounds_toArray, List.set_cons_zero, List.set_cons_succ]
                    refine wpAny_take (i := 17) (v := ?v21_17_27) rfl (by kernel_rfl) (by kernel_rfl) (by kernel_rfl) (fun _ _ _ h => h) (Or.inl ⟨by rfl, ?hy21_17_27⟩) ?_
                    case hy21_17_27 => (intro w; go_simp; try with_reducible rfl)
                    try simp only [Act.put, List.setIfInBounds_toArray, List.set_cons_zero, List.set_cons_succ]
                    refine wpAny_take (i := 18) (v := ?v21_18_28) rfl (by kernel_rfl) (by kernel_rfl) (by kernel_rfl) (fun _ _ _ h => h) (Or.inl ⟨by rfl, ?hy21_18_28⟩) ?_
                    case hy21_18_28 => (intro w; go_simp; first | with_reducible rfl | rw [if_pos (by omega)]; try with_reducible rfl)
                    try simp only [Act.put, List.setIfInBounds_toArray, List.set_cons_zero, List.set_cons_succ]
                    refine wpAny_ready (rs := [19]) (by kernel_rfl) (by simp) ?_
                    refine AllReady.cons rfl (fun K hK => ?_) AllReady.nil
                    go_simp
                    refine hK _ _ ?_
                    clear hK K
                    refine wpAny_done (by kernel_rfl) ?_ _
                    go_wp2_with fail
                    go_roundw
                    case rel => exact ⟨i + 1, by omega, by go_num, HST.out.block rfl, ⟨hbs.os, hbs.tape, hbs.output, hbs.size, hbs.block⟩⟩
                    case measure => simp [intOf]; omega
                  exact AllReady.nil
                · obtain rfl : i = nl n := by omega
                  have e1 := Nat.mod_eq_of_lt hxlt
                  rw [e1] at hox
                  clear e1 hxlt
                  have ho5 := ho3'.mono hbx h34
                  have hr5 := hr4.step hbx (Nat.lt_trans hlt3 h34)
                  have hlx := hox.lt
                  go_wp2_with fail
                  refine (c_made _ (nl m - nl n + 1) _ (m / n) _ (by omega) (Nat.le_refl _) ho5.rw').mono ?_
                  rintro e w3 ⟨rfl, hb3⟩
                  have hr6 := hr5.after hb3
                  have hq3 := NewN.of_own (base := w.heap.size + 1 + 1 + 1 + 1) ho5 hb3 hlt3
                  have hox3 := hox.mono hb3 hlx
                  go_wp2_with fail
                  refine (c_made _ (nl n) _ (m % n) _ (by omega) (Nat.le_refl _) hox3.rw').mono ?_
                  rintro e w4 ⟨rfl, hb4⟩
                  have hr7 := hr6.after hb4
                  have hq4 := hq3.mono hb4
                  have hv4 := NewN.of_own (base := w.heap.size + 1 + 1 + 1 + 1) hox3 hb4 (Nat.lt_trans hlt3 h34)
                  obtain ⟨q1, q2, q3, q4⟩ := And.intro hr7.cell1 (And.intro hr7.cell2 (And.intro hr7.frozen1 hr7.frozen2))
                  go_wp2
                  exact hr7.ret hq4 hv4 rfl rfl rfl rfl
          | succ k =>
            have hC := remAt_lt (U := m * 2 ^ s) (k := k) hV0 hVlt
            have hW : remAt (m * 2 ^ s) (n * 2 ^ s) (k + 1) / 4294967296 ^ k < n * 2 ^ s * 4294967296 := by rw [remAt_div]; exact win_lt _ _ _ hV0
            have HK := knuth hn1 hVlt hVtop hC hW
            have HQ := quo_step (m * 2 ^ s) (n * 2 ^ s) k hV0
            have HR := remAt_step (m * 2 ^ s) (n * 2 ^ s) k hV0
            generalize hCC : remAt (m * 2 ^ s) (n * 2 ^ s) (k + 1) = C at *
            generalize hVV : n * 2 ^ s = V at *
            have u0 := hu.cell (p := k + nl n) (by omega)
            have u1 := hu.cell (p := k + nl n - 1) (by omega)
            have u2 := hu.cell (p := k + nl n - 2) (by omega)
            have v1 := hd (nl n - 1) (by omega)
            have v2 := hd (nl n - 2) (by omega)
            simp only [Nat.zero_add] at v1 v2
            have d0 := D_lt C (k + nl n)
            have d1 := D_lt C (k + nl n - 1)
            have d2 := D_lt C (k + nl n - 2)
            have d3 := D_lt V (nl n - 1)
            have d4 := D_lt V (nl n - 2)
            have e : (((k + 1 : Nat) : Int) - 1) = (k : Int) := by omega
            have e3 : ((k : Int) + (nl n : Int) - 1) = ((k + nl n - 1 : Nat) : Int) := by omega
            have e4 : ((k : Int) + (nl n : Int) - 2) = ((k + nl n - 2 : Nat) : Int) := by omega
            have e5 : ((nl n : Int) - 2) = ((nl n - 2 : Nat) : Int) := by omega
            simp only [e]
            clear e
            have x1 : IntKind.i64.wrap ((k : Int) + (nl n : Int)) = (k : Int) + (nl n : Int) := by rw [IntKind.wrap_i64]; omega
            have y1 : ((k : Int) + (nl n : Int)).toNat = k + nl n := by omega
            have x2 : IntKind.i64.wrap ((k + nl n - 1 : Nat) : Int) = ((k + nl n - 1 : Nat) : Int) := by rw [IntKind.wrap_i64]; omega
            have x3 : IntKind.i64.wrap ((k + nl n - 2 : Nat) : Int) = ((k + nl n - 2 : Nat) : Int) := by rw [IntKind.wrap_i64]; omega
            have x4 : IntKind.i64.wrap ((nl n - 1 : Nat) : Int) = ((nl n - 1 : Nat) : Int) := by rw [IntKind.wrap_i64]; omega
            have x5 : IntKind.i64.wrap ((nl n - 2 : Nat) : Int) = ((nl n - 2 : Nat) : Int) := by rw [IntKind.wrap_i64]; omega
            have HKt := HK.1
            have HK2 := Lib.hid HK.2
            have HQ2 := Lib.hid HQ
            have HR2 := Lib.hid HR
            have HC2 := Lib.hid hC
            clear HK HQ HR hC hW hVV hCC
            go_upto_region 16 with (fail)
            refine wp_region_any (by kernel_rfl) ?_
            change wpAny _ _ _ _ _ _ _ (World.drew _)
            refine wpAny_take (i := 0) (v := ?v16_0_1) rfl (by kernel_rfl) (by kernel_rfl) (by kernel_rfl) (fun _ _ _ h => h) (Or.inl ⟨by rfl, ?hy16_0_1⟩) ?_
            case hy16_0_1 => (intro w; go_simp; try with_reducible rfl)
            try simp only [Act.put, List.setIfInBounds_toArray, List.set_cons_zero, List.set_cons_succ]
            refine wpAny_take (i := 1) (v := ?v16_1_2) rfl (by kernel_rfl) (by kernel_rfl) (by kernel_rfl) (fun _ _ _ h => h) (Or.inl ⟨by rfl, ?hy16_1_2⟩) ?_
            case hy16_1_2 => (intro w; go_simp; try with_reducible rfl)
            try simp only [Act.put, List.setIfInBounds_toArray, List.set_cons_zero, List.set_cons_succ]
            refine wpAny_take (i := 2) (v := ?v16_2_3) rfl (by kernel_rfl) (by kernel_rfl) (by kernel_rfl) (fun _ _ _ h => h) (Or.inl ⟨by rfl, ?hy16_2_3⟩) ?_
            case hy16_2_3 => (intro w; go_simp; try with_reducible rfl)
            try simp only [Act.put, List.setIfInBounds_toArray, List.set_cons_zero, List.set_cons_succ]
            refine wpAny_take (i := 3) (v := ?v16_3_4) rfl (by kernel_rfl) (by kernel_rfl) (by kernel_rfl) (fun _ _ _ h => h) (Or.inl ⟨by rfl, ?hy16_3_4⟩) ?_
            case hy16_3_4 => (intro w; go_simp; try with_reducible rfl)
            try simp only [Act.put, List.setIfInBounds_toArray, List.set_cons_zero, List.set_cons_succ]
            refine wpAny_take (i := 4) (v := ?v16_4_5) rfl (by kernel_rfl) (by kernel_rfl) (by kernel_rfl) (fun _ _ _ h => h) (Or.inl ⟨by rfl, ?hy16_4_5⟩) ?_
            case hy16_4_5 => (intro w; go_simp; try with_reducible rfl)
            try simp only [Act.put, List.setIfInBounds_toArray, List.set_cons_zero, List.set_cons_succ]
            refine wpAny_take (i := 5) (v := ?v16_5_6) rfl (by kernel_rfl) (by kernel_rfl) (by kernel_rfl) (fun _ _ _ h => h) (Or.inl ⟨by rfl, ?hy16_5_6⟩) ?_
            case hy16_5_6 => (intro w; go_simp; try with_reducible rfl)
            try simp only [Act.put, List.setIfInBounds_toArray, List.set_cons_zero, List.set_cons_succ]
            refine wpAny_take (i := 6) (v := ?v16_6_7) rfl (by kernel_rfl) (by kernel_rfl) (by kernel_rfl) (fun _ _ _ h => h) (Or.inl ⟨by rfl, ?hy16_6_7⟩) ?_
            case hy16_6_7 => (intro w; go_simp; try with_reducible rfl)
            try simp only [Act.put, List.setIfInBounds_toArray, List.set_cons_zero, List.set_cons_succ]
            refine wpAny_take (i := 7) (v := ?v16_7_8) rfl (by kernel_rfl) (by kernel_rfl) (by kernel_rfl) (fun _ _ _ h => h) (Or.inl ⟨by rfl, ?hy16_7_8⟩) ?_
            case hy16_7_8 => (intro w; go_simp; try with_reducible rfl)
            try simp only [Act.put, List.setIfInBounds_toArray, List.set_cons_zero, List.set_cons_succ]
            refine wpAny_take (i := 8) (v := ?v16_8_9) rfl (by kernel_rfl) (by kernel_rfl) (by kernel_rfl) (fun _ _ _ h => h) (Or.inl ⟨by rfl, ?hy16_8_9⟩) ?_
            case hy16_8_9 => (intro w; go_simp; try with_reducible rfl)
            try simp only [Act.put, List.setIfInBounds_toArray, List.set_cons_zero, List.set_cons_succ]
            refine wpAny_take (i := 9) (v := ?v16_9_10) rfl (by kernel_rfl) (by kernel_rfl) (by kernel_rfl) (fun _ _ _ h => h) (Or.inl ⟨by rfl, ?hy16_9_10⟩) ?_
            case hy16_9_10 => (intro w; go_simp; first | with_reducible rfl | rw [if_pos (by omega)]; try with_reducible rfl)
            try simp only [Act.put, List.setIfInBounds_toArray, List.set_cons_zero, List.set_cons_succ]
            refine wpAny_take (i := 11) (v := ?v16_11_11) rfl (by kernel_rfl) (by kernel_rfl) (by kernel_rfl) (fun _ _ _ h => h) (Or.inl ⟨by rfl, ?hy16_11_11⟩) ?_
            case hy16_11_11 => (intro w; go_simp; try with_reducible rfl)
            try simp only [Act.put, List.setIfInBounds_toArray, List.set_cons_zero, List.set_cons_succ]
            refine wpAny_take (i := 12) (v := ?v16_12_12) rfl (by kernel_rfl) (by kernel_rfl) (by kernel_rfl) (fun _ _ _ h => h) (Or.inl ⟨by rfl, ?hy16_12_12⟩) ?_
            case hy16_12_12 => (intro w; go_simp; try with_reducible rfl)
            try simp only [Act.put, List.setIfInBounds_toArray, List.set_cons_zero, List.set_cons_succ]
            refine wpAny_take (i := 13) (v := ?v16_13_13) rfl (by kernel_rfl) (by kernel_rfl) (by kernel_rfl) (fun _ _ _ h => h) (Or.inl ⟨by rfl, ?hy16_13_13⟩) ?_
            case hy16_13_13 => (intro w; go_simp; try with_reducible rfl)
            try simp only [Act.put, List.setIfInBounds_toArray, List.set_cons_zero, List.set_cons_succ]
            refine wpAny_take (i := 14) (v := ?v16_14_14) rfl (by kernel_rfl) (by kernel_rfl) (by kernel_rfl) (fun _ _ _ h => h) (Or.inl ⟨by rfl, ?hy16_14_14⟩) ?_
            case hy16_14_14 => (intro w; go_simp; try with_reducible rfl)
            try simp only [Act.put, List.setIfInBounds_toArray, List.set_cons_zero, List.set_cons_succ]
            refine wpAny_take (i := 15) (v := ?v16_15_15) rfl (by kernel_rfl) (by kernel_rfl) (by kernel_rfl) (fun _ _ _ h => h) (Or.inl ⟨by rfl, ?hy16_15_15⟩) ?_
            case hy16_15_15 => (intro w; go_simp; try with_reducible rfl)
            try simp only [Act.put, List.setIfInBounds_toArray, List.set_cons_zero, List.set_cons_succ]
            refine wpAny_take (i := 16) (v := ?v16_16_16) rfl (by kernel_rfl) (by kernel_rfl) (by kernel_rfl) (fun _ _ _ h => h) (Or.inl ⟨by rfl, ?hy16_16_16⟩) ?_
            case hy16_16_16 => (intro w; go_simp; first | with_reducible rfl | rw [if_pos (by omega)]; try with_reducible rfl)
            try simp only [Act.put, List.setIfInBounds_toArray, List.set_cons_zero, List.set_cons_succ]
            refine wpAny_take (i := 18) (v := ?v16_18_17) rfl (by kernel_rfl) (by kernel_rfl) (by kernel_rfl) (fun _ _ _ h => h) (Or.inl ⟨by rfl, ?hy16_18_17⟩) ?_
            case hy16_18_17 => (intro w; go_simp; try with_reducible rfl)
            try simp only [Act.put, List.setIfInBounds_toArray, List.set_cons_zero, List.set_cons_succ]
            refine wpAny_take (i := 19) (v := ?v16_19_18) rfl (by kernel_rfl) (by kernel_rfl) (by kernel_rfl) (fun _ _ _ h => h) (Or.inl ⟨by rfl, ?hy16_19_18⟩) ?_
            case hy16_19_18 => (intro w; go_simp; try with_reducible rfl)
            try simp only [Act.put, List.setIfInBounds_toArray, List.set_cons_zero, List.set_cons_succ]
            refine wpAny_take (i := 20) (v := ?v16_20_19) rfl (by kernel_rfl) (by kernel_rfl) (by kernel_rfl) (fun _ _ _ h => h) (Or.inl ⟨by rfl, ?hy16_20_19⟩) ?_
            case hy16_20_19 => (intro w; go_simp; try with_reducible rfl)
            try simp only [Act.put, List.setIfInBounds_toArray, List.set_cons_zero, List.set_cons_succ]
            refine wpAny_take (i := 21) (v := ?v16_21_20) rfl (by kernel_rfl) (by kernel_rfl) (by kernel_rfl) (fun _ _ _ h => h) (Or.inl ⟨by rfl, ?hy16_21_20⟩) ?_
            case hy16_21_20 => (intro w; go_simp; try with_reducible rfl)
            try simp only [Act.put, List.setIfInBounds_toArray, List.set_cons_zero, List.set_cons_succ]
            refine wpAny_take (i := 22) (v := ?v16_22_21) rfl (by kernel_rfl) (by kernel_rfl) (by kernel_rfl) (fun _ _ _ h => h) (Or.inl ⟨by rfl, ?hy16_22_21⟩) ?_
            case hy16_22_21 => (intro w; go_simp; try with_reducible rfl)
            try simp only [Act.put, List.setIfInBounds_toArray, List.set_cons_zero, List.set_cons_succ]
            refine wpAny_take (i := 23) (v := ?v16_23_22) rfl (by kernel_rfl) (by kernel_rfl) (by kernel_rfl) (fun _ _ _ h => h) (Or.inl ⟨by rfl, ?hy16_23_22⟩) ?_
            case hy16_23_22 => (intro w; go_simp; first | with_reducible rfl | rw [if_pos (by omega)]; try with_reducible rfl)
            try simp only [Act.put, List.setIfInBounds_toArray, List.set_cons_zero, List.set_cons_succ]
            refine wpAny_take (i := 25) (v := ?v16_25_23) rfl (by kernel_rfl) (by kernel_rfl) (by kernel_rfl) (fun _ _ _ h => h) (Or.inl ⟨by rfl, ?hy16_25_23⟩) ?_
            case hy16_25_23 => (intro w; go_simp; try with_reducible rfl)
            try simp only [Act.put, List.setIfInBounds_toArray, List.set_cons_zero, List.set_cons_succ]
            refine wpAny_take (i := 26) (v := ?v16_26_24) rfl (by kernel_rfl) (by kernel_rfl) (by kernel_rfl) (fun _ _ _ h => h) (Or.inl ⟨by rfl, ?hy16_26_24⟩) ?_
            case hy16_26_24 => (intro w; go_simp; try with_reducible rfl)
            try simp only [Act.put, List.setIfInBounds_toArray, List.set_cons_zero, List.set_cons_succ]
            refine wpAny_take (i := 27) (v := ?v16_27_25) rfl (by kernel_rfl) (by kernel_rfl) (by kernel_rfl) (fun _ _ _ h => h) (Or.inl ⟨by rfl, ?hy16_27_25⟩) ?_
            case hy16_27_25 => (intro w; go_simp; try with_reducible rfl)
            try simp only [Act.put, List.setIfInBounds_toArray, List.set_cons_zero, List.set_cons_succ]
            refine wpAny_take (i := 28) (v := ?v16_28_26) rfl (by kernel_rfl) (by kernel_rfl) (by kernel_rfl) (fun _ _ _ h => h) (Or.inl ⟨by rfl, ?hy16_28_26⟩) ?_
            case hy16_28_26 => (intro w; go_simp; first | with_reducible rfl | rw [if_pos (by omega)]; try with_reducible rfl)
            try simp only [Act.put, List.setIfInBounds_toArray, List.set_cons_zero, List.set_cons_succ]
            refine wpAny_take (i := 30) (v := ?v16_30_27) rfl (by kernel_rfl) (by kernel_rfl) (by kernel_rfl) (fun _ _ _ h => h) (Or.inl ⟨by rfl, ?hy16_30_27⟩) ?_
            case hy16_30_27 => (intro w; go_simp; try with_reducible rfl)
            try simp only [Act.put, List.setIfInBounds_toArray, List.set_cons_zero, List.set_cons_succ]
            refine wpAny_take (i := 31) (v := ?v16_31_28) rfl (by kernel_rfl) (by kernel_rfl) (by kernel_rfl) (fun _ _ _ h => h) (Or.inl ⟨by rfl, ?hy16_31_28⟩) ?_
            case hy16_31_28 => (intro w; go_simp; try with_reducible rfl)
            try simp only [Act.put, List.setIfInBounds_toArray, List.set_cons_zero, List.set_cons_succ]
            refine wpAny_take (i := 32) (v := ?v16_32_29) rfl (by kernel_rfl) (by kernel_rfl) (by kernel_rfl) (fun _ _ _ h => h) (Or.inl ⟨by rfl, ?hy16_32_29⟩) ?_
            case hy16_32_29 => (intro w; go_simp; try with_reducible rfl)
            try simp only [Act.put, List.setIfInBounds_toArray, List.set_cons_zero, List.set_cons_succ]
            refine wpAny_take (i := 33) (v := ?v16_33_30) rfl (by kernel_rfl) (by kernel_rfl) (by kernel_rfl) (fun _ _ _ h => h) (Or.inl ⟨by rfl, ?hy16_33_30⟩) ?_
            case hy16_33_30 => (intro w; go_simp; first | with_reducible rfl | rw [if_pos (by omega)]; try with_reducible rfl)
            try simp only [Act.put, List.setIfInBounds_toArray, List.set_cons_zero, List.set_cons_succ]
            refine wpAny_take_load (i := 10) (t := 35) (v := ?v16_10_31) rfl (by decide) rfl rfl (by kernel_rfl) (by kernel_rfl) (fun _ _ _ h => h) ⟨by rfl, ?hy16_10_31⟩ ?_
            case hy16_10_31 => (go_simp; try with_reducible rfl)
            try simp only [Act.put, List.setIfInBounds_toArray, List.set_cons_zero, List.set_cons_succ]
            refine wpAny_take_load (i := 17) (t := 35) (v := ?v16_17_32) rfl (by decide) rfl rfl (by kernel_rfl) (by kernel_rfl) (fun _ _ _ h => h) ⟨by rfl, ?hy16_17_32⟩ ?_
            case hy16_17_32 => (go_simp; try with_reducible rfl)
            try simp only [Act.put, List.setIfInBounds_toArray, List.set_cons_zero, List.set_cons_succ]
            refine wpAny_take_load (i := 24) (t := 35) (v := ?v16_24_33) rfl (by decide) rfl rfl (by kernel_rfl) (by kernel_rfl) (fun _ _ _ h => h) ⟨by rfl, ?hy16_24_33⟩ ?_
            case hy16_24_33 => (go_simp; try with_reducible rfl)
            try simp only [Act.put, List.setIfInBounds_toArray, List.set_cons_zero, List.set_cons_succ]
            refine wpAny_take_load (i := 29) (t := 35) (v := ?v16_29_34) rfl (by decide) rfl rfl (by kernel_rfl) (by kernel_rfl) (fun _ _ _ h => h) ⟨by rfl, ?hy16_29_34⟩ ?_
            case hy16_29_34 => (go_simp; try with_reducible rfl)
            try simp only [Act.put, List.setIfInBounds_toArray, List.set_cons_zero, List.set_cons_succ]
            refine wpAny_ready (rs := [34]) (by kernel_rfl) (by simp) ?_
            refine AllReady.cons rfl (fun K hK => ?_) AllReady.nil
            go_simp
            refine hK _ _ ?_
            clear hK K
            try simp only [Act.put, List.setIfInBounds_toArray, List.set_cons_zero, List.set_cons_succ]
            refine wpAny_ready (rs := [35]) (by kernel_rfl) (by simp) ?_
            refine AllReady.cons rfl (fun K hK => ?_) AllReady.nil
            go_simp
            refine (c_guess _ _ _ _ _ _ (by omega) (by omega) (by omega) (by omega) (by omega) (by omega)).mono ?_
            rintro e w5 ⟨rfl, q5, rfl⟩
            refine hK _ _ ?_
            clear hK K
            try simp only [Act.put, List.setIfInBounds_toArray, List.set_cons_zero, List.set_cons_succ]
            refine wpAny_ready (rs := [36]) (by kernel_rfl) (by simp) ?_
            refine AllReady.cons rfl (fun K hK => ?_) AllReady.nil
            go_simp
            refine (c_reduce g1 (nl m + 1) _ g2 _ (nl n) k C V (topQ 4294967296 ((D C (k + nl n) * 4294967296 + D C (k + nl n - 1)) * 4294967296 + D C (k + nl n - 2)) (D V (nl n - 1) * 4294967296 + D V (nl n - 2))) (wr.drewN (1 + q5)) (hu.block rfl) hd hVlt hne21 (by omega) (by omega) (Nat.lt_of_le_of_lt (Nat.min_le_left _ _) (by decide)) hV0 HC2.out HK2.out.1 HK2.out.2).mono ?_
            rintro e w6 ⟨rfl, hu6, hgb6⟩
            rw [HR2.out] at hu6
            have hb6 : Below g1 wr w6 := (bel_drewN (Below.refl g1 wr) (1 + q5)).trans (grown_below hgb6 g1 (Nat.le_of_lt hu.lt) (fun k hk => by cases hk; exact Nat.le_refl _))
            have hr6 := hrr.step hb6 hlt1
            have ho6 : OwnR w6 g3 _ _ := OwnR.kept (show OwnR (wr.drewN (1 + q5)) g3 _ _ from ho.block rfl) hgb6 (by simpa using h31)
            have hd6 : Dig w6 g2 0 (nl n) V := Dig.kept (show Dig (wr.drewN (1 + q5)) g2 0 (nl n) V from hd) hgb6 (by simpa using hne21)
            clear ho hu hd hrr hgb6 hb6 HK2 HC2 HR2
            refine hK _ _ ?_
            clear hK K
            try simp only [Act.put, List.setIfInBounds_toArray, List.set_cons_zero, List.set_cons_succ]
            have s0 := ho6.cell (p := k) (by omega)
            have f0 := ho6.frozen k
            have hlt6 := HQ2.out.2
            have hst6 := ho6.store (p := k) (by omega) hlt6
            rw [HQ2.out.1] at hst6
            have hu7 := hu6.setOther ⟨g3, k, none⟩ (.int .u32 ((C / 4294967296 ^ k / V : Nat) : Int)) (by exact h31)
            have hd7 := hd6.setOther ⟨g3, k, none⟩ (.int .u32 ((C / 4294967296 ^ k / V : Nat) : Int)) h32
            have hr7 := hr6.step ((Below.refl g3 w6).setCell (p := ⟨g3, k, none⟩) (Nat.le_refl _) (.int .u32 ((C / 4294967296 ^ k / V : Nat) : Int))) hlt3
            clear ho6 hu6 hd6 hr6 HQ2
            have HLT := Lib.hid hlt6
            clear hlt6
            generalize C / 4294967296 ^ k / V = Z at *
            refine wpAny_take (i := 37) (v := ?v16_37_38) rfl (by kernel_rfl) (by kernel_rfl) (by kernel_rfl) (fun _ _ _ h => h) (Or.inl ⟨by rfl, ?hy16_37_38⟩) ?_
            case hy16_37_38 => (intro w; go_simp; first | with_reducible rfl | rw [if_pos (by omega)]; try with_reducible rfl)
            try simp only [Act.put, List.setIfInBounds_toArray, List.set_cons_zero, List.set_cons_succ]
            refine wpAny_ready (rs := [38]) (by kernel_rfl) (by simp) ?_
            refine AllReady.cons rfl (fun K hK => ?_) AllReady.nil
            go_simp
            refine hK _ _ ?_
            clear hK K
            refine wpAny_done (by kernel_rfl) ?_ _
            go_wp2_with fail
            go_roundw
            case rel => exact ⟨k, by omega, by go_num, hst6, hu7, hd7, hr7⟩
            case measure => simp [intOf]
end Go.Proofs.Ythpndmamegfbkaa
