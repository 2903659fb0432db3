/- awake: whole. -/
import Derived.Test.YthpndmamegfbkaaF4
namespace Go.Proofs.Ythpndmamegfbkaa
set_option linter.unusedSimpArgs false
set_option linter.unusedVariables false
open Go.RowKit
set_option maxRecDepth 100000 in
set_option maxHeartbeats 4000000 in
theorem c_awake (w : World) : Calls Try.prog 13 #[] w fun e w' => RetV w (.bool true) e w' := by
  obtain ⟨X, hX⟩ : ∃ X : Nat, Hid (X = 4294967295) := ⟨_, Lib.hid rfl⟩
  obtain ⟨A, hA⟩ : ∃ X : Nat, Hid (X = 17) := ⟨_, Lib.hid rfl⟩
  obtain ⟨B, hB⟩ : ∃ X : Nat, Hid (X = 5) := ⟨_, Lib.hid rfl⟩
  obtain ⟨C, hC⟩ : ∃ X : Nat, Hid (X = 1) := ⟨_, Lib.hid rfl⟩
  obtain ⟨Y, hY⟩ : ∃ X : Nat, Hid (X = 4294967296) := ⟨_, Lib.hid rfl⟩
  obtain ⟨Z, hZ⟩ : ∃ X : Nat, Hid (X = 0) := ⟨_, Lib.hid rfl⟩
  go_enter Try.func13, Try.ntmps13
  go_upto_region 1 with (fail)
  go_cut [1] (fun s1 wx => ∃ g1, s1 = .pointer (some ⟨g1, 0, none⟩) ∧ VarI wx g1 X ∧ Below w.heap.size w wx)
  case first =>
    go_wp2_with fail
    refine (lit1 w _ rfl X _ (by rw [hX.out]; rfl) (by rw [hX.out]; decide) (by rw [hX.out]; decide)).mono ?_
    rintro e w1 ⟨v1, rfl, ⟨x1, cx1, rfl, hx1c, hx1⟩, hb1⟩
    have v1 := VarB.made w1 x1 (nl X) cx1
    have hn1 : NewN w.heap.size (w1.alloc (.cells #[.slice x1 (nl X) cx1] 24)) (.agg #[.slice x1 (nl X) cx1]) X := NewN.mono ⟨x1, cx1, rfl, hx1c, hx1⟩ ((Below.refl _ _).alloc (Nat.le_refl _) _)
    have hA := hb1.alloc hb1.size (.cells #[.slice x1 (nl X) cx1] 24)
    go_wp2_with fail
    go_meet
    case rel => exact ⟨_, rfl, VarI.of v1 hn1.isN, hA⟩
  case rest =>
  obtain ⟨g1, rfl, V1, hb1⟩ := hcut
  go_upto_region 2 with (fail)
  go_cut [2, 3, 4] (fun s2 s3 s4 wx => ∃ g2 g3, s2 = .pointer (some ⟨g2, 0, none⟩) ∧ s3 = .pointer (some ⟨g3, 0, none⟩) ∧ s4 = .int .i64 0 ∧ VarI wx g1 X ∧ VarI wx g2 3 ∧ VarI wx g3 2 ∧ Below w.heap.size w wx)
  case first =>
    go_wp2_with fail
    refine (lit1 wc _ rfl A _ (by rw [hA.out]; rfl) (by rw [hA.out]; decide) (by rw [hA.out]; decide)).mono ?_
    rintro e w1 ⟨va, rfl, na, h1⟩
    go_wp2_with fail
    refine (lit1 w1 _ rfl B _ (by rw [hB.out]; rfl) (by rw [hB.out]; decide) (by rw [hB.out]; decide)).mono ?_
    rintro e w2 ⟨vb, rfl, nb, h2⟩
    go_wp2_with fail
    refine (c_natural_DivMod va vb A B w2 (na.isN.mono h2) nb.isN (by rw [hA.out]; exact nlb (by decide)) (by rw [hB.out]; exact nlb (by decide)) (by rw [hB.out]; decide)).mono ?_
    rintro e w3 ⟨vq, vr, rfl, nq, nr, h3⟩
    rw [hA.out, hB.out] at nq nr
    obtain ⟨q, hq⟩ : ∃ q : Nat, Hid (q = 3) := ⟨_, Lib.hid rfl⟩
    obtain ⟨r, hr⟩ : ∃ r : Nat, Hid (r = 2) := ⟨_, Lib.hid rfl⟩
    replace nq : NewN w2.heap.size w3 vq q := by rw [hq.out]; exact nq
    replace nr : NewN w2.heap.size w3 vr r := by rw [hr.out]; exact nr
    obtain ⟨aq, cq, rfl, hcq, hxq⟩ := nq
    obtain ⟨ar, cr, rfl, hcr, hxr⟩ := nr
    obtain ⟨k1, k2, k3⟩ := start2 w3 aq ar (nl q) cq (nl r) cr
    have nq : IsN w3 (.agg #[.slice aq (nl q) cq]) q := NewN.isN ⟨aq, cq, rfl, hcq, hxq⟩
    have nr : IsN w3 (.agg #[.slice ar (nl r) cr]) r := NewN.isN ⟨ar, cr, rfl, hcr, hxr⟩
    have hB1 := (h1.trans (h2.mono h1.size)).trans ((h3.trans (k1.mono h3.size)).mono (h1.trans (h2.mono h1.size)).size)
    go_wp2_with fail
    go_meet
    case rel => exact ⟨_, _, rfl, rfl, rfl, V1.mono hB1, by rw [← hq.out]; exact VarI.of k2 (nq.mono k1), by rw [← hr.out]; exact VarI.of k3 (nr.mono k1), hb1.trans (hB1.mono hb1.size)⟩
  case rest =>
  clear V1 hb1
  obtain ⟨g2, g3, rfl, rfl, rfl, V1, V2, V3, hb1⟩ := hcut
  go_upto_region 3 with (fail)
  go_cut [5, 6] (fun s5 s6 wx => s6 = .int .i64 2 ∧ VarI wx g1 X ∧ VarI wx g2 3 ∧ VarI wx g3 2 ∧ Below w.heap.size w wx)
  case first =>
    go_wp2_with fail
    refine (c_natural_Parse _ _ 0 2 parse_a).mono ?_
    rintro e w1 ⟨v1, rfl, ⟨x1, cx1, rfl, hx1c, hx1⟩, h1⟩
    have hA := h1.alloc h1.size (.cells #[.slice x1 (nl 0) cx1] 24)
    go_wp2_with fail
    go_meet
    case rel => exact ⟨rfl, V1.mono hA, V2.mono hA, V3.mono hA, hb1.trans (hA.mono hb1.size)⟩
  case rest =>
  clear V1 V2 V3 hb1
  obtain ⟨rfl, V1, V2, V3, hb1⟩ := hcut
  go_upto_region 4 with (fail)
  go_cut [7, 8] (fun s7 s8 wx => ∃ g7, s7 = .pointer (some ⟨g7, 0, none⟩) ∧ s8 = .int .i64 0 ∧ VarI wx g1 X ∧ VarI wx g2 3 ∧ VarI wx g3 2 ∧ VarI wx g7 18446744073709551616 ∧ Below w.heap.size w wx)
  case first =>
    go_wp2_with fail
    refine (c_natural_Parse _ _ _ _ parse_b).mono ?_
    obtain ⟨N, hN⟩ : ∃ X : Nat, Hid (X = 18446744073709551616) := ⟨_, Lib.hid rfl⟩
    rw [← hN.out]
    rintro e w1 ⟨v1, rfl, ⟨x1, cx1, rfl, hx1c, hx1⟩, h1⟩
    have v1 := VarB.made w1 x1 (nl N) cx1
    have n1 : IsN w1 (.agg #[.slice x1 (nl N) cx1]) N := NewN.isN ⟨x1, cx1, rfl, hx1c, hx1⟩
    have hA0 : Below w1.heap.size w1 (w1.alloc (.cells #[.slice x1 (nl N) cx1] 24)) := (Below.refl _ _).alloc (Nat.le_refl _) _
    have hA := h1.alloc h1.size (.cells #[.slice x1 (nl N) cx1] 24)
    go_wp2_with fail
    go_meet
    case rel => exact ⟨_, rfl, rfl, V1.mono hA, V2.mono hA, V3.mono hA, by rw [← hN.out]; exact VarI.of v1 (n1.mono hA0), hb1.trans (hA.mono hb1.size)⟩
  case rest =>
  clear V1 V2 V3 hb1
  obtain ⟨g7, rfl, rfl, V1, V2, V3, V7, hb1⟩ := hcut
  go_upto_region 5 with (fail)
  go_cut [9, 10] (fun s9 s10 wx => ∃ g9, s9 = .pointer (some ⟨g9, 0, none⟩) ∧ s10 = .bool true ∧ VarI wx g1 X ∧ VarI wx g2 3 ∧ VarI wx g3 2 ∧ VarI wx g7 18446744073709551616 ∧ VarI wx g9 X ∧ Below w.heap.size w wx)
  case first =>
    go_wp2_with fail
    refine (lit2 wc _ rfl Z C Y _ _ (by rw [hZ.out]; rfl) (by rw [hC.out]; rfl) (by rw [hZ.out]; decide) (by rw [hC.out]; decide) (by rw [hC.out]; decide) (by rw [hY.out, hZ.out, hC.out])).mono ?_
    rintro e w1 ⟨va, rfl, na, h1⟩
    go_wp2_with fail
    refine (lit1 w1 _ rfl C _ (by rw [hC.out]; rfl) (by rw [hC.out]; decide) (by rw [hC.out]; decide)).mono ?_
    rintro e w2 ⟨vb, rfl, nb, h2⟩
    go_wp2_with fail
    refine (c_natural_Sub va vb Y C w2 (na.isN.mono h2) nb.isN (by rw [hY.out]; exact nlb (by decide)) (by rw [hC.out]; exact nlb (by decide))).mono ?_
    rintro e w3 ⟨vd, rfl, nd, h3⟩
    have hYC : Y - C = X := by rw [hX.out, hY.out, hC.out]
    have hCY : decide (C ≤ Y) = true := by rw [hY.out, hC.out]; decide
    rw [hYC] at nd
    rw [hCY]
    obtain ⟨aq, cq, rfl, hcq, hxq⟩ := nd
    have v1 := VarB.made w3 aq (nl X) cq
    have n1 : IsN w3 (.agg #[.slice aq (nl X) cq]) X := NewN.isN ⟨aq, cq, rfl, hcq, hxq⟩
    have hA0 : Below w3.heap.size w3 (w3.alloc (.cells #[.slice aq (nl X) cq] 24)) := (Below.refl _ _).alloc (Nat.le_refl _) _
    have hA := (h1.trans (h2.mono h1.size)).trans ((h3.alloc h3.size (.cells #[.slice aq (nl X) cq] 24)).mono (h1.trans (h2.mono h1.size)).size)
    go_wp2_with fail
    go_meet
    case rel => exact ⟨_, rfl, rfl, V1.mono hA, V2.mono hA, V3.mono hA, V7.mono hA, VarI.of v1 (n1.mono hA0), hb1.trans (hA.mono hb1.size)⟩
  case rest =>
  clear V1 V2 V3 V7 hb1
  obtain ⟨g9, rfl, rfl, V1, V2, V3, V7, V9, hb1⟩ := hcut
  rw [hX.out] at V1 V9
  clear hX hA hB hC hY hZ
  go_upto_region 6 with (fail)
  refine c_awake_end wc _ g1 g2 g3 g7 g9 V1 V2 V3 V7 V9 rfl rfl rfl rfl rfl rfl rfl rfl rfl rfl rfl ?_
  intro a' w' hb hd hs h0
  rename_i hK
  refine hK a' w' ?_
  refine wp_ret ?_
  show bodyPost Try.prog Try.f13 (fun e w' => RetV w (.bool true) e w') .ret a' w'
  exact bodyPost_ret (res_tmp rfl h0) hd ⟨rfl, hb1.trans (hb.mono hb1.size)⟩
end Go.Proofs.Ythpndmamegfbkaa
