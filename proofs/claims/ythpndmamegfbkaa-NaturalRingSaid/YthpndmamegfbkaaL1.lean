/- NaturalRing: the walk. -/
import Derived.Test.YthpndmamegfbkaaF6
namespace Go.Proofs.Ythpndmamegfbkaa
set_option linter.unusedSimpArgs false
set_option linter.unusedVariables false
open Go.RowKit
def ringTab (ga gb gc gx gy gd m n k Nx Ny : Nat) : List (Nat × Tmp × Sp) :=
   [(0, 37, .nat (Nx)),
    (1, 38, .nat (n)),
    (2, 39, .nat (m)),
    (3, 40, .nat ((n + m))),
    (4, 41, .val (Value.bool true)),
    (5, 42, .val (Value.bool true)),
    (6, 43, .nat (Ny)),
    (7, 44, .nat (n)),
    (8, 45, .nat (m)),
    (9, 46, .nat ((n * m))),
    (10, 47, .val (Value.bool true)),
    (11, 48, .val (Value.bool true)),
    (12, 49, .val (Value.bool true)),
    (13, 50, .nat (Nx)),
    (14, 51, .nat (k)),
    (15, 52, .nat ((Nx + k))),
    (16, 53, .nat (m)),
    (17, 54, .nat (n)),
    (18, 55, .nat (k)),
    (19, 56, .nat ((n + k))),
    (20, 57, .nat ((m + (n + k)))),
    (21, 58, .val (Value.bool true)),
    (22, 59, .val (Value.bool true)),
    (23, 60, .val (Value.bool true)),
    (24, 61, .nat (Ny)),
    (25, 62, .nat (k)),
    (26, 63, .nat ((Ny * k))),
    (27, 64, .nat (m)),
    (28, 65, .nat (n)),
    (29, 66, .nat (k)),
    (30, 67, .nat ((n * k))),
    (31, 68, .nat ((m * (n * k)))),
    (32, 69, .val (Value.bool true)),
    (33, 70, .val (Value.bool true)),
    (34, 71, .val (Value.bool true)),
    (35, 72, .nat (Nx)),
    (36, 73, .nat (k)),
    (37, 74, .nat ((Nx * k))),
    (38, 75, .nat (m)),
    (39, 76, .nat (k)),
    (40, 77, .nat ((m * k))),
    (41, 78, .nat (n)),
    (42, 79, .nat (k)),
    (43, 80, .nat ((n * k))),
    (44, 81, .nat (((m * k) + (n * k)))),
    (45, 82, .val (Value.bool true)),
    (46, 83, .val (Value.bool true)),
    (47, 84, .val (Value.bool true)),
    (48, 85, .nat (m)),
    (49, 86, .nat (m)),
    (50, 87, .val (Value.bool true)),
    (51, 88, .val (Value.bool true)),
    (52, 89, .val (Value.bool true)),
    (53, 90, .val (Value.bool true)),
    (54, 91, .val (Value.bool true)),
    (55, 92, .val (Value.bool true)),
    (56, 93, .val (Value.bool true)),
    (57, 94, .val (Value.bool true)),
    (58, 6, .val (Value.bool true))]
set_option maxRecDepth 100000 in
set_option maxHeartbeats 4000000 in
theorem c_NaturalRing (va : Value) (La m : Nat) (vb : Value) (Lb n : Nat) (vc : Value) (Lc k : Nat) (w : World) (ha : IsR w va La m) (hLa : La ≤ 9223372036854775807) (hb : IsR w vb Lb n) (hLb : Lb ≤ 9223372036854775807) (hc : IsR w vc Lc k) (hLc : Lc ≤ 9223372036854775807) :
    Calls Try.prog 5 #[va, vb, vc] w fun e w' => RetV w (.bool true) e w' := by
  obtain ⟨xa, ca, rfl, hca, ra⟩ := ha
  obtain ⟨xb, cb, rfl, hcb, rb⟩ := hb
  obtain ⟨xc, cc, rfl, hcc, rc⟩ := hc
  obtain ⟨k0, k1, k2, k3⟩ := box3 (L := La) (c := ca) (N := m) (L2 := Lb) (c2 := cb) (N2 := n) (L3 := Lc) (c3 := cc) (N3 := k) ⟨xa, ca, rfl, hca, ra⟩ ⟨xb, cb, rfl, hcb, rb⟩ ⟨xc, cc, rfl, hcc, rc⟩
  go_enter Try.func5, Try.ntmps5
  go_upto_region 0 with (fail)
  go_cut [3, 4, 5] (fun s3 s4 s5 wx => ∃ ga gb gc, s3 = .pointer (some ⟨ga, 0, none⟩) ∧ s4 = .pointer (some ⟨gb, 0, none⟩) ∧ s5 = .pointer (some ⟨gc, 0, none⟩) ∧ VarR wx ga La m ∧ VarR wx gb Lb n ∧ VarR wx gc Lc k ∧ Below w.heap.size w wx)
  case first =>
    go_wp2_with fail
    go_meet
    case rel => exact ⟨_, _, _, rfl, rfl, rfl, k1, k2, k3, k0⟩
  case rest =>
  obtain ⟨ga, gb, gc, rfl, rfl, rfl, Va, Vb, Vc, hb1⟩ := hcut
  clear k0 k1 k2 k3 hca ra hcb rb hcc rc
  obtain ⟨ya, da, qa, ia⟩ := Va
  have ea := qa.cell
  go_wp2_with fail
  refine (c_Few _ La m _ ia hLa).mono ?_
  rintro e w1 ⟨rfl, bb1⟩
  replace Va : VarR w1 ga La m := VarR.mono ⟨ya, da, qa, ia⟩ bb1
  replace Vb : VarR w1 gb Lb n := VarR.mono Vb bb1
  replace Vc : VarR w1 gc Lc k := VarR.mono Vc bb1
  replace hb1 := hb1.trans (bb1.mono hb1.size)
  clear ea qa ia bb1
  by_cases fa : La ≤ 12 ∧ nl m = La
  case neg =>
    rw [decide_eq_false fa]
    go_wp2_with fail
    refine (c_awake _).mono ?_
    rintro e w9 ⟨rfl, bb⟩
    go_wp2
    go_ret
    exact ⟨rfl, hb1.trans (bb.mono hb1.size)⟩
  rw [decide_eq_true fa]
  obtain ⟨yb, db, qb, ib⟩ := Vb
  have eb := qb.cell
  go_wp2_with fail
  refine (c_Few _ Lb n _ ib hLb).mono ?_
  rintro e w2 ⟨rfl, bb2⟩
  replace Va : VarR w2 ga La m := VarR.mono Va bb2
  replace Vb : VarR w2 gb Lb n := VarR.mono ⟨yb, db, qb, ib⟩ bb2
  replace Vc : VarR w2 gc Lc k := VarR.mono Vc bb2
  replace hb1 := hb1.trans (bb2.mono hb1.size)
  clear eb qb ib bb2
  by_cases fb : Lb ≤ 12 ∧ nl n = Lb
  case neg =>
    rw [decide_eq_false fb]
    go_wp2_with fail
    refine (c_awake _).mono ?_
    rintro e w9 ⟨rfl, bb⟩
    go_wp2
    go_ret
    exact ⟨rfl, hb1.trans (bb.mono hb1.size)⟩
  rw [decide_eq_true fb]
  obtain ⟨yc, dc, qc, ic⟩ := Vc
  have ec := qc.cell
  go_wp2_with fail
  refine (c_Few _ Lc k _ ic hLc).mono ?_
  rintro e w3 ⟨rfl, bb3⟩
  replace Va : VarR w3 ga La m := VarR.mono Va bb3
  replace Vb : VarR w3 gb Lb n := VarR.mono Vb bb3
  replace Vc : VarR w3 gc Lc k := VarR.mono ⟨yc, dc, qc, ic⟩ bb3
  replace hb1 := hb1.trans (bb3.mono hb1.size)
  clear ec qc ic bb3
  by_cases fc : Lc ≤ 12 ∧ nl k = Lc
  case neg =>
    rw [decide_eq_false fc]
    go_wp2_with fail
    refine (c_awake _).mono ?_
    rintro e w9 ⟨rfl, bb⟩
    go_wp2
    go_ret
    exact ⟨rfl, hb1.trans (bb.mono hb1.size)⟩
  rw [decide_eq_true fc]
  obtain ⟨fa, rfl⟩ := fa
  replace Va : VarI w3 ga m := Va
  obtain ⟨fb, rfl⟩ := fb
  replace Vb : VarI w3 gb n := Vb
  obtain ⟨fc, rfl⟩ := fc
  replace Vc : VarI w3 gc k := Vc
  obtain ⟨Nx, hidx⟩ : ∃ N : Nat, Hid (N = m + n) := ⟨_, Lib.hid rfl⟩
  go_upto_region 3 with (fail)
  go_cut [7] (fun s7 wx => ∃ gx, s7 = .pointer (some ⟨gx, 0, none⟩) ∧ VarI wx ga (m) ∧ VarI wx gb (n) ∧ VarI wx gc (k) ∧ VarI wx gx (Nx) ∧ Below w.heap.size w wx)
  case first =>
    have Va' := Va
    obtain ⟨ya, da, qa, ia⟩ := Va'
    have ea := qa.cell
    have Vb' := Vb
    obtain ⟨yb, db, qb, ib⟩ := Vb'
    have eb := qb.cell
    go_wp2_with fail
    refine (c_natural_Add _ _ (m) (n) _ ia ib (nlb' (sm_nl fa) (by decide)) (nlb' (sm_nl fb) (by decide))).mono ?_
    rintro e w9 ⟨v9, rfl, n9, bb⟩
    rw [← hidx.out] at n9
    obtain ⟨x9, c9, rfl, hc9, hx9⟩ := n9
    have v1 := VarB.made w9 x9 (nl Nx) c9
    have n1 : IsN w9 (.agg #[.slice x9 (nl Nx) c9]) Nx := NewN.isN ⟨x9, c9, rfl, hc9, hx9⟩
    have b2 := bel1 w9 (.cells #[.slice x9 (nl Nx) c9] 24)
    have b3 := bb.trans (b2.mono bb.size)
    go_wp2_with fail
    go_meet
    case rel => exact ⟨_, rfl, Va.mono b3, Vb.mono b3, Vc.mono b3, VarI.of v1 (n1.mono b2), hb1.trans (b3.mono hb1.size)⟩
  case rest =>
  clear Va Vb Vc hb1
  obtain ⟨gx, rfl, Va, Vb, Vc, Vx, hb1⟩ := hcut
  have bx : Nx < 4294967296 ^ (12 + 12 + 1) := by rw [hidx.out]; exact sm_add (sm_nl fa) (sm_nl fb)
  obtain ⟨Ny, hidy⟩ : ∃ N : Nat, Hid (N = m * n) := ⟨_, Lib.hid rfl⟩
  go_upto_region 4 with (fail)
  go_cut [8] (fun s8 wx => ∃ gy, s8 = .pointer (some ⟨gy, 0, none⟩) ∧ VarI wx ga (m) ∧ VarI wx gb (n) ∧ VarI wx gc (k) ∧ VarI wx gx (Nx) ∧ VarI wx gy (Ny) ∧ Below w.heap.size w wx)
  case first =>
    have Va' := Va
    obtain ⟨ya, da, qa, ia⟩ := Va'
    have ea := qa.cell
    have Vb' := Vb
    obtain ⟨yb, db, qb, ib⟩ := Vb'
    have eb := qb.cell
    go_wp2_with fail
    refine (c_natural_Mul _ _ (m) (n) _ ia ib (nlb' (sm_nl fa) (by decide)) (nlb' (sm_nl fb) (by decide))).mono ?_
    rintro e w9 ⟨v9, rfl, n9, bb⟩
    rw [← hidy.out] at n9
    obtain ⟨x9, c9, rfl, hc9, hx9⟩ := n9
    have v1 := VarB.made w9 x9 (nl Ny) c9
    have n1 : IsN w9 (.agg #[.slice x9 (nl Ny) c9]) Ny := NewN.isN ⟨x9, c9, rfl, hc9, hx9⟩
    have b2 := bel1 w9 (.cells #[.slice x9 (nl Ny) c9] 24)
    have b3 := bb.trans (b2.mono bb.size)
    go_wp2_with fail
    go_meet
    case rel => exact ⟨_, rfl, Va.mono b3, Vb.mono b3, Vc.mono b3, Vx.mono b3, VarI.of v1 (n1.mono b2), hb1.trans (b3.mono hb1.size)⟩
  case rest =>
  clear Va Vb Vc Vx hb1
  obtain ⟨gy, rfl, Va, Vb, Vc, Vx, Vy, hb1⟩ := hcut
  have by_ : Ny < 4294967296 ^ (12 + 12) := by rw [hidy.out]; exact sm_mul (sm_nl fa) (sm_nl fb)
  obtain ⟨Nd, hidd⟩ : ∃ N : Nat, Hid (N = Nx - n) := ⟨_, Lib.hid rfl⟩
  go_upto_region 5 with (fail)
  go_cut [9, 10] (fun s9 s10 wx => ∃ gd, s9 = .pointer (some ⟨gd, 0, none⟩) ∧ s10 = .bool true ∧ VarI wx ga (m) ∧ VarI wx gb (n) ∧ VarI wx gc (k) ∧ VarI wx gx (Nx) ∧ VarI wx gy (Ny) ∧ VarI wx gd (Nd) ∧ Below w.heap.size w wx)
  case first =>
    have Vx' := Vx
    obtain ⟨yx, dx, qx, ix⟩ := Vx'
    have ex := qx.cell
    have Vb' := Vb
    obtain ⟨yb, db, qb, ib⟩ := Vb'
    have eb := qb.cell
    go_wp2_with fail
    refine (c_natural_Sub _ _ (Nx) (n) _ ix ib (nlb' bx (by decide)) (nlb' (sm_nl fb) (by decide))).mono ?_
    rintro e w9 ⟨v9, rfl, n9, bb⟩
    rw [show decide (n ≤ Nx) = true from by rw [hidx.out]; exact decide_eq_true (Nat.le_add_left _ _)]
    rw [← hidd.out] at n9
    obtain ⟨x9, c9, rfl, hc9, hx9⟩ := n9
    have v1 := VarB.made w9 x9 (nl Nd) c9
    have n1 : IsN w9 (.agg #[.slice x9 (nl Nd) c9]) Nd := NewN.isN ⟨x9, c9, rfl, hc9, hx9⟩
    have b2 := bel1 w9 (.cells #[.slice x9 (nl Nd) c9] 24)
    have b3 := bb.trans (b2.mono bb.size)
    go_wp2_with fail
    go_meet
    case rel => exact ⟨_, rfl, rfl, Va.mono b3, Vb.mono b3, Vc.mono b3, Vx.mono b3, Vy.mono b3, VarI.of v1 (n1.mono b2), hb1.trans (b3.mono hb1.size)⟩
  case rest =>
  clear Va Vb Vc Vx Vy hb1
  obtain ⟨gd, rfl, rfl, Va, Vb, Vc, Vx, Vy, Vd, hb1⟩ := hcut
  have ed : Nd = m := by rw [hidd.out, hidx.out]; omega
  rw [ed] at Vd
  have ex := hidx.out
  have ey := hidy.out
  go_upto_region 6 with (fail)
  refine wp_tab Try.f5 6 (ringTab ga gb gc gx gy gd m n k Nx Ny) (by kernel_rfl) (by kernel_rfl) rfl (by kernel_rfl) (by kernel_rfl) ?_ ?_
  · refine ⟨fun a' w' F => ⟨_, rfl, wanted_none rfl, arm_load rfl (F.keep 7 (Value.pointer (some ⟨gx, 0, none⟩)) (by kernel_rfl) rfl).is (Vx.mono F.below)⟩, ?_⟩
    refine ⟨fun a' w' F => ⟨_, rfl, wanted_none rfl, arm_load rfl (F.keep 4 (Value.pointer (some ⟨gb, 0, none⟩)) (by kernel_rfl) rfl).is (Vb.mono F.below)⟩, ?_⟩
    refine ⟨fun a' w' F => ⟨_, rfl, wanted_none rfl, arm_load rfl (F.keep 3 (Value.pointer (some ⟨ga, 0, none⟩)) (by kernel_rfl) rfl).is (Va.mono F.below)⟩, ?_⟩
    refine ⟨fun a' w' F => ⟨_, rfl, wanted_none rfl, arm_Add rfl (F.at' 1 38 _ rfl (by kernel_rfl)).is (F.at' 2 39 _ rfl (by kernel_rfl)).is (nlb' (sm_nl fb) (by decide)) (nlb' (sm_nl fa) (by decide)) rfl⟩, ?_⟩
    refine ⟨fun a' w' F => ⟨_, rfl, wanted_none rfl, arm_Same rfl (F.at' 0 37 _ rfl (by kernel_rfl)).is (F.at' 3 40 _ rfl (by kernel_rfl)).is (nlb' bx (by decide)) (nlb' (sm_add (sm_nl fb) (sm_nl fa)) (by decide)) (decide_eq_true ((by rw [ex, Nat.add_comm])))⟩, ?_⟩
    refine ⟨fun a' w' F => ⟨_, rfl, wanted_none rfl, arm_move (.inl rfl) (F.at' 4 41 _ rfl (by kernel_rfl)).is⟩, ?_⟩
    refine ⟨fun a' w' F => ⟨_, rfl, wanted_some rfl rfl (F.at' 5 42 _ rfl (by kernel_rfl)), arm_load rfl (F.keep 8 (Value.pointer (some ⟨gy, 0, none⟩)) (by kernel_rfl) rfl).is (Vy.mono F.below)⟩, ?_⟩
    refine ⟨fun a' w' F => ⟨_, rfl, wanted_some rfl rfl (F.at' 5 42 _ rfl (by kernel_rfl)), arm_load rfl (F.keep 4 (Value.pointer (some ⟨gb, 0, none⟩)) (by kernel_rfl) rfl).is (Vb.mono F.below)⟩, ?_⟩
    refine ⟨fun a' w' F => ⟨_, rfl, wanted_some rfl rfl (F.at' 5 42 _ rfl (by kernel_rfl)), arm_load rfl (F.keep 3 (Value.pointer (some ⟨ga, 0, none⟩)) (by kernel_rfl) rfl).is (Va.mono F.below)⟩, ?_⟩
    refine ⟨fun a' w' F => ⟨_, rfl, wanted_some rfl rfl (F.at' 5 42 _ rfl (by kernel_rfl)), arm_Mul rfl (F.at' 7 44 _ rfl (by kernel_rfl)).is (F.at' 8 45 _ rfl (by kernel_rfl)).is (nlb' (sm_nl fb) (by decide)) (nlb' (sm_nl fa) (by decide)) rfl⟩, ?_⟩
    refine ⟨fun a' w' F => ⟨_, rfl, wanted_some rfl rfl (F.at' 5 42 _ rfl (by kernel_rfl)), arm_Same rfl (F.at' 6 43 _ rfl (by kernel_rfl)).is (F.at' 9 46 _ rfl (by kernel_rfl)).is (nlb' by_ (by decide)) (nlb' (sm_mul (sm_nl fb) (sm_nl fa)) (by decide)) (decide_eq_true ((by rw [ey, Nat.mul_comm])))⟩, ?_⟩
    refine ⟨fun a' w' F => ⟨_, rfl, wanted_none rfl, arm_pick rfl (F.at' 5 42 _ rfl (by kernel_rfl)).is (fun _ => (F.at' 10 47 _ rfl (by kernel_rfl)).is) (fun h => by cases h)⟩, ?_⟩
    refine ⟨fun a' w' F => ⟨_, rfl, wanted_none rfl, arm_move (.inl rfl) (F.at' 11 48 _ rfl (by kernel_rfl)).is⟩, ?_⟩
    refine ⟨fun a' w' F => ⟨_, rfl, wanted_some rfl rfl (F.at' 12 49 _ rfl (by kernel_rfl)), arm_load rfl (F.keep 7 (Value.pointer (some ⟨gx, 0, none⟩)) (by kernel_rfl) rfl).is (Vx.mono F.below)⟩, ?_⟩
    refine ⟨fun a' w' F => ⟨_, rfl, wanted_some rfl rfl (F.at' 12 49 _ rfl (by kernel_rfl)), arm_load rfl (F.keep 5 (Value.pointer (some ⟨gc, 0, none⟩)) (by kernel_rfl) rfl).is (Vc.mono F.below)⟩, ?_⟩
    refine ⟨fun a' w' F => ⟨_, rfl, wanted_some rfl rfl (F.at' 12 49 _ rfl (by kernel_rfl)), arm_Add rfl (F.at' 13 50 _ rfl (by kernel_rfl)).is (F.at' 14 51 _ rfl (by kernel_rfl)).is (nlb' bx (by decide)) (nlb' (sm_nl fc) (by decide)) rfl⟩, ?_⟩
    refine ⟨fun a' w' F => ⟨_, rfl, wanted_some rfl rfl (F.at' 12 49 _ rfl (by kernel_rfl)), arm_load rfl (F.keep 3 (Value.pointer (some ⟨ga, 0, none⟩)) (by kernel_rfl) rfl).is (Va.mono F.below)⟩, ?_⟩
    refine ⟨fun a' w' F => ⟨_, rfl, wanted_some rfl rfl (F.at' 12 49 _ rfl (by kernel_rfl)), arm_load rfl (F.keep 4 (Value.pointer (some ⟨gb, 0, none⟩)) (by kernel_rfl) rfl).is (Vb.mono F.below)⟩, ?_⟩
    refine ⟨fun a' w' F => ⟨_, rfl, wanted_some rfl rfl (F.at' 12 49 _ rfl (by kernel_rfl)), arm_load rfl (F.keep 5 (Value.pointer (some ⟨gc, 0, none⟩)) (by kernel_rfl) rfl).is (Vc.mono F.below)⟩, ?_⟩
    refine ⟨fun a' w' F => ⟨_, rfl, wanted_some rfl rfl (F.at' 12 49 _ rfl (by kernel_rfl)), arm_Add rfl (F.at' 17 54 _ rfl (by kernel_rfl)).is (F.at' 18 55 _ rfl (by kernel_rfl)).is (nlb' (sm_nl fb) (by decide)) (nlb' (sm_nl fc) (by decide)) rfl⟩, ?_⟩
    refine ⟨fun a' w' F => ⟨_, rfl, wanted_some rfl rfl (F.at' 12 49 _ rfl (by kernel_rfl)), arm_Add rfl (F.at' 16 53 _ rfl (by kernel_rfl)).is (F.at' 19 56 _ rfl (by kernel_rfl)).is (nlb' (sm_nl fa) (by decide)) (nlb' (sm_add (sm_nl fb) (sm_nl fc)) (by decide)) rfl⟩, ?_⟩
    refine ⟨fun a' w' F => ⟨_, rfl, wanted_some rfl rfl (F.at' 12 49 _ rfl (by kernel_rfl)), arm_Same rfl (F.at' 15 52 _ rfl (by kernel_rfl)).is (F.at' 20 57 _ rfl (by kernel_rfl)).is (nlb' (sm_add bx (sm_nl fc)) (by decide)) (nlb' (sm_add (sm_nl fa) (sm_add (sm_nl fb) (sm_nl fc))) (by decide)) (decide_eq_true ((by rw [ex, Nat.add_assoc])))⟩, ?_⟩
    refine ⟨fun a' w' F => ⟨_, rfl, wanted_none rfl, arm_pick rfl (F.at' 12 49 _ rfl (by kernel_rfl)).is (fun _ => (F.at' 21 58 _ rfl (by kernel_rfl)).is) (fun h => by cases h)⟩, ?_⟩
    refine ⟨fun a' w' F => ⟨_, rfl, wanted_none rfl, arm_move (.inl rfl) (F.at' 22 59 _ rfl (by kernel_rfl)).is⟩, ?_⟩
    refine ⟨fun a' w' F => ⟨_, rfl, wanted_some rfl rfl (F.at' 23 60 _ rfl (by kernel_rfl)), arm_load rfl (F.keep 8 (Value.pointer (some ⟨gy, 0, none⟩)) (by kernel_rfl) rfl).is (Vy.mono F.below)⟩, ?_⟩
    refine ⟨fun a' w' F => ⟨_, rfl, wanted_some rfl rfl (F.at' 23 60 _ rfl (by kernel_rfl)), arm_load rfl (F.keep 5 (Value.pointer (some ⟨gc, 0, none⟩)) (by kernel_rfl) rfl).is (Vc.mono F.below)⟩, ?_⟩
    refine ⟨fun a' w' F => ⟨_, rfl, wanted_some rfl rfl (F.at' 23 60 _ rfl (by kernel_rfl)), arm_Mul rfl (F.at' 24 61 _ rfl (by kernel_rfl)).is (F.at' 25 62 _ rfl (by kernel_rfl)).is (nlb' by_ (by decide)) (nlb' (sm_nl fc) (by decide)) rfl⟩, ?_⟩
    refine ⟨fun a' w' F => ⟨_, rfl, wanted_some rfl rfl (F.at' 23 60 _ rfl (by kernel_rfl)), arm_load rfl (F.keep 3 (Value.pointer (some ⟨ga, 0, none⟩)) (by kernel_rfl) rfl).is (Va.mono F.below)⟩, ?_⟩
    refine ⟨fun a' w' F => ⟨_, rfl, wanted_some rfl rfl (F.at' 23 60 _ rfl (by kernel_rfl)), arm_load rfl (F.keep 4 (Value.pointer (some ⟨gb, 0, none⟩)) (by kernel_rfl) rfl).is (Vb.mono F.below)⟩, ?_⟩
    refine ⟨fun a' w' F => ⟨_, rfl, wanted_some rfl rfl (F.at' 23 60 _ rfl (by kernel_rfl)), arm_load rfl (F.keep 5 (Value.pointer (some ⟨gc, 0, none⟩)) (by kernel_rfl) rfl).is (Vc.mono F.below)⟩, ?_⟩
    refine ⟨fun a' w' F => ⟨_, rfl, wanted_some rfl rfl (F.at' 23 60 _ rfl (by kernel_rfl)), arm_Mul rfl (F.at' 28 65 _ rfl (by kernel_rfl)).is (F.at' 29 66 _ rfl (by kernel_rfl)).is (nlb' (sm_nl fb) (by decide)) (nlb' (sm_nl fc) (by decide)) rfl⟩, ?_⟩
    refine ⟨fun a' w' F => ⟨_, rfl, wanted_some rfl rfl (F.at' 23 60 _ rfl (by kernel_rfl)), arm_Mul rfl (F.at' 27 64 _ rfl (by kernel_rfl)).is (F.at' 30 67 _ rfl (by kernel_rfl)).is (nlb' (sm_nl fa) (by decide)) (nlb' (sm_mul (sm_nl fb) (sm_nl fc)) (by decide)) rfl⟩, ?_⟩
    refine ⟨fun a' w' F => ⟨_, rfl, wanted_some rfl rfl (F.at' 23 60 _ rfl (by kernel_rfl)), arm_Same rfl (F.at' 26 63 _ rfl (by kernel_rfl)).is (F.at' 31 68 _ rfl (by kernel_rfl)).is (nlb' (sm_mul by_ (sm_nl fc)) (by decide)) (nlb' (sm_mul (sm_nl fa) (sm_mul (sm_nl fb) (sm_nl fc))) (by decide)) (decide_eq_true ((by rw [ey, Nat.mul_assoc])))⟩, ?_⟩
    refine ⟨fun a' w' F => ⟨_, rfl, wanted_none rfl, arm_pick rfl (F.at' 23 60 _ rfl (by kernel_rfl)).is (fun _ => (F.at' 32 69 _ rfl (by kernel_rfl)).is) (fun h => by cases h)⟩, ?_⟩
    refine ⟨fun a' w' F => ⟨_, rfl, wanted_none rfl, arm_move (.inl rfl) (F.at' 33 70 _ rfl (by kernel_rfl)).is⟩, ?_⟩
    refine ⟨fun a' w' F => ⟨_, rfl, wanted_some rfl rfl (F.at' 34 71 _ rfl (by kernel_rfl)), arm_load rfl (F.keep 7 (Value.pointer (some ⟨gx, 0, none⟩)) (by kernel_rfl) rfl).is (Vx.mono F.below)⟩, ?_⟩
    refine ⟨fun a' w' F => ⟨_, rfl, wanted_some rfl rfl (F.at' 34 71 _ rfl (by kernel_rfl)), arm_load rfl (F.keep 5 (Value.pointer (some ⟨gc, 0, none⟩)) (by kernel_rfl) rfl).is (Vc.mono F.below)⟩, ?_⟩
    refine ⟨fun a' w' F => ⟨_, rfl, wanted_some rfl rfl (F.at' 34 71 _ rfl (by kernel_rfl)), arm_Mul rfl (F.at' 35 72 _ rfl (by kernel_rfl)).is (F.at' 36 73 _ rfl (by kernel_rfl)).is (nlb' bx (by decide)) (nlb' (sm_nl fc) (by decide)) rfl⟩, ?_⟩
    refine ⟨fun a' w' F => ⟨_, rfl, wanted_some rfl rfl (F.at' 34 71 _ rfl (by kernel_rfl)), arm_load rfl (F.keep 3 (Value.pointer (some ⟨ga, 0, none⟩)) (by kernel_rfl) rfl).is (Va.mono F.below)⟩, ?_⟩
    refine ⟨fun a' w' F => ⟨_, rfl, wanted_some rfl rfl (F.at' 34 71 _ rfl (by kernel_rfl)), arm_load rfl (F.keep 5 (Value.pointer (some ⟨gc, 0, none⟩)) (by kernel_rfl) rfl).is (Vc.mono F.below)⟩, ?_⟩
    refine ⟨fun a' w' F => ⟨_, rfl, wanted_some rfl rfl (F.at' 34 71 _ rfl (by kernel_rfl)), arm_Mul rfl (F.at' 38 75 _ rfl (by kernel_rfl)).is (F.at' 39 76 _ rfl (by kernel_rfl)).is (nlb' (sm_nl fa) (by decide)) (nlb' (sm_nl fc) (by decide)) rfl⟩, ?_⟩
    refine ⟨fun a' w' F => ⟨_, rfl, wanted_some rfl rfl (F.at' 34 71 _ rfl (by kernel_rfl)), arm_load rfl (F.keep 4 (Value.pointer (some ⟨gb, 0, none⟩)) (by kernel_rfl) rfl).is (Vb.mono F.below)⟩, ?_⟩
    refine ⟨fun a' w' F => ⟨_, rfl, wanted_some rfl rfl (F.at' 34 71 _ rfl (by kernel_rfl)), arm_load rfl (F.keep 5 (Value.pointer (some ⟨gc, 0, none⟩)) (by kernel_rfl) rfl).is (Vc.mono F.below)⟩, ?_⟩
    refine ⟨fun a' w' F => ⟨_, rfl, wanted_some rfl rfl (F.at' 34 71 _ rfl (by kernel_rfl)), arm_Mul rfl (F.at' 41 78 _ rfl (by kernel_rfl)).is (F.at' 42 79 _ rfl (by kernel_rfl)).is (nlb' (sm_nl fb) (by decide)) (nlb' (sm_nl fc) (by decide)) rfl⟩, ?_⟩
    refine ⟨fun a' w' F => ⟨_, rfl, wanted_some rfl rfl (F.at' 34 71 _ rfl (by kernel_rfl)), arm_Add rfl (F.at' 40 77 _ rfl (by kernel_rfl)).is (F.at' 43 80 _ rfl (by kernel_rfl)).is (nlb' (sm_mul (sm_nl fa) (sm_nl fc)) (by decide)) (nlb' (sm_mul (sm_nl fb) (sm_nl fc)) (by decide)) rfl⟩, ?_⟩
    refine ⟨fun a' w' F => ⟨_, rfl, wanted_some rfl rfl (F.at' 34 71 _ rfl (by kernel_rfl)), arm_Same rfl (F.at' 37 74 _ rfl (by kernel_rfl)).is (F.at' 44 81 _ rfl (by kernel_rfl)).is (nlb' (sm_mul bx (sm_nl fc)) (by decide)) (nlb' (sm_add (sm_mul (sm_nl fa) (sm_nl fc)) (sm_mul (sm_nl fb) (sm_nl fc))) (by decide)) (decide_eq_true ((by rw [ex, Nat.add_mul])))⟩, ?_⟩
    refine ⟨fun a' w' F => ⟨_, rfl, wanted_none rfl, arm_pick rfl (F.at' 34 71 _ rfl (by kernel_rfl)).is (fun _ => (F.at' 45 82 _ rfl (by kernel_rfl)).is) (fun h => by cases h)⟩, ?_⟩
    refine ⟨fun a' w' F => ⟨_, rfl, wanted_none rfl, arm_move (.inl rfl) (F.at' 46 83 _ rfl (by kernel_rfl)).is⟩, ?_⟩
    refine ⟨fun a' w' F => ⟨_, rfl, wanted_some rfl rfl (F.at' 47 84 _ rfl (by kernel_rfl)), arm_load rfl (F.keep 9 (Value.pointer (some ⟨gd, 0, none⟩)) (by kernel_rfl) rfl).is (Vd.mono F.below)⟩, ?_⟩
    refine ⟨fun a' w' F => ⟨_, rfl, wanted_some rfl rfl (F.at' 47 84 _ rfl (by kernel_rfl)), arm_load rfl (F.keep 3 (Value.pointer (some ⟨ga, 0, none⟩)) (by kernel_rfl) rfl).is (Va.mono F.below)⟩, ?_⟩
    refine ⟨fun a' w' F => ⟨_, rfl, wanted_some rfl rfl (F.at' 47 84 _ rfl (by kernel_rfl)), arm_Same rfl (F.at' 48 85 _ rfl (by kernel_rfl)).is (F.at' 49 86 _ rfl (by kernel_rfl)).is (nlb' (sm_nl fa) (by decide)) (nlb' (sm_nl fa) (by decide)) (decide_eq_true (rfl))⟩, ?_⟩
    refine ⟨fun a' w' F => ⟨_, rfl, wanted_none rfl, arm_pick rfl (F.at' 47 84 _ rfl (by kernel_rfl)).is (fun _ => (F.at' 50 87 _ rfl (by kernel_rfl)).is) (fun h => by cases h)⟩, ?_⟩
    refine ⟨fun a' w' F => ⟨_, rfl, wanted_none rfl, arm_move (.inl rfl) (F.at' 51 88 _ rfl (by kernel_rfl)).is⟩, ?_⟩
    refine ⟨fun a' w' F => ⟨_, rfl, wanted_some rfl rfl (F.at' 52 89 _ rfl (by kernel_rfl)), arm_move (.inl rfl) (F.keep 10 (Value.bool true) (by kernel_rfl) rfl).is⟩, ?_⟩
    refine ⟨fun a' w' F => ⟨_, rfl, wanted_none rfl, arm_pick rfl (F.at' 52 89 _ rfl (by kernel_rfl)).is (fun _ => (F.at' 53 90 _ rfl (by kernel_rfl)).is) (fun h => by cases h)⟩, ?_⟩
    refine ⟨fun a' w' F => ⟨_, rfl, wanted_none rfl, arm_move (.inl rfl) (F.at' 54 91 _ rfl (by kernel_rfl)).is⟩, ?_⟩
    refine ⟨fun a' w' F => ⟨_, rfl, wanted_some rfl rfl (F.at' 55 92 _ rfl (by kernel_rfl)), arm_awake rfl⟩, ?_⟩
    refine ⟨fun a' w' F => ⟨_, rfl, wanted_none rfl, arm_pick rfl (F.at' 55 92 _ rfl (by kernel_rfl)).is (fun _ => (F.at' 56 93 _ rfl (by kernel_rfl)).is) (fun h => by cases h)⟩, ?_⟩
    refine ⟨fun a' w' F => ⟨_, rfl, wanted_none rfl, arm_move (.inr rfl) (F.at' 57 94 _ rfl (by kernel_rfl)).is⟩, ?_⟩
    exact trivial
  · intro a' w' F
    obtain ⟨v, h1, h2⟩ := F.at' 58 6 _ rfl
    have h3 : v = Value.bool true := h2
    subst h3
    rename_i hK
    refine hK a' w' ?_
    refine wp_ret ?_
    show bodyPost Try.prog Try.f5 (fun e w' => RetV w (.bool true) e w') .ret a' w'
    exact bodyPost_ret (res_tmp rfl h1) F.defers ⟨rfl, hb1.trans (F.below.mono hb1.size)⟩
end Go.Proofs.Ythpndmamegfbkaa
