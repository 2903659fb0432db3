/- NaturalTells: the walk. -/
import Derived.Test.YthpndmamegfbkaaS5
namespace Go.Proofs.Ythpndmamegfbkaa
set_option linter.unusedSimpArgs false
set_option linter.unusedVariables false
open Go.RowKit
def tellsTab (ga gb gx gy m n Nx Ny : Nat) (B : Bool) (C Z : Int) : List (Nat × Tmp × Sp) :=
   [(0, 30, .nat (m)),
    (1, 31, .nat (n)),
    (2, 32, .val (Value.int IntKind.i64 C)),
    (3, 33, .nat (m)),
    (4, 34, .nat (n)),
    (5, 35, .val (Value.int IntKind.i64 C)),
    (6, 36, .val (Value.bool true)),
    (7, 37, .val (Value.bool true)),
    (8, 38, .nat (m)),
    (9, 39, .nat (n)),
    (10, 40, .nat ((m + n))),
    (11, 41, .nat (m)),
    (12, 42, .nat (n)),
    (13, 43, .nat ((m + n))),
    (14, 44, .val (Value.bool true)),
    (15, 45, .val (Value.bool true)),
    (16, 46, .val (Value.bool true)),
    (17, 47, .nat (Nx)),
    (18, 48, .nat (Ny)),
    (19, 49, .val (Value.bool true)),
    (20, 50, .val (Value.bool true)),
    (21, 51, .val (Value.bool true)),
    (22, 52, .val (Value.bool B)),
    (23, 53, .val (Value.bool B)),
    (24, 54, .val (Value.bool true)),
    (25, 55, .val (Value.bool true)),
    (26, 56, .val (Value.bool true)),
    (27, 57, .nat (m)),
    (28, 58, .nat (n)),
    (29, 59, .nat ((m * n))),
    (30, 60, .nat (m)),
    (31, 61, .nat (n)),
    (32, 62, .nat ((m * n))),
    (33, 63, .val (Value.bool true)),
    (34, 64, .val (Value.bool true)),
    (35, 65, .val (Value.bool true)),
    (36, 66, .nat (m)),
    (37, 67, .val (Value.int IntKind.i64 Z)),
    (38, 68, .nat (m)),
    (39, 69, .val (Value.int IntKind.i64 Z)),
    (40, 70, .val (Value.bool true)),
    (41, 71, .val (Value.bool true)),
    (42, 72, .val (Value.bool true)),
    (43, 73, .val (Value.bool true)),
    (44, 74, .val (Value.bool true)),
    (45, 4, .val (Value.bool true))]
set_option maxRecDepth 100000 in
set_option maxHeartbeats 4000000 in
theorem c_NaturalTells (va : Value) (La m : Nat) (vb : Value) (Lb n : Nat) (w : World) (ha : IsR w va La m) (hLa : La ≤ 9223372036854775807) (hb : IsR w vb Lb n) (hLb : Lb ≤ 9223372036854775807) :
    Calls Try.prog 9 #[va, vb] w fun e w' => RetV w (.bool true) e w' := by
  obtain ⟨xa, ca, rfl, hca, ra⟩ := ha
  obtain ⟨xb, cb, rfl, hcb, rb⟩ := hb
  obtain ⟨k0, k1, k2⟩ := box2 (L := La) (c := ca) (N := m) (L2 := Lb) (c2 := cb) (N2 := n) ⟨xa, ca, rfl, hca, ra⟩ ⟨xb, cb, rfl, hcb, rb⟩
  go_enter Try.func9, Try.ntmps9
  go_upto_region 0 with (fail)
  go_cut [2, 3] (fun s2 s3 wx => ∃ ga gb, s2 = .pointer (some ⟨ga, 0, none⟩) ∧ s3 = .pointer (some ⟨gb, 0, none⟩) ∧ VarR wx ga La m ∧ VarR wx gb Lb n ∧ Below w.heap.size w wx)
  case first =>
    go_wp2_with fail
    go_meet
    case rel => exact ⟨_, _, rfl, rfl, k1, k2, k0⟩
  case rest =>
  obtain ⟨ga, gb, rfl, rfl, Va, Vb, hb1⟩ := hcut
  clear k0 k1 k2 hca ra hcb rb
  obtain ⟨ya, da, qa, ia⟩ := Va
  have ea := qa.cell
  go_wp2_with fail
  refine (c_Few _ La m _ ia hLa).mono ?_
  rintro e w1 ⟨rfl, bb1⟩
  replace Va : VarR w1 ga La m := VarR.mono ⟨ya, da, qa, ia⟩ bb1
  replace Vb : VarR w1 gb Lb n := VarR.mono Vb bb1
  replace hb1 := hb1.trans (bb1.mono hb1.size)
  clear ea qa ia bb1
  by_cases fa : La ≤ 12 ∧ nl m = La
  case neg =>
    rw [decide_eq_false fa]
    go_wp2_with fail
    refine (c_awake _).mono ?_
    rintro e w9 ⟨rfl, bb⟩
    go_wp2
    go_ret
    exact ⟨rfl, hb1.trans (bb.mono hb1.size)⟩
  rw [decide_eq_true fa]
  obtain ⟨yb, db, qb, ib⟩ := Vb
  have eb := qb.cell
  go_wp2_with fail
  refine (c_Few _ Lb n _ ib hLb).mono ?_
  rintro e w2 ⟨rfl, bb2⟩
  replace Va : VarR w2 ga La m := VarR.mono Va bb2
  replace Vb : VarR w2 gb Lb n := VarR.mono ⟨yb, db, qb, ib⟩ bb2
  replace hb1 := hb1.trans (bb2.mono hb1.size)
  clear eb qb ib bb2
  by_cases fb : Lb ≤ 12 ∧ nl n = Lb
  case neg =>
    rw [decide_eq_false fb]
    go_wp2_with fail
    refine (c_awake _).mono ?_
    rintro e w9 ⟨rfl, bb⟩
    go_wp2
    go_ret
    exact ⟨rfl, hb1.trans (bb.mono hb1.size)⟩
  rw [decide_eq_true fb]
  obtain ⟨fa, rfl⟩ := fa
  replace Va : VarI w2 ga m := Va
  obtain ⟨fb, rfl⟩ := fb
  replace Vb : VarI w2 gb n := Vb
  obtain ⟨B, hB⟩ : ∃ B : Bool, Hid (decide (n ≤ m) = B) := ⟨_, Lib.hid rfl⟩
  obtain ⟨C, hC⟩ : ∃ C : Int, Hid (cmpI m n = C) := ⟨_, Lib.hid rfl⟩
  obtain ⟨Z, hZ⟩ : ∃ Z : Int, Hid (((len2 m : Nat) : Int) = Z) := ⟨_, Lib.hid rfl⟩
  obtain ⟨Nx, hidx⟩ : ∃ N : Nat, Hid (N = m - n) := ⟨_, Lib.hid rfl⟩
  go_upto_region 3 with (fail)
  go_cut [5, 6] (fun s5 s6 wx => ∃ gx, s5 = .pointer (some ⟨gx, 0, none⟩) ∧ s6 = .bool B ∧ VarI wx ga (m) ∧ VarI wx gb (n) ∧ VarI wx gx (Nx) ∧ Below w.heap.size w wx)
  case first =>
    have Va' := Va
    obtain ⟨ya, da, qa, ia⟩ := Va'
    have ea := qa.cell
    have Vb' := Vb
    obtain ⟨yb, db, qb, ib⟩ := Vb'
    have eb := qb.cell
    go_wp2_with fail
    refine (c_natural_Sub _ _ (m) (n) _ ia ib (nlb' (sm_nl fa) (by decide)) (nlb' (sm_nl fb) (by decide))).mono ?_
    rintro e w9 ⟨v9, rfl, n9, bb⟩
    rw [show decide (n ≤ m) = B from hB.out]
    rw [← hidx.out] at n9
    obtain ⟨x9, c9, rfl, hc9, hx9⟩ := n9
    have v1 := VarB.made w9 x9 (nl Nx) c9
    have n1 : IsN w9 (.agg #[.slice x9 (nl Nx) c9]) Nx := NewN.isN ⟨x9, c9, rfl, hc9, hx9⟩
    have b2 := bel1 w9 (.cells #[.slice x9 (nl Nx) c9] 24)
    have b3 := bb.trans (b2.mono bb.size)
    go_wp2_with fail
    go_meet
    case rel => exact ⟨_, rfl, rfl, Va.mono b3, Vb.mono b3, VarI.of v1 (n1.mono b2), hb1.trans (b3.mono hb1.size)⟩
  case rest =>
  clear Va Vb hb1
  obtain ⟨gx, rfl, rfl, Va, Vb, Vx, hb1⟩ := hcut
  obtain ⟨Ny, hidy⟩ : ∃ N : Nat, Hid (N = m - n) := ⟨_, Lib.hid rfl⟩
  go_upto_region 4 with (fail)
  go_cut [7, 8] (fun s7 s8 wx => ∃ gy, s7 = .pointer (some ⟨gy, 0, none⟩) ∧ s8 = .bool B ∧ VarI wx ga (m) ∧ VarI wx gb (n) ∧ VarI wx gx (Nx) ∧ VarI wx gy (Ny) ∧ Below w.heap.size w wx)
  case first =>
    have Va' := Va
    obtain ⟨ya, da, qa, ia⟩ := Va'
    have ea := qa.cell
    have Vb' := Vb
    obtain ⟨yb, db, qb, ib⟩ := Vb'
    have eb := qb.cell
    go_wp2_with fail
    refine (c_ref_Sub _ _ (m) (n) _ ia ib (nlb' (sm_nl fa) (by decide)) (nlb' (sm_nl fb) (by decide))).mono ?_
    rintro e w9 ⟨v9, rfl, n9, bb⟩
    rw [show decide (n ≤ m) = B from hB.out]
    rw [← hidy.out] at n9
    obtain ⟨x9, c9, rfl, hc9, hx9⟩ := n9
    have v1 := VarB.made w9 x9 (nl Ny) c9
    have n1 : IsN w9 (.agg #[.slice x9 (nl Ny) c9]) Ny := NewN.isN ⟨x9, c9, rfl, hc9, hx9⟩
    have b2 := bel1 w9 (.cells #[.slice x9 (nl Ny) c9] 24)
    have b3 := bb.trans (b2.mono bb.size)
    go_wp2_with fail
    go_meet
    case rel => exact ⟨_, rfl, rfl, Va.mono b3, Vb.mono b3, Vx.mono b3, VarI.of v1 (n1.mono b2), hb1.trans (b3.mono hb1.size)⟩
  case rest =>
  clear Va Vb Vx hb1
  obtain ⟨gy, rfl, rfl, Va, Vb, Vx, Vy, hb1⟩ := hcut
  have bx : Nx < 4294967296 ^ 12 := by rw [hidx.out]; exact sm_sub (sm_nl fa)
  have by_ : Ny < 4294967296 ^ 12 := by rw [hidy.out]; exact sm_sub (sm_nl fa)
  go_upto_region 5 with (fail)
  refine wp_tab Try.f9 5 (tellsTab ga gb gx gy m n Nx Ny B C Z) (by kernel_rfl) (by kernel_rfl) rfl (by kernel_rfl) (by kernel_rfl) ?_ ?_
  · refine ⟨fun a' w' F => ⟨_, rfl, wanted_none rfl, arm_load rfl (F.keep 2 (Value.pointer (some ⟨ga, 0, none⟩)) (by kernel_rfl) rfl).is (Va.mono F.below)⟩, ?_⟩
    refine ⟨fun a' w' F => ⟨_, rfl, wanted_none rfl, arm_load rfl (F.keep 3 (Value.pointer (some ⟨gb, 0, none⟩)) (by kernel_rfl) rfl).is (Vb.mono F.below)⟩, ?_⟩
    refine ⟨fun a' w' F => ⟨_, rfl, wanted_none rfl, arm_Cmp rfl (F.at' 0 30 _ rfl (by kernel_rfl)).is (F.at' 1 31 _ rfl (by kernel_rfl)).is (nlb' (sm_nl fa) (by decide)) (nlb' (sm_nl fb) (by decide)) hC.out⟩, ?_⟩
    refine ⟨fun a' w' F => ⟨_, rfl, wanted_none rfl, arm_load rfl (F.keep 2 (Value.pointer (some ⟨ga, 0, none⟩)) (by kernel_rfl) rfl).is (Va.mono F.below)⟩, ?_⟩
    refine ⟨fun a' w' F => ⟨_, rfl, wanted_none rfl, arm_load rfl (F.keep 3 (Value.pointer (some ⟨gb, 0, none⟩)) (by kernel_rfl) rfl).is (Vb.mono F.below)⟩, ?_⟩
    refine ⟨fun a' w' F => ⟨_, rfl, wanted_none rfl, arm_rCmp rfl (F.at' 3 33 _ rfl (by kernel_rfl)).is (F.at' 4 34 _ rfl (by kernel_rfl)).is (nlb' (sm_nl fa) (by decide)) (nlb' (sm_nl fb) (by decide)) hC.out⟩, ?_⟩
    refine ⟨fun a' w' F => ⟨_, rfl, wanted_none rfl, arm_bin rfl (F.at' 2 32 _ rfl (by kernel_rfl)).is (F.at' 5 35 _ rfl (by kernel_rfl)).is (fun _ => rfl) (fun w => run_eqI _ w)⟩, ?_⟩
    refine ⟨fun a' w' F => ⟨_, rfl, wanted_none rfl, arm_move (.inl rfl) (F.at' 6 36 _ rfl (by kernel_rfl)).is⟩, ?_⟩
    refine ⟨fun a' w' F => ⟨_, rfl, wanted_some rfl rfl (F.at' 7 37 _ rfl (by kernel_rfl)), arm_load rfl (F.keep 2 (Value.pointer (some ⟨ga, 0, none⟩)) (by kernel_rfl) rfl).is (Va.mono F.below)⟩, ?_⟩
    refine ⟨fun a' w' F => ⟨_, rfl, wanted_some rfl rfl (F.at' 7 37 _ rfl (by kernel_rfl)), arm_load rfl (F.keep 3 (Value.pointer (some ⟨gb, 0, none⟩)) (by kernel_rfl) rfl).is (Vb.mono F.below)⟩, ?_⟩
    refine ⟨fun a' w' F => ⟨_, rfl, wanted_some rfl rfl (F.at' 7 37 _ rfl (by kernel_rfl)), arm_Add rfl (F.at' 8 38 _ rfl (by kernel_rfl)).is (F.at' 9 39 _ rfl (by kernel_rfl)).is (nlb' (sm_nl fa) (by decide)) (nlb' (sm_nl fb) (by decide)) rfl⟩, ?_⟩
    refine ⟨fun a' w' F => ⟨_, rfl, wanted_some rfl rfl (F.at' 7 37 _ rfl (by kernel_rfl)), arm_load rfl (F.keep 2 (Value.pointer (some ⟨ga, 0, none⟩)) (by kernel_rfl) rfl).is (Va.mono F.below)⟩, ?_⟩
    refine ⟨fun a' w' F => ⟨_, rfl, wanted_some rfl rfl (F.at' 7 37 _ rfl (by kernel_rfl)), arm_load rfl (F.keep 3 (Value.pointer (some ⟨gb, 0, none⟩)) (by kernel_rfl) rfl).is (Vb.mono F.below)⟩, ?_⟩
    refine ⟨fun a' w' F => ⟨_, rfl, wanted_some rfl rfl (F.at' 7 37 _ rfl (by kernel_rfl)), arm_rAdd rfl (F.at' 11 41 _ rfl (by kernel_rfl)).is (F.at' 12 42 _ rfl (by kernel_rfl)).is (nlb' (sm_nl fa) (by decide)) (nlb' (sm_nl fb) (by decide)) rfl⟩, ?_⟩
    refine ⟨fun a' w' F => ⟨_, rfl, wanted_some rfl rfl (F.at' 7 37 _ rfl (by kernel_rfl)), arm_Same rfl (F.at' 10 40 _ rfl (by kernel_rfl)).is (F.at' 13 43 _ rfl (by kernel_rfl)).is (nlb' (sm_add (sm_nl fa) (sm_nl fb)) (by decide)) (nlb' (sm_add (sm_nl fa) (sm_nl fb)) (by decide)) (decide_eq_true (rfl))⟩, ?_⟩
    refine ⟨fun a' w' F => ⟨_, rfl, wanted_none rfl, arm_pick rfl (F.at' 7 37 _ rfl (by kernel_rfl)).is (fun _ => (F.at' 14 44 _ rfl (by kernel_rfl)).is) (fun h => by cases h)⟩, ?_⟩
    refine ⟨fun a' w' F => ⟨_, rfl, wanted_none rfl, arm_move (.inl rfl) (F.at' 15 45 _ rfl (by kernel_rfl)).is⟩, ?_⟩
    refine ⟨fun a' w' F => ⟨_, rfl, wanted_some rfl rfl (F.at' 16 46 _ rfl (by kernel_rfl)), arm_load rfl (F.keep 5 (Value.pointer (some ⟨gx, 0, none⟩)) (by kernel_rfl) rfl).is (Vx.mono F.below)⟩, ?_⟩
    refine ⟨fun a' w' F => ⟨_, rfl, wanted_some rfl rfl (F.at' 16 46 _ rfl (by kernel_rfl)), arm_load rfl (F.keep 7 (Value.pointer (some ⟨gy, 0, none⟩)) (by kernel_rfl) rfl).is (Vy.mono F.below)⟩, ?_⟩
    refine ⟨fun a' w' F => ⟨_, rfl, wanted_some rfl rfl (F.at' 16 46 _ rfl (by kernel_rfl)), arm_Same rfl (F.at' 17 47 _ rfl (by kernel_rfl)).is (F.at' 18 48 _ rfl (by kernel_rfl)).is (nlb' bx (by decide)) (nlb' by_ (by decide)) (decide_eq_true ((by rw [hidx.out, hidy.out])))⟩, ?_⟩
    refine ⟨fun a' w' F => ⟨_, rfl, wanted_none rfl, arm_pick rfl (F.at' 16 46 _ rfl (by kernel_rfl)).is (fun _ => (F.at' 19 49 _ rfl (by kernel_rfl)).is) (fun h => by cases h)⟩, ?_⟩
    refine ⟨fun a' w' F => ⟨_, rfl, wanted_none rfl, arm_move (.inl rfl) (F.at' 20 50 _ rfl (by kernel_rfl)).is⟩, ?_⟩
    refine ⟨fun a' w' F => ⟨_, rfl, wanted_some rfl rfl (F.at' 21 51 _ rfl (by kernel_rfl)), arm_move (.inl rfl) (F.keep 6 (Value.bool B) (by kernel_rfl) rfl).is⟩, ?_⟩
    refine ⟨fun a' w' F => ⟨_, rfl, wanted_some rfl rfl (F.at' 21 51 _ rfl (by kernel_rfl)), arm_move (.inl rfl) (F.keep 8 (Value.bool B) (by kernel_rfl) rfl).is⟩, ?_⟩
    refine ⟨fun a' w' F => ⟨_, rfl, wanted_some rfl rfl (F.at' 21 51 _ rfl (by kernel_rfl)), arm_bin rfl (F.at' 22 52 _ rfl (by kernel_rfl)).is (F.at' 23 53 _ rfl (by kernel_rfl)).is (fun _ => rfl) (fun w => run_eqB _ w)⟩, ?_⟩
    refine ⟨fun a' w' F => ⟨_, rfl, wanted_none rfl, arm_pick rfl (F.at' 21 51 _ rfl (by kernel_rfl)).is (fun _ => (F.at' 24 54 _ rfl (by kernel_rfl)).is) (fun h => by cases h)⟩, ?_⟩
    refine ⟨fun a' w' F => ⟨_, rfl, wanted_none rfl, arm_move (.inl rfl) (F.at' 25 55 _ rfl (by kernel_rfl)).is⟩, ?_⟩
    refine ⟨fun a' w' F => ⟨_, rfl, wanted_some rfl rfl (F.at' 26 56 _ rfl (by kernel_rfl)), arm_load rfl (F.keep 2 (Value.pointer (some ⟨ga, 0, none⟩)) (by kernel_rfl) rfl).is (Va.mono F.below)⟩, ?_⟩
    refine ⟨fun a' w' F => ⟨_, rfl, wanted_some rfl rfl (F.at' 26 56 _ rfl (by kernel_rfl)), arm_load rfl (F.keep 3 (Value.pointer (some ⟨gb, 0, none⟩)) (by kernel_rfl) rfl).is (Vb.mono F.below)⟩, ?_⟩
    refine ⟨fun a' w' F => ⟨_, rfl, wanted_some rfl rfl (F.at' 26 56 _ rfl (by kernel_rfl)), arm_Mul rfl (F.at' 27 57 _ rfl (by kernel_rfl)).is (F.at' 28 58 _ rfl (by kernel_rfl)).is (nlb' (sm_nl fa) (by decide)) (nlb' (sm_nl fb) (by decide)) rfl⟩, ?_⟩
    refine ⟨fun a' w' F => ⟨_, rfl, wanted_some rfl rfl (F.at' 26 56 _ rfl (by kernel_rfl)), arm_load rfl (F.keep 2 (Value.pointer (some ⟨ga, 0, none⟩)) (by kernel_rfl) rfl).is (Va.mono F.below)⟩, ?_⟩
    refine ⟨fun a' w' F => ⟨_, rfl, wanted_some rfl rfl (F.at' 26 56 _ rfl (by kernel_rfl)), arm_load rfl (F.keep 3 (Value.pointer (some ⟨gb, 0, none⟩)) (by kernel_rfl) rfl).is (Vb.mono F.below)⟩, ?_⟩
    refine ⟨fun a' w' F => ⟨_, rfl, wanted_some rfl rfl (F.at' 26 56 _ rfl (by kernel_rfl)), arm_rMul rfl (F.at' 30 60 _ rfl (by kernel_rfl)).is (F.at' 31 61 _ rfl (by kernel_rfl)).is (nlb' (sm_nl fa) (by decide)) (nlb' (sm_nl fb) (by decide)) rfl⟩, ?_⟩
    refine ⟨fun a' w' F => ⟨_, rfl, wanted_some rfl rfl (F.at' 26 56 _ rfl (by kernel_rfl)), arm_Same rfl (F.at' 29 59 _ rfl (by kernel_rfl)).is (F.at' 32 62 _ rfl (by kernel_rfl)).is (nlb' (sm_mul (sm_nl fa) (sm_nl fb)) (by decide)) (nlb' (sm_mul (sm_nl fa) (sm_nl fb)) (by decide)) (decide_eq_true (rfl))⟩, ?_⟩
    refine ⟨fun a' w' F => ⟨_, rfl, wanted_none rfl, arm_pick rfl (F.at' 26 56 _ rfl (by kernel_rfl)).is (fun _ => (F.at' 33 63 _ rfl (by kernel_rfl)).is) (fun h => by cases h)⟩, ?_⟩
    refine ⟨fun a' w' F => ⟨_, rfl, wanted_none rfl, arm_move (.inl rfl) (F.at' 34 64 _ rfl (by kernel_rfl)).is⟩, ?_⟩
    refine ⟨fun a' w' F => ⟨_, rfl, wanted_some rfl rfl (F.at' 35 65 _ rfl (by kernel_rfl)), arm_load rfl (F.keep 2 (Value.pointer (some ⟨ga, 0, none⟩)) (by kernel_rfl) rfl).is (Va.mono F.below)⟩, ?_⟩
    refine ⟨fun a' w' F => ⟨_, rfl, wanted_some rfl rfl (F.at' 35 65 _ rfl (by kernel_rfl)), arm_Bits rfl (F.at' 36 66 _ rfl (by kernel_rfl)).is (nlb' (sm_nl fa) (by decide)) hZ.out⟩, ?_⟩
    refine ⟨fun a' w' F => ⟨_, rfl, wanted_some rfl rfl (F.at' 35 65 _ rfl (by kernel_rfl)), arm_load rfl (F.keep 2 (Value.pointer (some ⟨ga, 0, none⟩)) (by kernel_rfl) rfl).is (Va.mono F.below)⟩, ?_⟩
    refine ⟨fun a' w' F => ⟨_, rfl, wanted_some rfl rfl (F.at' 35 65 _ rfl (by kernel_rfl)), arm_rBits rfl (F.at' 38 68 _ rfl (by kernel_rfl)).is (nlb' (sm_nl fa) (by decide)) hZ.out⟩, ?_⟩
    refine ⟨fun a' w' F => ⟨_, rfl, wanted_some rfl rfl (F.at' 35 65 _ rfl (by kernel_rfl)), arm_bin rfl (F.at' 37 67 _ rfl (by kernel_rfl)).is (F.at' 39 69 _ rfl (by kernel_rfl)).is (fun _ => rfl) (fun w => run_eqI _ w)⟩, ?_⟩
    refine ⟨fun a' w' F => ⟨_, rfl, wanted_none rfl, arm_pick rfl (F.at' 35 65 _ rfl (by kernel_rfl)).is (fun _ => (F.at' 40 70 _ rfl (by kernel_rfl)).is) (fun h => by cases h)⟩, ?_⟩
    refine ⟨fun a' w' F => ⟨_, rfl, wanted_none rfl, arm_move (.inl rfl) (F.at' 41 71 _ rfl (by kernel_rfl)).is⟩, ?_⟩
    refine ⟨fun a' w' F => ⟨_, rfl, wanted_some rfl rfl (F.at' 42 72 _ rfl (by kernel_rfl)), arm_awake rfl⟩, ?_⟩
    refine ⟨fun a' w' F => ⟨_, rfl, wanted_none rfl, arm_pick rfl (F.at' 42 72 _ rfl (by kernel_rfl)).is (fun _ => (F.at' 43 73 _ rfl (by kernel_rfl)).is) (fun h => by cases h)⟩, ?_⟩
    refine ⟨fun a' w' F => ⟨_, rfl, wanted_none rfl, arm_move (.inr rfl) (F.at' 44 74 _ rfl (by kernel_rfl)).is⟩, ?_⟩
    exact trivial
  · intro a' w' F
    obtain ⟨v, h1, h2⟩ := F.at' 45 4 _ rfl
    have h3 : v = Value.bool true := h2
    subst h3
    rename_i hK
    refine hK a' w' ?_
    refine wp_ret ?_
    show bodyPost Try.prog Try.f9 (fun e w' => RetV w (.bool true) e w') .ret a' w'
    exact bodyPost_ret (res_tmp rfl h1) F.defers ⟨rfl, hb1.trans (F.below.mono hb1.size)⟩
end Go.Proofs.Ythpndmamegfbkaa
