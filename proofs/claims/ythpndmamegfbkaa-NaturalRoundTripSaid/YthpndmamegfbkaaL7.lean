/- NaturalRoundTrip: the walk. -/
import Derived.Test.YthpndmamegfbkaaS8
namespace Go.Proofs.Ythpndmamegfbkaa
set_option linter.unusedSimpArgs false
set_option linter.unusedVariables false
open Go.RowKit
def roundTab (ga gx m : Nat) (S : ByteArray) : List (Nat × Tmp × Sp) :=
   [(0, 17, .val (Value.string S)),
    (1, 18, .nat (m)),
    (2, 19, .val (Value.string S)),
    (3, 20, .val (Value.bool true)),
    (4, 21, .val (Value.bool true)),
    (5, 22, .val (Value.int IntKind.i64 0)),
    (6, 23, .val (Value.bool true)),
    (7, 24, .val (Value.bool true)),
    (8, 25, .val (Value.bool true)),
    (9, 26, .nat (m)),
    (10, 27, .nat (m)),
    (11, 28, .val (Value.bool true)),
    (12, 29, .val (Value.bool true)),
    (13, 30, .val (Value.bool true)),
    (14, 31, .val (Value.bool true)),
    (15, 32, .val (Value.bool true)),
    (16, 2, .val (Value.bool true))]
set_option maxRecDepth 100000 in
set_option maxHeartbeats 4000000 in
theorem c_NaturalRoundTrip (va : Value) (La m : Nat) (w : World) (ha : IsR w va La m) (hLa : La ≤ 9223372036854775807) :
    Calls Try.prog 7 #[va] w fun e w' => RetV w (.bool true) e w' := by
  obtain ⟨xa, ca, rfl, hca, ra⟩ := ha
  obtain ⟨k0, k1⟩ := box1 (L := La) (c := ca) (N := m) ⟨xa, ca, rfl, hca, ra⟩
  go_enter Try.func7, Try.ntmps7
  go_upto_region 0 with (fail)
  go_cut [1] (fun s1 wx => ∃ ga, s1 = .pointer (some ⟨ga, 0, none⟩) ∧ VarR wx ga La m ∧ Below w.heap.size w wx)
  case first =>
    go_wp2_with fail
    go_meet
    case rel => exact ⟨_, rfl, k1, k0⟩
  case rest =>
  obtain ⟨ga, rfl, Va, hb1⟩ := hcut
  clear k0 k1 hca ra
  obtain ⟨ya, da, qa, ia⟩ := Va
  have ea := qa.cell
  go_wp2_with fail
  refine (c_Few _ La m _ ia hLa).mono ?_
  rintro e w1 ⟨rfl, bb1⟩
  replace Va : VarR w1 ga La m := VarR.mono ⟨ya, da, qa, ia⟩ bb1
  replace hb1 := hb1.trans (bb1.mono hb1.size)
  clear ea qa ia bb1
  by_cases fa : La ≤ 12 ∧ nl m = La
  case neg =>
    rw [decide_eq_false fa]
    go_wp2_with fail
    refine (c_awake _).mono ?_
    rintro e w9 ⟨rfl, bb⟩
    go_wp2
    go_ret
    exact ⟨rfl, hb1.trans (bb.mono hb1.size)⟩
  rw [decide_eq_true fa]
  obtain ⟨fa, rfl⟩ := fa
  replace Va : VarI w1 ga m := Va
  obtain ⟨S, hS⟩ : ∃ S : ByteArray, Hid (fmtB m = S) := ⟨_, Lib.hid rfl⟩
  have hP : ParseIs S m 0 := by rw [← hS.out]; exact fmt_parses m fa
  have HP := Lib.hid hP
  clear hP
  obtain ⟨ya, da, qa, ia⟩ := Va
  have ea := qa.cell
  go_wp2_with fail
  refine (c_natural_Format _ m _ ia (nlb' (sm_nl fa) (by decide))).mono ?_
  rintro e z1 ⟨rfl, bb1⟩
  rw [hS.out]
  replace Va : VarI z1 ga (m) := VarI.mono ⟨ya, da, qa, ia⟩ bb1
  replace hb1 := hb1.trans (bb1.mono hb1.size)
  clear ea qa ia bb1
  go_upto_region 4 with (fail)
  go_cut [4, 5] (fun s4 s5 wx => ∃ gx, s4 = .pointer (some ⟨gx, 0, none⟩) ∧ s5 = .int .i64 0 ∧ VarI wx ga m ∧ VarI wx gx m ∧ Below w.heap.size w wx)
  case first =>
    go_wp2_with fail
    refine (c_natural_Parse S _ m 0 HP.out).mono ?_
    rintro e w9 ⟨v9, rfl, ⟨x9, c9, rfl, hc9, hx9⟩, bb⟩
    have v1 := VarB.made w9 x9 (nl m) c9
    have n1 : IsN w9 (.agg #[.slice x9 (nl m) c9]) m := NewN.isN ⟨x9, c9, rfl, hc9, hx9⟩
    have b2 := bel1 w9 (.cells #[.slice x9 (nl m) c9] 24)
    have b3 := bb.trans (b2.mono bb.size)
    go_wp2_with fail
    go_meet
    case rel => exact ⟨_, rfl, rfl, Va.mono b3, VarI.of v1 (n1.mono b2), hb1.trans (b3.mono hb1.size)⟩
  case rest =>
  clear Va hb1
  obtain ⟨gx, rfl, rfl, Va, Vx, hb1⟩ := hcut
  go_upto_region 5 with (fail)
  refine wp_tabF Try.f7 5 (roundTab ga gx m S) (by kernel_rfl) (by kernel_rfl) rfl (by kernel_rfl) (by kernel_rfl) ?_ ?_
  · refine ⟨fun a' w' F => ⟨_, rfl, wanted_none rfl, arm_move (.inl rfl) (F.keep 3 (Value.string S) (by kernel_rfl) rfl).is⟩, ?_⟩
    refine ⟨fun a' w' F => ⟨_, rfl, wanted_none rfl, arm_load rfl (F.keep 1 (Value.pointer (some ⟨ga, 0, none⟩)) (by kernel_rfl) rfl).is (Va.mono F.below)⟩, ?_⟩
    refine ⟨fun a' w' F => ⟨_, rfl, wanted_none rfl, arm_rFormat rfl (F.at' 1 18 _ rfl (by kernel_rfl)).is (nlb' (sm_nl fa) (by decide)) hS.out⟩, ?_⟩
    refine ⟨fun a' w' F => ⟨_, rfl, wanted_none rfl, arm_bin rfl (F.at' 0 17 _ rfl (by kernel_rfl)).is (F.at' 2 19 _ rfl (by kernel_rfl)).is (fun _ => rfl) (fun w => run_eqS _ w)⟩, ?_⟩
    refine ⟨fun a' w' F => ⟨_, rfl, wanted_none rfl, arm_move (.inl rfl) (F.at' 3 20 _ rfl (by kernel_rfl)).is⟩, ?_⟩
    refine ⟨fun a' w' F => ⟨_, rfl, wanted_some rfl rfl (F.at' 4 21 _ rfl (by kernel_rfl)), arm_move (.inl rfl) (F.keep 5 (Value.int IntKind.i64 0) (by kernel_rfl) rfl).is⟩, ?_⟩
    refine ⟨fun a' w' F => ⟨_, rfl, wanted_some rfl rfl (F.at' 4 21 _ rfl (by kernel_rfl)), arm_bin rfl (F.at' 5 22 _ rfl (by kernel_rfl)).is Is.const (fun _ => rfl) (fun _ => rfl)⟩, ?_⟩
    refine ⟨fun a' w' F => ⟨_, rfl, wanted_none rfl, arm_pick rfl (F.at' 4 21 _ rfl (by kernel_rfl)).is (fun _ => (F.at' 6 23 _ rfl (by kernel_rfl)).is) (fun h => by cases h)⟩, ?_⟩
    refine ⟨fun a' w' F => ⟨_, rfl, wanted_none rfl, arm_move (.inl rfl) (F.at' 7 24 _ rfl (by kernel_rfl)).is⟩, ?_⟩
    refine ⟨fun a' w' F => ⟨_, rfl, wanted_some rfl rfl (F.at' 8 25 _ rfl (by kernel_rfl)), arm_load rfl (F.keep 1 (Value.pointer (some ⟨ga, 0, none⟩)) (by kernel_rfl) rfl).is (Va.mono F.below)⟩, ?_⟩
    refine ⟨fun a' w' F => ⟨_, rfl, wanted_some rfl rfl (F.at' 8 25 _ rfl (by kernel_rfl)), arm_load rfl (F.keep 4 (Value.pointer (some ⟨gx, 0, none⟩)) (by kernel_rfl) rfl).is (Vx.mono F.below)⟩, ?_⟩
    refine ⟨fun a' w' F => ⟨_, rfl, wanted_some rfl rfl (F.at' 8 25 _ rfl (by kernel_rfl)), arm_Same rfl (F.at' 9 26 _ rfl (by kernel_rfl)).is (F.at' 10 27 _ rfl (by kernel_rfl)).is (nlb' (sm_nl fa) (by decide)) (nlb' (sm_nl fa) (by decide)) (decide_eq_true (rfl))⟩, ?_⟩
    refine ⟨fun a' w' F => ⟨_, rfl, wanted_none rfl, arm_pick rfl (F.at' 8 25 _ rfl (by kernel_rfl)).is (fun _ => (F.at' 11 28 _ rfl (by kernel_rfl)).is) (fun h => by cases h)⟩, ?_⟩
    refine ⟨fun a' w' F => ⟨_, rfl, wanted_none rfl, arm_move (.inl rfl) (F.at' 12 29 _ rfl (by kernel_rfl)).is⟩, ?_⟩
    refine ⟨fun a' w' F => ⟨_, rfl, wanted_some rfl rfl (F.at' 13 30 _ rfl (by kernel_rfl)), arm_awake rfl⟩, ?_⟩
    refine ⟨fun a' w' F => ⟨_, rfl, wanted_none rfl, arm_pick rfl (F.at' 13 30 _ rfl (by kernel_rfl)).is (fun _ => (F.at' 14 31 _ rfl (by kernel_rfl)).is) (fun h => by cases h)⟩, ?_⟩
    refine ⟨fun a' w' F => ⟨_, rfl, wanted_none rfl, arm_move (.inr rfl) (F.at' 15 32 _ rfl (by kernel_rfl)).is⟩, ?_⟩
    exact trivial
  · intro a' w' F
    obtain ⟨v, h1, h2⟩ := F.at' 16 2 _ rfl
    have h3 : v = Value.bool true := h2
    subst h3
    rename_i hK
    refine hK a' w' ?_
    refine wp_ret ?_
    show bodyPost Try.prog Try.f7 (fun e w' => RetV w (.bool true) e w') .ret a' w'
    exact bodyPost_ret (res_tmp rfl h1) F.defers ⟨rfl, hb1.trans (F.below.mono hb1.size)⟩
end Go.Proofs.Ythpndmamegfbkaa
