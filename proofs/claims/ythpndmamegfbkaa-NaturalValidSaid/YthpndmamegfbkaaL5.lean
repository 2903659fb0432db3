/- NaturalValid: the walk. -/
import Derived.Test.YthpndmamegfbkaaS5
import Derived.OpenShut
namespace Go.Proofs.Ythpndmamegfbkaa
set_option linter.unusedSimpArgs false
set_option linter.unusedVariables false
open Go.RowKit
theorem bounds_u64' {n : Int} (h : (Lit.int .u64 n).wf = true) : 0 ≤ n ∧ n ≤ 18446744073709551615 := by
  simp [Lit.wf, IntKind.min, IntKind.max, IntKind.signed, IntKind.bits] at h
  omega
def validTab (ga gx La m n : Nat) (B : Bool) : List (Nat × Tmp × Sp) :=
   [(0, 34, .raw La m),
    (1, 35, .val (Value.bool B)),
    (2, 36, .raw La m),
    (3, 37, .val (Value.bool B)),
    (4, 38, .val (Value.bool true)),
    (5, 39, .val (Value.bool true)),
    (6, 40, .nat (n)),
    (7, 41, .val (Value.bool true)),
    (8, 42, .val (Value.bool true)),
    (9, 43, .val (Value.bool true)),
    (10, 44, .nat (n)),
    (11, 45, .val (Value.bool true)),
    (12, 46, .val (Value.bool true)),
    (13, 47, .val (Value.bool true)),
    (14, 48, .val (Value.int IntKind.u64 (n : Int))),
    (15, 49, .val (Value.int IntKind.u64 (n : Int))),
    (16, 50, .val (Value.bool true)),
    (17, 51, .val (Value.bool true)),
    (18, 52, .val (Value.bool true)),
    (19, 53, .val (Value.bool true)),
    (20, 54, .val (Value.bool true)),
    (21, 4, .val (Value.bool true))]
set_option maxRecDepth 100000 in
set_option maxHeartbeats 4000000 in
theorem c_NaturalValid (va : Value) (La m : Nat) (u : Int) (w : World) (ha : IsR w va La m) (hLa : La ≤ 9223372036854775807) (hu : (Lit.int .u64 u).wf = true) :
    Calls Try.prog 10 #[va, .int .u64 u] w fun e w' => RetV w (.bool true) e w' := by
  obtain ⟨xa, ca, rfl, hca, ra⟩ := ha
  obtain ⟨n, rfl⟩ : ∃ n : Nat, u = (n : Int) := ⟨u.toNat, by have := bounds_u64' hu; omega⟩
  have hn : n < 18446744073709551616 := by have := bounds_u64' hu; omega
  obtain ⟨k0, k1⟩ := box1 (L := La) (c := ca) (N := m) ⟨xa, ca, rfl, hca, ra⟩
  go_enter Try.func10, Try.ntmps10
  go_upto_region 0 with (fail)
  go_cut [2] (fun s2 wx => ∃ ga, s2 = .pointer (some ⟨ga, 0, none⟩) ∧ VarR wx ga La m ∧ Below w.heap.size w wx)
  case first =>
    go_wp2_with fail
    go_meet
    case rel => exact ⟨_, rfl, k1, k0⟩
  case rest =>
  obtain ⟨ga, rfl, Va, hb1⟩ := hcut
  clear k0 k1 hca ra
  have Va' := Va
  obtain ⟨ya, da, qa, ia⟩ := Va'
  have ea := qa.cell
  by_cases hf : (12 : Int) < (La : Int)
  case pos =>
    go_wp2_with fail
    refine (c_awake _).mono ?_
    rintro e w9 ⟨rfl, bb⟩
    go_wp2
    go_ret
    exact ⟨rfl, hb1.trans (bb.mono hb1.size)⟩
  have hLa' : La ≤ 60000000000000 := by omega
  go_upto_region 3 with (fail)
  clear ea qa ia
  go_cut [5] (fun s5 wx => ∃ gx, s5 = .pointer (some ⟨gx, 0, none⟩) ∧ VarR wx ga La m ∧ VarI wx gx n ∧ Below w.heap.size w wx)
  case first =>
    go_wp2_with fail
    refine (c_natural_Of n _ hn).mono ?_
    rintro e w9 ⟨v9, rfl, ⟨x9, c9, rfl, hc9, hx9⟩, bb⟩
    have v1 := VarB.made w9 x9 (nl n) c9
    have n1 : IsN w9 (.agg #[.slice x9 (nl n) c9]) n := NewN.isN ⟨x9, c9, rfl, hc9, hx9⟩
    have b2 := bel1 w9 (.cells #[.slice x9 (nl n) c9] 24)
    have b3 := bb.trans (b2.mono bb.size)
    go_wp2_with fail
    go_meet
    case rel => exact ⟨_, rfl, Va.mono b3, VarI.of v1 (n1.mono b2), hb1.trans (b3.mono hb1.size)⟩
  case rest =>
  clear Va hb1
  obtain ⟨gx, rfl, Va, Vx, hb1⟩ := hcut
  have hn2 : nl n ≤ 2 := nl_le_iff.2 (by rw [show (4294967296 : Nat) ^ 2 = 18446744073709551616 from rfl]; exact hn)
  obtain ⟨yx, dx, qx, ix⟩ := Vx
  have ex := qx.cell
  have rx := ix
  obtain ⟨ax, cx, ex1, hcx, rx⟩ := rx
  simp only [Value.agg.injEq, Array.mk.injEq, List.cons.injEq, Value.slice.injEq, and_true, true_and] at ex1
  obtain ⟨rfl, rfl⟩ := ex1
  have Vx : VarI wc gx n := ⟨_, _, qx, ix⟩
  go_upto_block 0 with (fail)
  go_cut [6] (fun s6 wx => s6 = .int .u64 (n : Int) ∧ wx = wc)
  case first =>
    go_wp2_with fail
    go_loopw [6, 7] (fun s6 s7 wr => ∃ k S : Nat, k ≤ nl n ∧ s7 = .int .i64 ((k : Int) - 1) ∧ s6 = .int .u64 (S : Int) ∧ Hid (S = n / 4294967296 ^ k) ∧ wr = wc) (fun _ s7 _ => ((intOf s7) + 1).toNat)
    case atStart => exact ⟨nl n, 0, Nat.le_refl _, rfl, rfl, Lib.hid (by rw [Nat.div_eq_of_lt (lt_nl n)]), rfl⟩
    case round =>
      obtain ⟨k, S, hk, rfl, rfl, HS, rfl⟩ := hrel
      cases k with
      | zero =>
        obtain rfl : S = n := by have := HS.out; rw [Nat.pow_zero, Nat.div_one] at this; exact this
        go_wp2_with fail
        go_meet
        case rel => exact ⟨rfl, rfl⟩
      | succ k =>
        have e : (((k + 1 : Nat) : Int) - 1) = (k : Int) := by omega
        simp only [e]
        clear e
        have hk1 : ¬ (1 : Int) < (k : Int) := by omega
        obtain ⟨b1, o1, e1, h1⟩ := rx.cells (by omega)
        have d1 := h1 k (by omega)
        subst e1
        have hst := div_step n k
        have hd := D_lt n k
        obtain ⟨T, hT⟩ : ∃ T : Nat, Hid (T = n / 4294967296 ^ k) := ⟨_, Lib.hid rfl⟩
        have hTn : T ≤ n := by rw [hT.out]; exact Nat.div_le_self _ _
        have hTS : T = 4294967296 * S + D n k := by rw [hT.out, HS.out]; exact hst
        have hmul : (S : Int) * 4294967296 ≤ 18446744073709551615 := by omega
        have hsum : (S : Int) * 4294967296 + ((D n k : Nat) : Int) = (T : Int) := by omega
        have hTb : T ≤ 18446744073709551615 := by omega
        have HTS := Lib.hid hTS
        clear hTS hst
        go_wp2_with fail
        go_roundw
        case rel => exact ⟨k, T, by omega, by go_num, by go_num, hT, trivial⟩
        case measure => simp [intOf] <;> omega
  case rest =>
  obtain ⟨rfl, rfl⟩ := hcut
  obtain ⟨B, hB⟩ : ∃ B : Bool, Hid (decide (La = nl m) = B) := ⟨_, Lib.hid rfl⟩
  have hB2 : decide (nl m = La) = B := by rw [← hB.out, decide_eq_decide]; exact eq_comm
  go_upto_region 11 with (fail)
  refine wp_tab Try.f10 11 (validTab ga gx La m n B) (by kernel_rfl) (by kernel_rfl) rfl (by kernel_rfl) (by kernel_rfl) ?_ ?_
  · refine ⟨fun a' w' F => ⟨_, rfl, wanted_none rfl, arm_loadR rfl (F.keep 2 (Value.pointer (some ⟨ga, 0, none⟩)) (by kernel_rfl) rfl).is (Va.mono F.below)⟩, ?_⟩
    refine ⟨fun a' w' F => ⟨_, rfl, wanted_none rfl, arm_Valid rfl (F.at' 0 34 _ rfl (by kernel_rfl)).is hLa' hB.out⟩, ?_⟩
    refine ⟨fun a' w' F => ⟨_, rfl, wanted_none rfl, arm_loadR rfl (F.keep 2 (Value.pointer (some ⟨ga, 0, none⟩)) (by kernel_rfl) rfl).is (Va.mono F.below)⟩, ?_⟩
    refine ⟨fun a' w' F => ⟨_, rfl, wanted_none rfl, arm_rValid rfl (F.at' 2 36 _ rfl (by kernel_rfl)).is hLa' hB2⟩, ?_⟩
    refine ⟨fun a' w' F => ⟨_, rfl, wanted_none rfl, arm_bin rfl (F.at' 1 35 _ rfl (by kernel_rfl)).is (F.at' 3 37 _ rfl (by kernel_rfl)).is (fun _ => rfl) (fun w => run_eqB _ w)⟩, ?_⟩
    refine ⟨fun a' w' F => ⟨_, rfl, wanted_none rfl, arm_move (.inl rfl) (F.at' 4 38 _ rfl (by kernel_rfl)).is⟩, ?_⟩
    refine ⟨fun a' w' F => ⟨_, rfl, wanted_some rfl rfl (F.at' 5 39 _ rfl (by kernel_rfl)), arm_load rfl (F.keep 5 (Value.pointer (some ⟨gx, 0, none⟩)) (by kernel_rfl) rfl).is (Vx.mono F.below)⟩, ?_⟩
    refine ⟨fun a' w' F => ⟨_, rfl, wanted_some rfl rfl (F.at' 5 39 _ rfl (by kernel_rfl)), arm_Valid (m := n) (L := nl n) rfl (F.at' 6 40 _ rfl (by kernel_rfl)).is (by omega) (decide_eq_true rfl)⟩, ?_⟩
    refine ⟨fun a' w' F => ⟨_, rfl, wanted_none rfl, arm_pick rfl (F.at' 5 39 _ rfl (by kernel_rfl)).is (fun _ => (F.at' 7 41 _ rfl (by kernel_rfl)).is) (fun h => by cases h)⟩, ?_⟩
    refine ⟨fun a' w' F => ⟨_, rfl, wanted_none rfl, arm_move (.inl rfl) (F.at' 8 42 _ rfl (by kernel_rfl)).is⟩, ?_⟩
    refine ⟨fun a' w' F => ⟨_, rfl, wanted_some rfl rfl (F.at' 9 43 _ rfl (by kernel_rfl)), arm_load rfl (F.keep 5 (Value.pointer (some ⟨gx, 0, none⟩)) (by kernel_rfl) rfl).is (Vx.mono F.below)⟩, ?_⟩
    refine ⟨fun a' w' F => ⟨_, rfl, wanted_some rfl rfl (F.at' 9 43 _ rfl (by kernel_rfl)), arm_rValid (m := n) (L := nl n) rfl (F.at' 10 44 _ rfl (by kernel_rfl)).is (by omega) (decide_eq_true rfl)⟩, ?_⟩
    refine ⟨fun a' w' F => ⟨_, rfl, wanted_none rfl, arm_pick rfl (F.at' 9 43 _ rfl (by kernel_rfl)).is (fun _ => (F.at' 11 45 _ rfl (by kernel_rfl)).is) (fun h => by cases h)⟩, ?_⟩
    refine ⟨fun a' w' F => ⟨_, rfl, wanted_none rfl, arm_move (.inl rfl) (F.at' 12 46 _ rfl (by kernel_rfl)).is⟩, ?_⟩
    refine ⟨fun a' w' F => ⟨_, rfl, wanted_some rfl rfl (F.at' 13 47 _ rfl (by kernel_rfl)), arm_move (.inl rfl) (F.keep 6 (Value.int IntKind.u64 (n : Int)) (by kernel_rfl) rfl).is⟩, ?_⟩
    refine ⟨fun a' w' F => ⟨_, rfl, wanted_some rfl rfl (F.at' 13 47 _ rfl (by kernel_rfl)), arm_move (.inl rfl) (F.keep 1 (Value.int IntKind.u64 (n : Int)) (by kernel_rfl) rfl).is⟩, ?_⟩
    refine ⟨fun a' w' F => ⟨_, rfl, wanted_some rfl rfl (F.at' 13 47 _ rfl (by kernel_rfl)), arm_bin rfl (F.at' 14 48 _ rfl (by kernel_rfl)).is (F.at' 15 49 _ rfl (by kernel_rfl)).is (fun _ => rfl) (fun w => run_eqU _ w)⟩, ?_⟩
    refine ⟨fun a' w' F => ⟨_, rfl, wanted_none rfl, arm_pick rfl (F.at' 13 47 _ rfl (by kernel_rfl)).is (fun _ => (F.at' 16 50 _ rfl (by kernel_rfl)).is) (fun h => by cases h)⟩, ?_⟩
    refine ⟨fun a' w' F => ⟨_, rfl, wanted_none rfl, arm_move (.inl rfl) (F.at' 17 51 _ rfl (by kernel_rfl)).is⟩, ?_⟩
    refine ⟨fun a' w' F => ⟨_, rfl, wanted_some rfl rfl (F.at' 18 52 _ rfl (by kernel_rfl)), arm_awake rfl⟩, ?_⟩
    refine ⟨fun a' w' F => ⟨_, rfl, wanted_none rfl, arm_pick rfl (F.at' 18 52 _ rfl (by kernel_rfl)).is (fun _ => (F.at' 19 53 _ rfl (by kernel_rfl)).is) (fun h => by cases h)⟩, ?_⟩
    refine ⟨fun a' w' F => ⟨_, rfl, wanted_none rfl, arm_move (.inr rfl) (F.at' 20 54 _ rfl (by kernel_rfl)).is⟩, ?_⟩
    exact trivial
  · intro a' w' F
    obtain ⟨v, h1, h2⟩ := F.at' 21 4 _ rfl
    have h3 : v = Value.bool true := h2
    subst h3
    rename_i hK
    refine hK a' w' ?_
    refine wp_ret ?_
    show bodyPost Try.prog Try.f10 (fun e w' => RetV w (.bool true) e w') .ret a' w'
    exact bodyPost_ret (res_tmp rfl h1) F.defers ⟨rfl, hb1.trans (F.below.mono hb1.size)⟩
end Go.Proofs.Ythpndmamegfbkaa
