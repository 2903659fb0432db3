/- Floor of the reference. -/
import Derived.Test.YtldnimohnbjfaaaP12
namespace Go.Proofs.Ytldnimohnbjfaaa
set_option linter.unusedSimpArgs false
set_option linter.unusedVariables false
set_option maxRecDepth 100000
open Go.RowKit
theorem low_step (m k : Nat) : m / 4294967296 ^ k = 4294967296 * (m / 4294967296 ^ (k + 1)) + D m k := by
  unfold D
  rw [Nat.pow_succ, ← Nat.div_div_eq_div_mul]; omega
theorem low_val (m k : Nat) (hm : m < 18446744073709551616) : IntKind.u64.wrap (IntKind.u64.wrap ((m : Int) / 4294967296 ^ (k + 1) * 4294967296) + (D m k : Int)) = ((m / 4294967296 ^ k : Nat) : Int) := by
  have e : ((m : Int) / 4294967296 ^ (k + 1)) = ((m / 4294967296 ^ (k + 1) : Nat) : Int) := by simp
  have h1 := low_step m k
  have h2 : m / 4294967296 ^ k ≤ m := Nat.div_le_self _ _
  rw [e, Go.IntWalk.u64_in (((m / 4294967296 ^ (k + 1) : Nat) : Int) * 4294967296) ⟨by omega, by omega⟩, Go.IntWalk.u64_in _ ⟨by omega, by omega⟩]
  omega
theorem cmpI_pos {m n : Nat} : 0 < cmpI m n ↔ n < m := by
  unfold cmpI; split
  · constructor <;> intro h <;> omega
  · split <;> constructor <;> intro h <;> omega
theorem cmpI_nn {m n : Nat} : 0 ≤ cmpI m n ↔ n ≤ m := by
  unfold cmpI; split
  · constructor <;> intro h <;> omega
  · split <;> constructor <;> intro h <;> omega
set_option maxHeartbeats 4000000 in
theorem c_low (va : Value) (m : Nat) (w : World) (ha : IsN w va m) (hm : m < 18446744073709551616) :
    Calls Try.prog 71 #[va] w fun e w' => RetV w (.int .u64 (m : Int)) e w' := by
  have hm2 : nl m ≤ 2 := nl_le_iff.2 (by show m < 18446744073709551616; omega)
  obtain ⟨a0, c0, rfl, m0, k0⟩ := boxN ha
  clear ha
  go_enter Try.func71, Try.ntmps71
  go_upto_region 0 with (fail)
  go_cut [1, 2] (fun s_1 s_2 wx => s_1 = Value.pointer (some ⟨w.heap.size, 0, none⟩) ∧ s_2 = Value.int IntKind.u64 0 ∧ VarI wx w.heap.size m ∧ Below w.heap.size w wx)
  case first =>
    go_wp2_with fail
    go_meet
    case rel => exact ⟨rfl, rfl, k0, m0⟩
  case rest =>
  clear m0 k0
  obtain ⟨rfl, rfl, V0, hb1⟩ := hcut
  obtain ⟨y4, d4, q4, i4⟩ := V0
  have e4 := q4.cell
  obtain ⟨y, d, ey, hcy, r4⟩ := i4
  simp only [Value.agg.injEq, Array.mk.injEq, List.cons.injEq, Value.slice.injEq, and_true, true_and] at ey
  obtain ⟨rfl, rfl⟩ := ey
  go_wp2_with fail
  go_loopw [3, 4] (fun s3 s4 wr => ∃ k : Nat, k ≤ nl m ∧ s4 = .int .i64 ((k : Int) - 1) ∧ s3 = .int .u64 ((m / 4294967296 ^ k : Nat) : Int) ∧ wr = wc) (fun _ s4 _ => (intOf s4 + 1).toNat)
  case atStart => exact ⟨nl m, Nat.le_refl _, rfl, by rw [Nat.div_eq_of_lt (lt_nl m)]; rfl, rfl⟩
  case round =>
    obtain ⟨k, hk, rfl, rfl, rfl⟩ := hrel
    by_cases hlt : 0 < k
    · obtain ⟨k, rfl⟩ : ∃ j, k = j + 1 := ⟨k - 1, by omega⟩
      obtain ⟨b1, o1, rfl, h1⟩ := r4.cells (by omega)
      have d1 := h1 k (by omega)
      have hd := D_lt m k
      have e1 : (((k + 1 : Nat) : Int) - 1) = (k : Int) := by omega
      rw [e1] at *
      go_wp2_with fail
      go_roundw
      case rel => (exact ⟨k, by omega, rfl, congrArg _ (low_val m k hm), trivial⟩)
      case measure => simp [intOf] <;> omega
    · obtain rfl : k = 0 := by omega
      go_wp2_with fail
      go_wp2
      go_ret
      exact ⟨by simp, hb1⟩
def rFloorT0 (w : World) (xp : Nat) (xq : Nat) (R : Nat) (m : Nat) (R : Nat) (base : Nat) : List (Nat × Tmp × Sp) :=
   [(0, 8, .val (Value.pointer (some ⟨w.heap.size, 1, none⟩))),
    (1, 9, .nat (xp)),
    (2, 10, .val (Value.pointer (some ⟨w.heap.size, 2, none⟩))),
    (3, 11, .nat (xq)),
    (4, 12, .trip (.nat (m)) (.nat (R)) (.val (Value.int IntKind.i64 0))),
    (5, 7, .trip (.nat (m)) (.nat (R)) (.val (Value.int IntKind.i64 0))),
    (6, 13, .nat (m)),
    (7, 14, .nat (R)),
    (8, 15, .val (Value.int IntKind.i64 0)),
    (9, 4, .var base),
    (10, 5, .var base)]
def rFloorT1 (w : World) (R : Nat) (R : Nat) : List (Nat × Tmp × Sp) :=
   [(0, 16, .val (Value.pointer (some ⟨w.heap.size, 0, none⟩))),
    (1, 17, .val (Value.bool true)),
    (2, 18, .val (Value.bool true)),
    (3, 19, .nat (R)),
    (4, 20, .val (Value.bool true)),
    (5, 21, .val (Value.bool false)),
    (6, 22, .val (Value.bool false))]
def rFloorT2 (w : World) : List (Nat × Tmp × Sp) :=
   [(0, 26, .val (Value.pointer (some ⟨w.heap.size, 0, none⟩))),
    (1, 27, .val (Value.bool true))]
def rFloorT3 (m : Nat) (C : Int) : List (Nat × Tmp × Sp) :=
   [(0, 28, .nat (m)),
    (1, 29, .nat (9223372036854775808)),
    (2, 30, .val (Value.int IntKind.i64 C)),
    (3, 31, .val (Value.bool false))]
def rFloorT4 (m : Nat) (C : Int) : List (Nat × Tmp × Sp) :=
   [(0, 28, .nat (m)),
    (1, 29, .nat (9223372036854775808)),
    (2, 30, .val (Value.int IntKind.i64 C)),
    (3, 31, .val (Value.bool true))]
def rFloorT5 (w : World) (xp : Nat) (xq : Nat) (Dq : Nat) (R : Nat) (Dq : Nat) (R : Nat) (base : Nat) : List (Nat × Tmp × Sp) :=
   [(0, 8, .val (Value.pointer (some ⟨w.heap.size, 1, none⟩))),
    (1, 9, .nat (xp)),
    (2, 10, .val (Value.pointer (some ⟨w.heap.size, 2, none⟩))),
    (3, 11, .nat (xq)),
    (4, 12, .trip (.nat (Dq)) (.nat (R)) (.val (Value.int IntKind.i64 0))),
    (5, 7, .trip (.nat (Dq)) (.nat (R)) (.val (Value.int IntKind.i64 0))),
    (6, 13, .nat (Dq)),
    (7, 14, .nat (R)),
    (8, 15, .val (Value.int IntKind.i64 0)),
    (9, 4, .var base),
    (10, 5, .var base)]
def rFloorT6 (w : World) (R : Nat) (R : Nat) : List (Nat × Tmp × Sp) :=
   [(0, 16, .val (Value.pointer (some ⟨w.heap.size, 0, none⟩))),
    (1, 17, .val (Value.bool true)),
    (2, 18, .val (Value.bool true)),
    (3, 19, .nat (R)),
    (4, 20, .val (Value.bool false)),
    (5, 21, .val (Value.bool true)),
    (6, 22, .val (Value.bool true))]
def rFloorT7 (Dq : Nat) (m : Nat) (Dq : Nat) : List (Nat × Tmp × Sp) :=
   [(0, 23, .nat (Dq)),
    (1, 24, .nat (1)),
    (2, 25, .nat (m))]
def rFloorT8 (w : World) : List (Nat × Tmp × Sp) :=
   [(0, 26, .val (Value.pointer (some ⟨w.heap.size, 0, none⟩))),
    (1, 27, .val (Value.bool true))]
def rFloorT9 (m : Nat) (C : Int) : List (Nat × Tmp × Sp) :=
   [(0, 28, .nat (m)),
    (1, 29, .nat (9223372036854775808)),
    (2, 30, .val (Value.int IntKind.i64 C)),
    (3, 31, .val (Value.bool false))]
def rFloorT10 (m : Nat) (C : Int) : List (Nat × Tmp × Sp) :=
   [(0, 28, .nat (m)),
    (1, 29, .nat (9223372036854775808)),
    (2, 30, .val (Value.int IntKind.i64 C)),
    (3, 31, .val (Value.bool true))]
def rFloorT11 (w : World) (xp : Nat) (xq : Nat) (R : Nat) (m : Nat) (R : Nat) (base : Nat) : List (Nat × Tmp × Sp) :=
   [(0, 8, .val (Value.pointer (some ⟨w.heap.size, 1, none⟩))),
    (1, 9, .nat (xp)),
    (2, 10, .val (Value.pointer (some ⟨w.heap.size, 2, none⟩))),
    (3, 11, .nat (xq)),
    (4, 12, .trip (.nat (m)) (.nat (R)) (.val (Value.int IntKind.i64 0))),
    (5, 7, .trip (.nat (m)) (.nat (R)) (.val (Value.int IntKind.i64 0))),
    (6, 13, .nat (m)),
    (7, 14, .nat (R)),
    (8, 15, .val (Value.int IntKind.i64 0)),
    (9, 4, .var base),
    (10, 5, .var base)]
def rFloorT12 (w : World) : List (Nat × Tmp × Sp) :=
   [(0, 16, .val (Value.pointer (some ⟨w.heap.size, 0, none⟩))),
    (1, 17, .val (Value.bool false)),
    (2, 18, .val (Value.bool false)),
    (3, 19, .val undef),
    (4, 20, .val undef),
    (5, 21, .val undef),
    (6, 22, .val (Value.bool false))]
def rFloorT13 (w : World) : List (Nat × Tmp × Sp) :=
   [(0, 26, .val (Value.pointer (some ⟨w.heap.size, 0, none⟩))),
    (1, 27, .val (Value.bool false))]
def rFloorT14 (m : Nat) (C : Int) : List (Nat × Tmp × Sp) :=
   [(0, 38, .nat (m)),
    (1, 39, .nat (9223372036854775808)),
    (2, 40, .val (Value.int IntKind.i64 C)),
    (3, 41, .val (Value.bool false))]
def rFloorT15 (m : Nat) (C : Int) : List (Nat × Tmp × Sp) :=
   [(0, 38, .nat (m)),
    (1, 39, .nat (9223372036854775808)),
    (2, 40, .val (Value.int IntKind.i64 C)),
    (3, 41, .val (Value.bool true))]
set_option maxHeartbeats 4000000 in
set_option maxRecDepth 20000 in
theorem q_rFloor (va : Value) (x : Fq) (w : World) (ha : IsQ w va x) (h : x.ok 1000000000) :
    Calls Try.prog 33 #[va] w fun e w' => RetFl w x.floor e w' := by
  obtain ⟨xs, xp, xq⟩ := x
  have bp : nl xp ≤ 1000000000000 := Nat.le_trans h.p (by decide)
  have bq : nl xq ≤ 1000000000000 := Nat.le_trans h.q (by decide)
  have HQ : Hid (xq ≠ 0) := Lib.hid h.n
  obtain ⟨Dq, hDq⟩ : ∃ N : Nat, Hid (N = xp / xq) := ⟨_, Lib.hid rfl⟩
  obtain ⟨R, hR⟩ : ∃ N : Nat, Hid (N = xp % xq) := ⟨_, Lib.hid rfl⟩
  obtain ⟨m, hm⟩ : ∃ N : Nat, Hid (N = (Fq.mk xs xp xq).flM) := ⟨_, Lib.hid rfl⟩
  have bD : nl Dq ≤ 1000000000000 := Nat.le_trans (by rw [hDq.out]; exact nl_mono (Nat.div_le_self _ _)) bp
  have bR : nl R ≤ 1000000000000 := Nat.le_trans (by rw [hR.out]; exact nl_mono (Nat.mod_le _ _)) bp
  have bm : nl m ≤ 1000000000000 := by have h2 : m ≤ xp / xq + 1 := (by rw [hm.out]; unfold Fq.flM; split <;> simp only [] <;> omega); exact Nat.le_trans (nl_mono h2) (Nat.le_trans (nl_add2 (Nat.le_trans (nl_mono (Nat.div_le_self _ _)) h.p) (show nl 1 ≤ 1000000000 by decide)) (by decide))
  have bpp : nl xp ≤ 100000000000 := Nat.le_trans h.p (by decide)
  have bqq : nl xq ≤ 100000000000 := Nat.le_trans h.q (by decide)
  obtain ⟨r, hr⟩ : ∃ r, Hid (r = (Fq.mk xs xp xq).floor) := ⟨_, Lib.hid rfl⟩
  rw [← hr.out]
  have hF : Hid (r = if xs then (if m ≤ 9223372036854775808 then (-(m : Int), true) else (0, false)) else (if m < 9223372036854775808 then ((m : Int), true) else (0, false))) := Lib.hid (by rw [hr.out, hm.out]; rfl)
  clear hr
  obtain ⟨C, hC⟩ : ∃ C : Int, Hid (cmpI m 9223372036854775808 = C) := ⟨_, Lib.hid rfl⟩
  rcases Bool.eq_false_or_eq_true xs with rfl | rfl
  · by_cases hr : R = 0
    · have HR : Hid (decide (R = 0) = true) := Lib.hid (decide_eq_true hr)
      have hDm : Hid (m = xp / xq) := Lib.hid (by rw [hm.out]; unfold Fq.flM; rw [if_neg]; rintro ⟨_, h2⟩; exact h2 (by rw [← hr, hR.out]))
      clear hr
      obtain ⟨a0, c0, b0, d0, rfl, m0, k0⟩ := boxF ha
      clear ha
      go_enter Try.func33, Try.ntmps33
      go_upto_region 0 with (fail)
      go_cut [1, 2, 3] (fun s_1 s_2 s_3 wx => s_1 = Value.pointer (some ⟨w.heap.size, 0, none⟩) ∧ s_2 = Value.int IntKind.i64 0 ∧ s_3 = Value.bool false ∧ VarQ wx w.heap.size (Fq.mk true xp xq) ∧ Below w.heap.size w wx)
      case first =>
        go_wp2_with fail
        go_meet
        case rel => exact ⟨rfl, rfl, rfl, k0, m0⟩
      case rest =>
      clear m0 k0
      obtain ⟨rfl, rfl, rfl, V0, hb1⟩ := hcut
      go_upto_region 1 with (fail)
      go_cut [4, 5] (fun s_4 s_5 wx => ∃ g4 g5, s_4 = Value.pointer (some ⟨g4, 0, none⟩) ∧ s_5 = Value.pointer (some ⟨g5, 0, none⟩) ∧ w.heap.size + 1 ≤ g4 ∧ w.heap.size + 1 ≤ g5 ∧ g4 ≠ g5 ∧ VarI wx g4 m ∧ VarI wx g5 R ∧ VarQ wx w.heap.size (Fq.mk true xp xq) ∧ Below w.heap.size w wx)
      case first =>
        obtain ⟨base, hbase0⟩ : ∃ b : Nat, Hid (b = wc.heap.size) := ⟨_, Lib.hid rfl⟩
        have hbase : base ≤ wc.heap.size := by rw [hbase0.out]; exact Nat.le_refl _
        have hbw : w.heap.size + 1 ≤ base := by have := hb1.size; have h1 := V0.lt; rw [hbase0.out]; omega
        have l_V0 : w.heap.size < base := by rw [hbase0.out]; exact V0.lt
        refine wp_tabGF Try.f33 1 (rFloorT0 w xp xq R m R base) [7, 8] (fun i => i == 9 || i == 10) 8 3 (by kernel_rfl) (by kernel_rfl) (by kernel_rfl) (by kernel_rfl) (by kernel_rfl) ⟨fun h => (by cases h), ⟨fun h => (by cases h), ⟨fun h => (by cases h), ⟨fun h => (by cases h), ⟨fun h => (by cases h), ⟨fun h => (by cases h), ⟨fun h => (by cases h), ⟨fun h => (by cases h), ⟨fun h => (by cases h), ⟨fun _ w v h => Sp.var_lt h, ⟨fun _ w v h => Sp.var_lt h, trivial⟩⟩⟩⟩⟩⟩⟩⟩⟩⟩⟩ ?_ ?_
        · refine ⟨fun a' w' F => StepG.run rfl (wanted_none rfl) (arm_fieldF rfl (F.keep 1 (Value.pointer (some ⟨w.heap.size, 0, none⟩)) (by kernel_rfl) rfl).is (run_field1 _)).b, ?_⟩
          refine ⟨fun a' w' F => StepG.run rfl (wanted_none rfl) (arm_load1 rfl (F.at' 0 8 _ rfl (by kernel_rfl)).is (V0.mono F.below)).b, ?_⟩
          refine ⟨fun a' w' F => StepG.run rfl (wanted_none rfl) (arm_fieldF rfl (F.keep 1 (Value.pointer (some ⟨w.heap.size, 0, none⟩)) (by kernel_rfl) rfl).is (run_field2 _)).b, ?_⟩
          refine ⟨fun a' w' F => StepG.run rfl (wanted_none rfl) (arm_load2 rfl (F.at' 2 10 _ rfl (by kernel_rfl)).is (V0.mono F.below)).b, ?_⟩
          refine ⟨fun a' w' F => StepG.run rfl (wanted_none rfl) (arm_C2 rfl (enters Try.func66 rfl rfl) (F.at' 1 9 _ rfl (by kernel_rfl)).is (F.at' 3 11 _ rfl (by kernel_rfl)).is (fun va vb w h1 h2 => c_ref_DivMod va vb xp xq w h1 h2 bpp bqq HQ.out) (fun _ _ h => by rw [hDm.out]; rw [hR.out]; exact ofDiv h)).b, ?_⟩
          refine ⟨fun a' w' F => StepG.run rfl (wanted_none rfl) (arm_move (.inl rfl) (F.at' 4 12 _ rfl (by kernel_rfl)).is).b, ?_⟩
          refine ⟨fun a' w' F => StepG.run rfl (wanted_none rfl) (arm_trip0 rfl (F.at' 5 7 _ rfl (by kernel_rfl)).is).b, ?_⟩
          refine ⟨fun a' w' F => StepG.run rfl (wanted_none rfl) (arm_trip1 rfl (F.at' 5 7 _ rfl (by kernel_rfl)).is).b, ?_⟩
          refine ⟨fun a' w' F => StepG.run rfl (wanted_none rfl) (arm_trip2 rfl (F.at' 5 7 _ rfl (by kernel_rfl)).is).b, ?_⟩
          refine ⟨fun a' w' F => StepG.run rfl (wanted_none rfl) (arm_alloc rfl (Nat.le_trans hbase F.below.size)), ?_⟩
          refine ⟨fun a' w' F => StepG.run rfl (wanted_none rfl) (arm_alloc rfl (Nat.le_trans hbase F.below.size)), ?_⟩
          exact trivial
        intro E' hE gp wp bp G Gs
        simp only [subs, List.map_cons, List.map_nil, List.nil_append, List.cons_append, List.mem_cons, List.not_mem_nil, or_false, List.append_nil] at hE
        rcases hE with rfl | rfl | rfl | rfl
        · obtain ⟨g4, e_9, lg_9, hv_9⟩ := G 9 4 _ (by simp) rfl
          obtain ⟨g5, e_10, lg_10, hv_10⟩ := G 10 5 _ (by simp) rfl
          have n_6 : (Sp.nat (m)).p wp (gp 6) := G 6 13 _ (by simp) rfl
          have n_7 : (Sp.nat (R)).p wp (gp 7) := G 7 14 _ (by simp) rfl
          have e_8 : gp 8 = Value.int IntKind.i64 0 := G 8 15 _ (by simp) rfl
          have ne_9_10 : g4 ≠ g5 := by have h := Gs 9 10 rfl rfl (by simp) (by simp) rfl rfl (by decide); rw [e_9, e_10] at h; exact h
          clear G Gs
          simp only [rFloorT0]
          simp only [putD, entries, List.map_cons, List.map_nil, List.foldl_cons, List.foldl_nil, Act.put, List.setIfInBounds_toArray, List.set_cons_zero, List.set_cons_succ, e_9, e_10, e_8]
          have T0 := hv_9
          refine wpAny_storeN (j := 11) (by kernel_rfl) rfl rfl rfl rfl rfl n_6 T0.any ?_
          intro w0 u0 v0
          have O0 := T0.own
          have T1 := (hv_10.upd O0 u0 (by omega))
          refine wpAny_storeN (j := 12) (by kernel_rfl) rfl rfl rfl rfl rfl (n_7.upd O0 u0) T1.any ?_
          intro w1 u1 v1
          have O1 := T1.own
          refine wpAny_takeD (i := 13) (d := some 6) (v := Value.int IntKind.i64 0) rfl rfl (by kernel_rfl) (by kernel_rfl) (by kernel_rfl) (fun _ _ _ h => h) (Or.inl ⟨by rfl, fun w => by rfl⟩) ?_
          try simp only [Act.put, List.setIfInBounds_toArray, List.set_cons_zero, List.set_cons_succ]
          refine wpAny_done (by kernel_rfl) ?_ _
          go_wp2_with fail
          go_meet
          case rel => exact ⟨g4, g5, rfl, rfl, (by omega), (by omega), (by omega), (v0.upd O1 u1 (by omega)), v1, (((V0.mono bp).upd O0 u0 (by omega)).upd O1 u1 (by omega)), (Upd.below (Upd.below (hb1.trans (bp.mono hb1.size)) u0 (by omega)) u1 (by omega))⟩
        · obtain ⟨g4, e_9, lg_9, hv_9⟩ := G 9 4 _ (by simp) rfl
          obtain ⟨g5, e_10, lg_10, hv_10⟩ := G 10 5 _ (by simp) rfl
          obtain ⟨x_5_0, x_5_1, x_5_2, e_5, n_5_0, n_5_1, rfl⟩ := G 5 7 _ (by simp) rfl
          have n_6 : (Sp.nat (m)).p wp (gp 6) := G 6 13 _ (by simp) rfl
          have n_7 : (Sp.nat (R)).p wp (gp 7) := G 7 14 _ (by simp) rfl
          have ne_9_10 : g4 ≠ g5 := by have h := Gs 9 10 rfl rfl (by simp) (by simp) rfl rfl (by decide); rw [e_9, e_10] at h; exact h
          clear G Gs
          simp only [rFloorT0]
          simp only [putD, entries, List.map_cons, List.map_nil, List.foldl_cons, List.foldl_nil, Act.put, List.setIfInBounds_toArray, List.set_cons_zero, List.set_cons_succ, e_9, e_10, e_5]
          refine wpAny_takeD (i := 8) (d := some 15) (v := Value.int IntKind.i64 0) rfl rfl (by kernel_rfl) (by kernel_rfl) (by kernel_rfl) (fun _ _ _ h => h) (Or.inl ⟨by rfl, fun w => by rfl⟩) ?_
          try simp only [Act.put, List.setIfInBounds_toArray, List.set_cons_zero, List.set_cons_succ]
          have T0 := hv_9
          refine wpAny_storeN (j := 11) (by kernel_rfl) rfl rfl rfl rfl rfl n_6 T0.any ?_
          intro w0 u0 v0
          have O0 := T0.own
          have T1 := (hv_10.upd O0 u0 (by omega))
          refine wpAny_storeN (j := 12) (by kernel_rfl) rfl rfl rfl rfl rfl (n_7.upd O0 u0) T1.any ?_
          intro w1 u1 v1
          have O1 := T1.own
          refine wpAny_takeD (i := 13) (d := some 6) (v := Value.int IntKind.i64 0) rfl rfl (by kernel_rfl) (by kernel_rfl) (by kernel_rfl) (fun _ _ _ h => h) (Or.inl ⟨by rfl, fun w => by rfl⟩) ?_
          try simp only [Act.put, List.setIfInBounds_toArray, List.set_cons_zero, List.set_cons_succ]
          refine wpAny_done (by kernel_rfl) ?_ _
          go_wp2_with fail
          go_meet
          case rel => exact ⟨g4, g5, rfl, rfl, (by omega), (by omega), (by omega), (v0.upd O1 u1 (by omega)), v1, (((V0.mono bp).upd O0 u0 (by omega)).upd O1 u1 (by omega)), (Upd.below (Upd.below (hb1.trans (bp.mono hb1.size)) u0 (by omega)) u1 (by omega))⟩
        · obtain ⟨g4, e_9, lg_9, hv_9⟩ := G 9 4 _ (by simp) rfl
          obtain ⟨g5, e_10, lg_10, hv_10⟩ := G 10 5 _ (by simp) rfl
          obtain ⟨x_5_0, x_5_1, x_5_2, e_5, n_5_0, n_5_1, rfl⟩ := G 5 7 _ (by simp) rfl
          have n_6 : (Sp.nat (m)).p wp (gp 6) := G 6 13 _ (by simp) rfl
          have e_8 : gp 8 = Value.int IntKind.i64 0 := G 8 15 _ (by simp) rfl
          have ne_9_10 : g4 ≠ g5 := by have h := Gs 9 10 rfl rfl (by simp) (by simp) rfl rfl (by decide); rw [e_9, e_10] at h; exact h
          clear G Gs
          simp only [rFloorT0]
          simp only [putD, entries, List.map_cons, List.map_nil, List.foldl_cons, List.foldl_nil, Act.put, List.setIfInBounds_toArray, List.set_cons_zero, List.set_cons_succ, e_9, e_10, e_5, e_8]
          refine wpAny_takeD (i := 7) (d := some 14) (v := x_5_1) rfl rfl (by kernel_rfl) (by kernel_rfl) (by kernel_rfl) (fun _ _ _ h => h) (Or.inl ⟨by rfl, fun w => by rfl⟩) ?_
          try simp only [Act.put, List.setIfInBounds_toArray, List.set_cons_zero, List.set_cons_succ]
          have T0 := hv_9
          refine wpAny_storeN (j := 11) (by kernel_rfl) rfl rfl rfl rfl rfl n_6 T0.any ?_
          intro w0 u0 v0
          have O0 := T0.own
          have T1 := (hv_10.upd O0 u0 (by omega))
          refine wpAny_storeN (j := 12) (by kernel_rfl) rfl rfl rfl rfl rfl (n_5_1.upd O0 u0) T1.any ?_
          intro w1 u1 v1
          have O1 := T1.own
          refine wpAny_takeD (i := 13) (d := some 6) (v := Value.int IntKind.i64 0) rfl rfl (by kernel_rfl) (by kernel_rfl) (by kernel_rfl) (fun _ _ _ h => h) (Or.inl ⟨by rfl, fun w => by rfl⟩) ?_
          try simp only [Act.put, List.setIfInBounds_toArray, List.set_cons_zero, List.set_cons_succ]
          refine wpAny_done (by kernel_rfl) ?_ _
          go_wp2_with fail
          go_meet
          case rel => exact ⟨g4, g5, rfl, rfl, (by omega), (by omega), (by omega), (v0.upd O1 u1 (by omega)), v1, (((V0.mono bp).upd O0 u0 (by omega)).upd O1 u1 (by omega)), (Upd.below (Upd.below (hb1.trans (bp.mono hb1.size)) u0 (by omega)) u1 (by omega))⟩
        · obtain ⟨g4, e_9, lg_9, hv_9⟩ := G 9 4 _ (by simp) rfl
          obtain ⟨g5, e_10, lg_10, hv_10⟩ := G 10 5 _ (by simp) rfl
          obtain ⟨x_5_0, x_5_1, x_5_2, e_5, n_5_0, n_5_1, rfl⟩ := G 5 7 _ (by simp) rfl
          have n_6 : (Sp.nat (m)).p wp (gp 6) := G 6 13 _ (by simp) rfl
          have ne_9_10 : g4 ≠ g5 := by have h := Gs 9 10 rfl rfl (by simp) (by simp) rfl rfl (by decide); rw [e_9, e_10] at h; exact h
          clear G Gs
          simp only [rFloorT0]
          simp only [putD, entries, List.map_cons, List.map_nil, List.foldl_cons, List.foldl_nil, Act.put, List.setIfInBounds_toArray, List.set_cons_zero, List.set_cons_succ, e_9, e_10, e_5]
          refine wpAny_takeD (i := 7) (d := some 14) (v := x_5_1) rfl rfl (by kernel_rfl) (by kernel_rfl) (by kernel_rfl) (fun _ _ _ h => h) (Or.inl ⟨by rfl, fun w => by rfl⟩) ?_
          try simp only [Act.put, List.setIfInBounds_toArray, List.set_cons_zero, List.set_cons_succ]
          refine wpAny_takeD (i := 8) (d := some 15) (v := Value.int IntKind.i64 0) rfl rfl (by kernel_rfl) (by kernel_rfl) (by kernel_rfl) (fun _ _ _ h => h) (Or.inl ⟨by rfl, fun w => by rfl⟩) ?_
          try simp only [Act.put, List.setIfInBounds_toArray, List.set_cons_zero, List.set_cons_succ]
          have T0 := hv_9
          refine wpAny_storeN (j := 11) (by kernel_rfl) rfl rfl rfl rfl rfl n_6 T0.any ?_
          intro w0 u0 v0
          have O0 := T0.own
          have T1 := (hv_10.upd O0 u0 (by omega))
          refine wpAny_storeN (j := 12) (by kernel_rfl) rfl rfl rfl rfl rfl (n_5_1.upd O0 u0) T1.any ?_
          intro w1 u1 v1
          have O1 := T1.own
          refine wpAny_takeD (i := 13) (d := some 6) (v := Value.int IntKind.i64 0) rfl rfl (by kernel_rfl) (by kernel_rfl) (by kernel_rfl) (fun _ _ _ h => h) (Or.inl ⟨by rfl, fun w => by rfl⟩) ?_
          try simp only [Act.put, List.setIfInBounds_toArray, List.set_cons_zero, List.set_cons_succ]
          refine wpAny_done (by kernel_rfl) ?_ _
          go_wp2_with fail
          go_meet
          case rel => exact ⟨g4, g5, rfl, rfl, (by omega), (by omega), (by omega), (v0.upd O1 u1 (by omega)), v1, (((V0.mono bp).upd O0 u0 (by omega)).upd O1 u1 (by omega)), (Upd.below (Upd.below (hb1.trans (bp.mono hb1.size)) u0 (by omega)) u1 (by omega))⟩
      case rest =>
      clear V0 hb1
      obtain ⟨g4, g5, rfl, rfl, lg4, lg5, d1_0, V4, V5, V0, hb1⟩ := hcut
      go_upto_region 2 with (fail)
      go_cut [22] (fun s_22 wx => s_22 = Value.bool false ∧ VarQ wx w.heap.size (Fq.mk true xp xq) ∧ VarI wx g4 m ∧ VarI wx g5 R ∧ Below w.heap.size w wx)
      case first =>
        refine wp_tabGF Try.f33 2 (rFloorT1 w R R) [] (fun _ => false) 7 0 (by kernel_rfl) (by kernel_rfl) (by kernel_rfl) (by kernel_rfl) (by kernel_rfl) (EachX.of_all (fun _ h => by cases h) _) ?_ ?_
        · refine ⟨fun a' w' F => StepG.run rfl (wanted_none rfl) (arm_fieldF rfl (F.keep 1 (Value.pointer (some ⟨w.heap.size, 0, none⟩)) (by kernel_rfl) rfl).is (run_field0 _)).b, ?_⟩
          refine ⟨fun a' w' F => StepG.run rfl (wanted_none rfl) (arm_loadS rfl (F.at' 0 16 _ rfl (by kernel_rfl)).is (V0.mono F.below)).b, ?_⟩
          refine ⟨fun a' w' F => StepG.run rfl (wanted_none rfl) (arm_move (.inl rfl) (F.at' 1 17 _ rfl (by kernel_rfl)).is).b, ?_⟩
          refine ⟨fun a' w' F => StepG.run rfl (wanted_some rfl rfl (F.at' 2 18 _ rfl (by kernel_rfl))) (arm_load rfl (F.keep 5 (Value.pointer (some ⟨g5, 0, none⟩)) (by kernel_rfl) rfl).is (V5.mono F.below)).b, ?_⟩
          refine ⟨fun a' w' F => StepG.run rfl (wanted_some rfl rfl (F.at' 2 18 _ rfl (by kernel_rfl))) (arm_C1 rfl (enters Try.func51 rfl rfl) (F.at' 3 19 _ rfl (by kernel_rfl)).is (fun va w h1 => c_zero va R w h1 bR) (fun _ _ h => by have h' : RetV _ _ _ _ := h; rw [HR.out] at h'; exact ofV h')).b, ?_⟩
          refine ⟨fun a' w' F => StepG.run rfl (wanted_some rfl rfl (F.at' 2 18 _ rfl (by kernel_rfl))) (arm_not rfl (F.at' 4 20 _ rfl (by kernel_rfl)).is).b, ?_⟩
          refine ⟨fun a' w' F => StepG.run rfl (wanted_none rfl) (arm_pick rfl (F.at' 2 18 _ rfl (by kernel_rfl)).is (fun _ => (F.at' 5 21 _ rfl (by kernel_rfl)).is) (fun h => by cases h)).b, ?_⟩
          exact trivial
        intro E' hE gp wp bp G Gs
        obtain rfl : E' = [] := by simpa [subs] using hE
        have e_6 : gp 6 = Value.bool false := G 6 22 _ (by simp) rfl
        clear G Gs hE
        simp only [rFloorT1]
        simp only [putD, entries, List.map_cons, List.map_nil, List.foldl_cons, List.foldl_nil, Act.put, List.setIfInBounds_toArray, List.set_cons_zero, List.set_cons_succ, e_6]
        refine wpAny_done (by kernel_rfl) ?_ _
        go_wp2_with fail
        go_meet
        case rel => exact ⟨rfl, (V0.mono bp), (V4.mono bp), (V5.mono bp), (hb1.trans (bp.mono hb1.size))⟩
      case rest =>
      clear V0 V4 V5 hb1
      obtain ⟨rfl, V0, V4, V5, hb1⟩ := hcut
      go_upto_region 4 with (fail)
      go_cut [27] (fun s_27 wx => s_27 = Value.bool true ∧ VarQ wx w.heap.size (Fq.mk true xp xq) ∧ VarI wx g4 m ∧ VarI wx g5 R ∧ Below w.heap.size w wx)
      case first =>
        refine wp_tabGF Try.f33 4 (rFloorT2 w) [] (fun _ => false) 2 0 (by kernel_rfl) (by kernel_rfl) (by kernel_rfl) (by kernel_rfl) (by kernel_rfl) (EachX.of_all (fun _ h => by cases h) _) ?_ ?_
        · refine ⟨fun a' w' F => StepG.run rfl (wanted_none rfl) (arm_fieldF rfl (F.keep 1 (Value.pointer (some ⟨w.heap.size, 0, none⟩)) (by kernel_rfl) rfl).is (run_field0 _)).b, ?_⟩
          refine ⟨fun a' w' F => StepG.run rfl (wanted_none rfl) (arm_loadS rfl (F.at' 0 26 _ rfl (by kernel_rfl)).is (V0.mono F.below)).b, ?_⟩
          exact trivial
        intro E' hE gp wp bp G Gs
        obtain rfl : E' = [] := by simpa [subs] using hE
        have e_1 : gp 1 = Value.bool true := G 1 27 _ (by simp) rfl
        clear G Gs hE
        simp only [rFloorT2]
        simp only [putD, entries, List.map_cons, List.map_nil, List.foldl_cons, List.foldl_nil, Act.put, List.setIfInBounds_toArray, List.set_cons_zero, List.set_cons_succ, e_1]
        refine wpAny_done (by kernel_rfl) ?_ _
        go_wp2_with fail
        go_meet
        case rel => exact ⟨rfl, (V0.mono bp), (V4.mono bp), (V5.mono bp), (hb1.trans (bp.mono hb1.size))⟩
      case rest =>
      clear V0 V4 V5 hb1
      obtain ⟨rfl, V0, V4, V5, hb1⟩ := hcut
      by_cases h63 : m ≤ 9223372036854775808
      · have HB : Hid (false = decide (0 < C)) := Lib.hid (by symm; apply decide_eq_false; rw [← hC.out, cmpI_pos]; omega)
        obtain rfl : r = (-(m : Int), true) := by rw [hF.out, if_pos rfl, if_pos h63]
        clear hF hm
        have HM := Lib.hid h63
        clear h63
        go_upto_region 5 with (fail)
        go_cut [31] (fun s_31 wx => s_31 = Value.bool false ∧ VarQ wx w.heap.size (Fq.mk true xp xq) ∧ VarI wx g4 m ∧ VarI wx g5 R ∧ Below w.heap.size w wx)
        case first =>
          refine wp_tabG Try.f33 5 (rFloorT3 m C) [] (fun _ => false) 3 0 (by kernel_rfl) (by kernel_rfl) (by kernel_rfl) (by kernel_rfl) (by kernel_rfl) (EachX.of_all (fun _ h => by cases h) _) ?_ ?_
          · refine ⟨fun a' w' F => StepG.run rfl (wanted_none rfl) (arm_load rfl (F.keep 4 (Value.pointer (some ⟨g4, 0, none⟩)) (by kernel_rfl) rfl).is (V4.mono F.below)).b, ?_⟩
            refine ⟨fun a' w' F => StepG.run rfl (wanted_none rfl) (arm_C1 rfl (enters Try.func54 rfl rfl) Is.const (fun va w h1 => by have e_va : va = _ := h1; subst e_va; exact c_ref_Of 9223372036854775808 w (by decide)) (fun _ _ h => ofNew h)).b, ?_⟩
            refine ⟨fun a' w' F => StepG.run rfl (wanted_none rfl) (arm_C2 rfl (enters Try.func60 rfl rfl) (F.at' 0 28 _ rfl (by kernel_rfl)).is (F.at' 1 29 _ rfl (by kernel_rfl)).is (fun va vb w h1 h2 => c_ref_Cmp va vb m 9223372036854775808 w h1 h2 bm (by decide)) (fun _ _ h => by have h' : RetV _ _ _ _ := h; rw [hC.out] at h'; exact ofV h')).b, ?_⟩
            refine ⟨fun a' w' F => StepG.run rfl (wanted_none rfl) (arm_bin rfl (F.at' 2 30 _ rfl (by kernel_rfl)).is Is.const (fun _ => rfl) (fun w => by rw [HB.out]; rfl)).b, ?_⟩
            exact trivial
          intro E' hE gp wp bp G Gs
          obtain rfl : E' = [] := by simpa [subs] using hE
          have e_3 : gp 3 = Value.bool false := G 3 31 _ (by simp) rfl
          clear G Gs hE
          simp only [rFloorT3]
          simp only [putD, entries, List.map_cons, List.map_nil, List.foldl_cons, List.foldl_nil, Act.put, List.setIfInBounds_toArray, List.set_cons_zero, List.set_cons_succ, e_3]
          refine wpAny_done (by kernel_rfl) ?_ _
          go_wp2_with fail
          go_meet
          case rel => exact ⟨rfl, (V0.mono bp), (V4.mono bp), (V5.mono bp), (hb1.trans (bp.mono hb1.size))⟩
        case rest =>
        clear V0 V4 V5 hb1
        obtain ⟨rfl, V0, V4, V5, hb1⟩ := hcut
        have hml : m < 18446744073709551616 := by have := HM.out; omega
        obtain ⟨y4, d4, q4, i4⟩ := V4
        have e4 := q4.cell
        go_wp2_with fail
        refine (c_low _ m _ i4 hml).mono ?_
        rintro e w2 ⟨rfl, bb⟩
        replace hb1 := hb1.trans (bb.mono hb1.size)
        clear V0 V5 i4 q4 e4 bb hml bp bq bD bR bm bpp bqq
        by_cases h0 : m = 0
        · subst h0
          clear HM
          go_wp2
          go_ret2
          refine ⟨?_, hb1⟩
          show Ending.returned (.tuple #[.int .i64 (wrap64 (wrap64 (-wrap64 (IntKind.u64.wrap (-1))) - 1)), .bool true]) = _
          rw [show wrap64 (wrap64 (-wrap64 (IntKind.u64.wrap (-1))) - 1) = 0 by decide +kernel]
          rfl
        · have h0i : 1 ≤ (m : Int) := by omega
          have h63i : (m : Int) ≤ 9223372036854775808 := by have := HM.out; omega
          have e : (-((m : Int) - 1) - 1) = -(m : Int) := by omega
          generalize hM : (m : Int) = M at *
          replace hM := Lib.hid hM
          replace e := Lib.hid e
          clear h0 HM
          go_wp2
          go_ret2
          refine ⟨?_, hb1⟩
          have := hM.out
          subst this
          show Ending.returned (.tuple #[.int .i64 (-((m : Int) - 1) - 1), .bool true]) = _
          rw [e.out]
      · have HB : Hid (true = decide (0 < C)) := Lib.hid (by symm; apply decide_eq_true; rw [← hC.out, cmpI_pos]; omega)
        obtain rfl : r = (0, false) := by rw [hF.out, if_pos rfl, if_neg h63]
        clear hF hm h63
        go_upto_region 5 with (fail)
        go_cut [31] (fun s_31 wx => s_31 = Value.bool true ∧ VarQ wx w.heap.size (Fq.mk true xp xq) ∧ VarI wx g4 m ∧ VarI wx g5 R ∧ Below w.heap.size w wx)
        case first =>
          refine wp_tabG Try.f33 5 (rFloorT4 m C) [] (fun _ => false) 3 0 (by kernel_rfl) (by kernel_rfl) (by kernel_rfl) (by kernel_rfl) (by kernel_rfl) (EachX.of_all (fun _ h => by cases h) _) ?_ ?_
          · refine ⟨fun a' w' F => StepG.run rfl (wanted_none rfl) (arm_load rfl (F.keep 4 (Value.pointer (some ⟨g4, 0, none⟩)) (by kernel_rfl) rfl).is (V4.mono F.below)).b, ?_⟩
            refine ⟨fun a' w' F => StepG.run rfl (wanted_none rfl) (arm_C1 rfl (enters Try.func54 rfl rfl) Is.const (fun va w h1 => by have e_va : va = _ := h1; subst e_va; exact c_ref_Of 9223372036854775808 w (by decide)) (fun _ _ h => ofNew h)).b, ?_⟩
            refine ⟨fun a' w' F => StepG.run rfl (wanted_none rfl) (arm_C2 rfl (enters Try.func60 rfl rfl) (F.at' 0 28 _ rfl (by kernel_rfl)).is (F.at' 1 29 _ rfl (by kernel_rfl)).is (fun va vb w h1 h2 => c_ref_Cmp va vb m 9223372036854775808 w h1 h2 bm (by decide)) (fun _ _ h => by have h' : RetV _ _ _ _ := h; rw [hC.out] at h'; exact ofV h')).b, ?_⟩
            refine ⟨fun a' w' F => StepG.run rfl (wanted_none rfl) (arm_bin rfl (F.at' 2 30 _ rfl (by kernel_rfl)).is Is.const (fun _ => rfl) (fun w => by rw [HB.out]; rfl)).b, ?_⟩
            exact trivial
          intro E' hE gp wp bp G Gs
          obtain rfl : E' = [] := by simpa [subs] using hE
          have e_3 : gp 3 = Value.bool true := G 3 31 _ (by simp) rfl
          clear G Gs hE
          simp only [rFloorT4]
          simp only [putD, entries, List.map_cons, List.map_nil, List.foldl_cons, List.foldl_nil, Act.put, List.setIfInBounds_toArray, List.set_cons_zero, List.set_cons_succ, e_3]
          refine wpAny_done (by kernel_rfl) ?_ _
          go_wp2_with fail
          go_meet
          case rel => exact ⟨rfl, (V0.mono bp), (V4.mono bp), (V5.mono bp), (hb1.trans (bp.mono hb1.size))⟩
        case rest =>
        clear V0 V4 V5 hb1
        obtain ⟨rfl, V0, V4, V5, hb1⟩ := hcut
        go_wp2
        go_ret2
        exact ⟨rfl, hb1⟩
    · have HR : Hid (decide (R = 0) = false) := Lib.hid (decide_eq_false hr)
      have hDm : Hid (m = Dq + 1) := Lib.hid (by rw [hm.out, hDq.out]; unfold Fq.flM; rw [if_pos]; exact ⟨rfl, by rw [← hR.out]; exact hr⟩)
      clear hr
      obtain ⟨a0, c0, b0, d0, rfl, m0, k0⟩ := boxF ha
      clear ha
      go_enter Try.func33, Try.ntmps33
      go_upto_region 0 with (fail)
      go_cut [1, 2, 3] (fun s_1 s_2 s_3 wx => s_1 = Value.pointer (some ⟨w.heap.size, 0, none⟩) ∧ s_2 = Value.int IntKind.i64 0 ∧ s_3 = Value.bool false ∧ VarQ wx w.heap.size (Fq.mk true xp xq) ∧ Below w.heap.size w wx)
      case first =>
        go_wp2_with fail
        go_meet
        case rel => exact ⟨rfl, rfl, rfl, k0, m0⟩
      case rest =>
      clear m0 k0
      obtain ⟨rfl, rfl, rfl, V0, hb1⟩ := hcut
      go_upto_region 1 with (fail)
      go_cut [4, 5] (fun s_4 s_5 wx => ∃ g4 g5, s_4 = Value.pointer (some ⟨g4, 0, none⟩) ∧ s_5 = Value.pointer (some ⟨g5, 0, none⟩) ∧ w.heap.size + 1 ≤ g4 ∧ w.heap.size + 1 ≤ g5 ∧ g4 ≠ g5 ∧ VarI wx g4 Dq ∧ VarI wx g5 R ∧ VarQ wx w.heap.size (Fq.mk true xp xq) ∧ Below w.heap.size w wx)
      case first =>
        obtain ⟨base, hbase0⟩ : ∃ b : Nat, Hid (b = wc.heap.size) := ⟨_, Lib.hid rfl⟩
        have hbase : base ≤ wc.heap.size := by rw [hbase0.out]; exact Nat.le_refl _
        have hbw : w.heap.size + 1 ≤ base := by have := hb1.size; have h1 := V0.lt; rw [hbase0.out]; omega
        have l_V0 : w.heap.size < base := by rw [hbase0.out]; exact V0.lt
        refine wp_tabGF Try.f33 1 (rFloorT5 w xp xq Dq R Dq R base) [7, 8] (fun i => i == 9 || i == 10) 8 3 (by kernel_rfl) (by kernel_rfl) (by kernel_rfl) (by kernel_rfl) (by kernel_rfl) ⟨fun h => (by cases h), ⟨fun h => (by cases h), ⟨fun h => (by cases h), ⟨fun h => (by cases h), ⟨fun h => (by cases h), ⟨fun h => (by cases h), ⟨fun h => (by cases h), ⟨fun h => (by cases h), ⟨fun h => (by cases h), ⟨fun _ w v h => Sp.var_lt h, ⟨fun _ w v h => Sp.var_lt h, trivial⟩⟩⟩⟩⟩⟩⟩⟩⟩⟩⟩ ?_ ?_
        · refine ⟨fun a' w' F => StepG.run rfl (wanted_none rfl) (arm_fieldF rfl (F.keep 1 (Value.pointer (some ⟨w.heap.size, 0, none⟩)) (by kernel_rfl) rfl).is (run_field1 _)).b, ?_⟩
          refine ⟨fun a' w' F => StepG.run rfl (wanted_none rfl) (arm_load1 rfl (F.at' 0 8 _ rfl (by kernel_rfl)).is (V0.mono F.below)).b, ?_⟩
          refine ⟨fun a' w' F => StepG.run rfl (wanted_none rfl) (arm_fieldF rfl (F.keep 1 (Value.pointer (some ⟨w.heap.size, 0, none⟩)) (by kernel_rfl) rfl).is (run_field2 _)).b, ?_⟩
          refine ⟨fun a' w' F => StepG.run rfl (wanted_none rfl) (arm_load2 rfl (F.at' 2 10 _ rfl (by kernel_rfl)).is (V0.mono F.below)).b, ?_⟩
          refine ⟨fun a' w' F => StepG.run rfl (wanted_none rfl) (arm_C2 rfl (enters Try.func66 rfl rfl) (F.at' 1 9 _ rfl (by kernel_rfl)).is (F.at' 3 11 _ rfl (by kernel_rfl)).is (fun va vb w h1 h2 => c_ref_DivMod va vb xp xq w h1 h2 bpp bqq HQ.out) (fun _ _ h => by rw [hDq.out]; rw [hR.out]; exact ofDiv h)).b, ?_⟩
          refine ⟨fun a' w' F => StepG.run rfl (wanted_none rfl) (arm_move (.inl rfl) (F.at' 4 12 _ rfl (by kernel_rfl)).is).b, ?_⟩
          refine ⟨fun a' w' F => StepG.run rfl (wanted_none rfl) (arm_trip0 rfl (F.at' 5 7 _ rfl (by kernel_rfl)).is).b, ?_⟩
          refine ⟨fun a' w' F => StepG.run rfl (wanted_none rfl) (arm_trip1 rfl (F.at' 5 7 _ rfl (by kernel_rfl)).is).b, ?_⟩
          refine ⟨fun a' w' F => StepG.run rfl (wanted_none rfl) (arm_trip2 rfl (F.at' 5 7 _ rfl (by kernel_rfl)).is).b, ?_⟩
          refine ⟨fun a' w' F => StepG.run rfl (wanted_none rfl) (arm_alloc rfl (Nat.le_trans hbase F.below.size)), ?_⟩
          refine ⟨fun a' w' F => StepG.run rfl (wanted_none rfl) (arm_alloc rfl (Nat.le_trans hbase F.below.size)), ?_⟩
          exact trivial
        intro E' hE gp wp bp G Gs
        simp only [subs, List.map_cons, List.map_nil, List.nil_append, List.cons_append, List.mem_cons, List.not_mem_nil, or_false, List.append_nil] at hE
        rcases hE with rfl | rfl | rfl | rfl
        · obtain ⟨g4, e_9, lg_9, hv_9⟩ := G 9 4 _ (by simp) rfl
          obtain ⟨g5, e_10, lg_10, hv_10⟩ := G 10 5 _ (by simp) rfl
          have n_6 : (Sp.nat (Dq)).p wp (gp 6) := G 6 13 _ (by simp) rfl
          have n_7 : (Sp.nat (R)).p wp (gp 7) := G 7 14 _ (by simp) rfl
          have e_8 : gp 8 = Value.int IntKind.i64 0 := G 8 15 _ (by simp) rfl
          have ne_9_10 : g4 ≠ g5 := by have h := Gs 9 10 rfl rfl (by simp) (by simp) rfl rfl (by decide); rw [e_9, e_10] at h; exact h
          clear G Gs
          simp only [rFloorT5]
          simp only [putD, entries, List.map_cons, List.map_nil, List.foldl_cons, List.foldl_nil, Act.put, List.setIfInBounds_toArray, List.set_cons_zero, List.set_cons_succ, e_9, e_10, e_8]
          have T0 := hv_9
          refine wpAny_storeN (j := 11) (by kernel_rfl) rfl rfl rfl rfl rfl n_6 T0.any ?_
          intro w0 u0 v0
          have O0 := T0.own
          have T1 := (hv_10.upd O0 u0 (by omega))
          refine wpAny_storeN (j := 12) (by kernel_rfl) rfl rfl rfl rfl rfl (n_7.upd O0 u0) T1.any ?_
          intro w1 u1 v1
          have O1 := T1.own
          refine wpAny_takeD (i := 13) (d := some 6) (v := Value.int IntKind.i64 0) rfl rfl (by kernel_rfl) (by kernel_rfl) (by kernel_rfl) (fun _ _ _ h => h) (Or.inl ⟨by rfl, fun w => by rfl⟩) ?_
          try simp only [Act.put, List.setIfInBounds_toArray, List.set_cons_zero, List.set_cons_succ]
          refine wpAny_done (by kernel_rfl) ?_ _
          go_wp2_with fail
          go_meet
          case rel => exact ⟨g4, g5, rfl, rfl, (by omega), (by omega), (by omega), (v0.upd O1 u1 (by omega)), v1, (((V0.mono bp).upd O0 u0 (by omega)).upd O1 u1 (by omega)), (Upd.below (Upd.below (hb1.trans (bp.mono hb1.size)) u0 (by omega)) u1 (by omega))⟩
        · obtain ⟨g4, e_9, lg_9, hv_9⟩ := G 9 4 _ (by simp) rfl
          obtain ⟨g5, e_10, lg_10, hv_10⟩ := G 10 5 _ (by simp) rfl
          obtain ⟨x_5_0, x_5_1, x_5_2, e_5, n_5_0, n_5_1, rfl⟩ := G 5 7 _ (by simp) rfl
          have n_6 : (Sp.nat (Dq)).p wp (gp 6) := G 6 13 _ (by simp) rfl
          have n_7 : (Sp.nat (R)).p wp (gp 7) := G 7 14 _ (by simp) rfl
          have ne_9_10 : g4 ≠ g5 := by have h := Gs 9 10 rfl rfl (by simp) (by simp) rfl rfl (by decide); rw [e_9, e_10] at h; exact h
          clear G Gs
          simp only [rFloorT5]
          simp only [putD, entries, List.map_cons, List.map_nil, List.foldl_cons, List.foldl_nil, Act.put, List.setIfInBounds_toArray, List.set_cons_zero, List.set_cons_succ, e_9, e_10, e_5]
          refine wpAny_takeD (i := 8) (d := some 15) (v := Value.int IntKind.i64 0) rfl rfl (by kernel_rfl) (by kernel_rfl) (by kernel_rfl) (fun _ _ _ h => h) (Or.inl ⟨by rfl, fun w => by rfl⟩) ?_
          try simp only [Act.put, List.setIfInBounds_toArray, List.set_cons_zero, List.set_cons_succ]
          have T0 := hv_9
          refine wpAny_storeN (j := 11) (by kernel_rfl) rfl rfl rfl rfl rfl n_6 T0.any ?_
          intro w0 u0 v0
          have O0 := T0.own
          have T1 := (hv_10.upd O0 u0 (by omega))
          refine wpAny_storeN (j := 12) (by kernel_rfl) rfl rfl rfl rfl rfl (n_7.upd O0 u0) T1.any ?_
          intro w1 u1 v1
          have O1 := T1.own
          refine wpAny_takeD (i := 13) (d := some 6) (v := Value.int IntKind.i64 0) rfl rfl (by kernel_rfl) (by kernel_rfl) (by kernel_rfl) (fun _ _ _ h => h) (Or.inl ⟨by rfl, fun w => by rfl⟩) ?_
          try simp only [Act.put, List.setIfInBounds_toArray, List.set_cons_zero, List.set_cons_succ]
          refine wpAny_done (by kernel_rfl) ?_ _
          go_wp2_with fail
          go_meet
          case rel => exact ⟨g4, g5, rfl, rfl, (by omega), (by omega), (by omega), (v0.upd O1 u1 (by omega)), v1, (((V0.mono bp).upd O0 u0 (by omega)).upd O1 u1 (by omega)), (Upd.below (Upd.below (hb1.trans (bp.mono hb1.size)) u0 (by omega)) u1 (by omega))⟩
        · obtain ⟨g4, e_9, lg_9, hv_9⟩ := G 9 4 _ (by simp) rfl
          obtain ⟨g5, e_10, lg_10, hv_10⟩ := G 10 5 _ (by simp) rfl
          obtain ⟨x_5_0, x_5_1, x_5_2, e_5, n_5_0, n_5_1, rfl⟩ := G 5 7 _ (by simp) rfl
          have n_6 : (Sp.nat (Dq)).p wp (gp 6) := G 6 13 _ (by simp) rfl
          have e_8 : gp 8 = Value.int IntKind.i64 0 := G 8 15 _ (by simp) rfl
          have ne_9_10 : g4 ≠ g5 := by have h := Gs 9 10 rfl rfl (by simp) (by simp) rfl rfl (by decide); rw [e_9, e_10] at h; exact h
          clear G Gs
          simp only [rFloorT5]
          simp only [putD, entries, List.map_cons, List.map_nil, List.foldl_cons, List.foldl_nil, Act.put, List.setIfInBounds_toArray, List.set_cons_zero, List.set_cons_succ, e_9, e_10, e_5, e_8]
          refine wpAny_takeD (i := 7) (d := some 14) (v := x_5_1) rfl rfl (by kernel_rfl) (by kernel_rfl) (by kernel_rfl) (fun _ _ _ h => h) (Or.inl ⟨by rfl, fun w => by rfl⟩) ?_
          try simp only [Act.put, List.setIfInBounds_toArray, List.set_cons_zero, List.set_cons_succ]
          have T0 := hv_9
          refine wpAny_storeN (j := 11) (by kernel_rfl) rfl rfl rfl rfl rfl n_6 T0.any ?_
          intro w0 u0 v0
          have O0 := T0.own
          have T1 := (hv_10.upd O0 u0 (by omega))
          refine wpAny_storeN (j := 12) (by kernel_rfl) rfl rfl rfl rfl rfl (n_5_1.upd O0 u0) T1.any ?_
          intro w1 u1 v1
          have O1 := T1.own
          refine wpAny_takeD (i := 13) (d := some 6) (v := Value.int IntKind.i64 0) rfl rfl (by kernel_rfl) (by kernel_rfl) (by kernel_rfl) (fun _ _ _ h => h) (Or.inl ⟨by rfl, fun w => by rfl⟩) ?_
          try simp only [Act.put, List.setIfInBounds_toArray, List.set_cons_zero, List.set_cons_succ]
          refine wpAny_done (by kernel_rfl) ?_ _
          go_wp2_with fail
          go_meet
          case rel => exact ⟨g4, g5, rfl, rfl, (by omega), (by omega), (by omega), (v0.upd O1 u1 (by omega)), v1, (((V0.mono bp).upd O0 u0 (by omega)).upd O1 u1 (by omega)), (Upd.below (Upd.below (hb1.trans (bp.mono hb1.size)) u0 (by omega)) u1 (by omega))⟩
        · obtain ⟨g4, e_9, lg_9, hv_9⟩ := G 9 4 _ (by simp) rfl
          obtain ⟨g5, e_10, lg_10, hv_10⟩ := G 10 5 _ (by simp) rfl
          obtain ⟨x_5_0, x_5_1, x_5_2, e_5, n_5_0, n_5_1, rfl⟩ := G 5 7 _ (by simp) rfl
          have n_6 : (Sp.nat (Dq)).p wp (gp 6) := G 6 13 _ (by simp) rfl
          have ne_9_10 : g4 ≠ g5 := by have h := Gs 9 10 rfl rfl (by simp) (by simp) rfl rfl (by decide); rw [e_9, e_10] at h; exact h
          clear G Gs
          simp only [rFloorT5]
          simp only [putD, entries, List.map_cons, List.map_nil, List.foldl_cons, List.foldl_nil, Act.put, List.setIfInBounds_toArray, List.set_cons_zero, List.set_cons_succ, e_9, e_10, e_5]
          refine wpAny_takeD (i := 7) (d := some 14) (v := x_5_1) rfl rfl (by kernel_rfl) (by kernel_rfl) (by kernel_rfl) (fun _ _ _ h => h) (Or.inl ⟨by rfl, fun w => by rfl⟩) ?_
          try simp only [Act.put, List.setIfInBounds_toArray, List.set_cons_zero, List.set_cons_succ]
          refine wpAny_takeD (i := 8) (d := some 15) (v := Value.int IntKind.i64 0) rfl rfl (by kernel_rfl) (by kernel_rfl) (by kernel_rfl) (fun _ _ _ h => h) (Or.inl ⟨by rfl, fun w => by rfl⟩) ?_
          try simp only [Act.put, List.setIfInBounds_toArray, List.set_cons_zero, List.set_cons_succ]
          have T0 := hv_9
          refine wpAny_storeN (j := 11) (by kernel_rfl) rfl rfl rfl rfl rfl n_6 T0.any ?_
          intro w0 u0 v0
          have O0 := T0.own
          have T1 := (hv_10.upd O0 u0 (by omega))
          refine wpAny_storeN (j := 12) (by kernel_rfl) rfl rfl rfl rfl rfl (n_5_1.upd O0 u0) T1.any ?_
          intro w1 u1 v1
          have O1 := T1.own
          refine wpAny_takeD (i := 13) (d := some 6) (v := Value.int IntKind.i64 0) rfl rfl (by kernel_rfl) (by kernel_rfl) (by kernel_rfl) (fun _ _ _ h => h) (Or.inl ⟨by rfl, fun w => by rfl⟩) ?_
          try simp only [Act.put, List.setIfInBounds_toArray, List.set_cons_zero, List.set_cons_succ]
          refine wpAny_done (by kernel_rfl) ?_ _
          go_wp2_with fail
          go_meet
          case rel => exact ⟨g4, g5, rfl, rfl, (by omega), (by omega), (by omega), (v0.upd O1 u1 (by omega)), v1, (((V0.mono bp).upd O0 u0 (by omega)).upd O1 u1 (by omega)), (Upd.below (Upd.below (hb1.trans (bp.mono hb1.size)) u0 (by omega)) u1 (by omega))⟩
      case rest =>
      clear V0 hb1
      obtain ⟨g4, g5, rfl, rfl, lg4, lg5, d1_0, V4, V5, V0, hb1⟩ := hcut
      go_upto_region 2 with (fail)
      go_cut [22] (fun s_22 wx => s_22 = Value.bool true ∧ VarQ wx w.heap.size (Fq.mk true xp xq) ∧ VarI wx g4 Dq ∧ VarI wx g5 R ∧ Below w.heap.size w wx)
      case first =>
        refine wp_tabGF Try.f33 2 (rFloorT6 w R R) [] (fun _ => false) 7 0 (by kernel_rfl) (by kernel_rfl) (by kernel_rfl) (by kernel_rfl) (by kernel_rfl) (EachX.of_all (fun _ h => by cases h) _) ?_ ?_
        · refine ⟨fun a' w' F => StepG.run rfl (wanted_none rfl) (arm_fieldF rfl (F.keep 1 (Value.pointer (some ⟨w.heap.size, 0, none⟩)) (by kernel_rfl) rfl).is (run_field0 _)).b, ?_⟩
          refine ⟨fun a' w' F => StepG.run rfl (wanted_none rfl) (arm_loadS rfl (F.at' 0 16 _ rfl (by kernel_rfl)).is (V0.mono F.below)).b, ?_⟩
          refine ⟨fun a' w' F => StepG.run rfl (wanted_none rfl) (arm_move (.inl rfl) (F.at' 1 17 _ rfl (by kernel_rfl)).is).b, ?_⟩
          refine ⟨fun a' w' F => StepG.run rfl (wanted_some rfl rfl (F.at' 2 18 _ rfl (by kernel_rfl))) (arm_load rfl (F.keep 5 (Value.pointer (some ⟨g5, 0, none⟩)) (by kernel_rfl) rfl).is (V5.mono F.below)).b, ?_⟩
          refine ⟨fun a' w' F => StepG.run rfl (wanted_some rfl rfl (F.at' 2 18 _ rfl (by kernel_rfl))) (arm_C1 rfl (enters Try.func51 rfl rfl) (F.at' 3 19 _ rfl (by kernel_rfl)).is (fun va w h1 => c_zero va R w h1 bR) (fun _ _ h => by have h' : RetV _ _ _ _ := h; rw [HR.out] at h'; exact ofV h')).b, ?_⟩
          refine ⟨fun a' w' F => StepG.run rfl (wanted_some rfl rfl (F.at' 2 18 _ rfl (by kernel_rfl))) (arm_not rfl (F.at' 4 20 _ rfl (by kernel_rfl)).is).b, ?_⟩
          refine ⟨fun a' w' F => StepG.run rfl (wanted_none rfl) (arm_pick rfl (F.at' 2 18 _ rfl (by kernel_rfl)).is (fun _ => (F.at' 5 21 _ rfl (by kernel_rfl)).is) (fun h => by cases h)).b, ?_⟩
          exact trivial
        intro E' hE gp wp bp G Gs
        obtain rfl : E' = [] := by simpa [subs] using hE
        have e_6 : gp 6 = Value.bool true := G 6 22 _ (by simp) rfl
        clear G Gs hE
        simp only [rFloorT6]
        simp only [putD, entries, List.map_cons, List.map_nil, List.foldl_cons, List.foldl_nil, Act.put, List.setIfInBounds_toArray, List.set_cons_zero, List.set_cons_succ, e_6]
        refine wpAny_done (by kernel_rfl) ?_ _
        go_wp2_with fail
        go_meet
        case rel => exact ⟨rfl, (V0.mono bp), (V4.mono bp), (V5.mono bp), (hb1.trans (bp.mono hb1.size))⟩
      case rest =>
      clear V0 V4 V5 hb1
      obtain ⟨rfl, V0, V4, V5, hb1⟩ := hcut
      go_upto_region 3 with (fail)
      go_cut [] (fun wx => VarQ wx w.heap.size (Fq.mk true xp xq) ∧ VarI wx g4 m ∧ VarI wx g5 R ∧ Below w.heap.size w wx)
      case first =>
        refine wp_tabG Try.f33 3 (rFloorT7 Dq m Dq) [] (fun _ => false) 3 1 (by kernel_rfl) (by kernel_rfl) (by kernel_rfl) (by kernel_rfl) (by kernel_rfl) (EachX.of_all (fun _ h => by cases h) _) ?_ ?_
        · refine ⟨fun a' w' F => StepG.run rfl (wanted_none rfl) (arm_load rfl (F.keep 4 (Value.pointer (some ⟨g4, 0, none⟩)) (by kernel_rfl) rfl).is (V4.mono F.below)).b, ?_⟩
          refine ⟨fun a' w' F => StepG.run rfl (wanted_none rfl) (arm_C1 rfl (enters Try.func54 rfl rfl) Is.const (fun va w h1 => by have e_va : va = _ := h1; subst e_va; exact c_ref_Of 1 w (by decide)) (fun _ _ h => ofNew h)).b, ?_⟩
          refine ⟨fun a' w' F => StepG.run rfl (wanted_none rfl) (arm_C2 rfl (enters Try.func70 rfl rfl) (F.at' 0 23 _ rfl (by kernel_rfl)).is (F.at' 1 24 _ rfl (by kernel_rfl)).is (fun va vb w h1 h2 => c_ref_Add va vb Dq 1 w h1 h2 bD (by decide)) (fun _ _ h => by rw [hDm.out]; exact ofNew h)).b, ?_⟩
          exact trivial
        intro E' hE gp wp bp G Gs
        obtain rfl : E' = [] := by simpa [subs] using hE
        have n_2 : (Sp.nat (m)).p wp (gp 2) := G 2 25 _ (by simp) rfl
        clear G Gs hE
        simp only [rFloorT7]
        simp only [putD, entries, List.map_cons, List.map_nil, List.foldl_cons, List.foldl_nil, Act.put, List.setIfInBounds_toArray, List.set_cons_zero, List.set_cons_succ]
        have T0 := (V4.mono bp)
        refine wpAny_storeN (j := 3) (by kernel_rfl) rfl rfl rfl rfl rfl n_2 T0.any ?_
        intro w0 u0 v0
        have O0 := T0.own
        refine wpAny_done (by kernel_rfl) ?_ _
        go_wp2_with fail
        go_meet
        case rel => exact ⟨((V0.mono bp).upd O0 u0 (by omega)), v0, ((V5.mono bp).upd O0 u0 (by omega)), (Upd.below (hb1.trans (bp.mono hb1.size)) u0 (by omega))⟩
      case rest =>
      clear V0 V4 V5 hb1
      obtain ⟨V0, V4, V5, hb1⟩ := hcut
      go_upto_region 4 with (fail)
      go_cut [27] (fun s_27 wx => s_27 = Value.bool true ∧ VarQ wx w.heap.size (Fq.mk true xp xq) ∧ VarI wx g4 m ∧ VarI wx g5 R ∧ Below w.heap.size w wx)
      case first =>
        refine wp_tabGF Try.f33 4 (rFloorT8 w) [] (fun _ => false) 2 0 (by kernel_rfl) (by kernel_rfl) (by kernel_rfl) (by kernel_rfl) (by kernel_rfl) (EachX.of_all (fun _ h => by cases h) _) ?_ ?_
        · refine ⟨fun a' w' F => StepG.run rfl (wanted_none rfl) (arm_fieldF rfl (F.keep 1 (Value.pointer (some ⟨w.heap.size, 0, none⟩)) (by kernel_rfl) rfl).is (run_field0 _)).b, ?_⟩
          refine ⟨fun a' w' F => StepG.run rfl (wanted_none rfl) (arm_loadS rfl (F.at' 0 26 _ rfl (by kernel_rfl)).is (V0.mono F.below)).b, ?_⟩
          exact trivial
        intro E' hE gp wp bp G Gs
        obtain rfl : E' = [] := by simpa [subs] using hE
        have e_1 : gp 1 = Value.bool true := G 1 27 _ (by simp) rfl
        clear G Gs hE
        simp only [rFloorT8]
        simp only [putD, entries, List.map_cons, List.map_nil, List.foldl_cons, List.foldl_nil, Act.put, List.setIfInBounds_toArray, List.set_cons_zero, List.set_cons_succ, e_1]
        refine wpAny_done (by kernel_rfl) ?_ _
        go_wp2_with fail
        go_meet
        case rel => exact ⟨rfl, (V0.mono bp), (V4.mono bp), (V5.mono bp), (hb1.trans (bp.mono hb1.size))⟩
      case rest =>
      clear V0 V4 V5 hb1
      obtain ⟨rfl, V0, V4, V5, hb1⟩ := hcut
      by_cases h63 : m ≤ 9223372036854775808
      · have HB : Hid (false = decide (0 < C)) := Lib.hid (by symm; apply decide_eq_false; rw [← hC.out, cmpI_pos]; omega)
        obtain rfl : r = (-(m : Int), true) := by rw [hF.out, if_pos rfl, if_pos h63]
        clear hF hm
        have HM := Lib.hid h63
        clear h63
        go_upto_region 5 with (fail)
        go_cut [31] (fun s_31 wx => s_31 = Value.bool false ∧ VarQ wx w.heap.size (Fq.mk true xp xq) ∧ VarI wx g4 m ∧ VarI wx g5 R ∧ Below w.heap.size w wx)
        case first =>
          refine wp_tabG Try.f33 5 (rFloorT9 m C) [] (fun _ => false) 3 0 (by kernel_rfl) (by kernel_rfl) (by kernel_rfl) (by kernel_rfl) (by kernel_rfl) (EachX.of_all (fun _ h => by cases h) _) ?_ ?_
          · refine ⟨fun a' w' F => StepG.run rfl (wanted_none rfl) (arm_load rfl (F.keep 4 (Value.pointer (some ⟨g4, 0, none⟩)) (by kernel_rfl) rfl).is (V4.mono F.below)).b, ?_⟩
            refine ⟨fun a' w' F => StepG.run rfl (wanted_none rfl) (arm_C1 rfl (enters Try.func54 rfl rfl) Is.const (fun va w h1 => by have e_va : va = _ := h1; subst e_va; exact c_ref_Of 9223372036854775808 w (by decide)) (fun _ _ h => ofNew h)).b, ?_⟩
            refine ⟨fun a' w' F => StepG.run rfl (wanted_none rfl) (arm_C2 rfl (enters Try.func60 rfl rfl) (F.at' 0 28 _ rfl (by kernel_rfl)).is (F.at' 1 29 _ rfl (by kernel_rfl)).is (fun va vb w h1 h2 => c_ref_Cmp va vb m 9223372036854775808 w h1 h2 bm (by decide)) (fun _ _ h => by have h' : RetV _ _ _ _ := h; rw [hC.out] at h'; exact ofV h')).b, ?_⟩
            refine ⟨fun a' w' F => StepG.run rfl (wanted_none rfl) (arm_bin rfl (F.at' 2 30 _ rfl (by kernel_rfl)).is Is.const (fun _ => rfl) (fun w => by rw [HB.out]; rfl)).b, ?_⟩
            exact trivial
          intro E' hE gp wp bp G Gs
          obtain rfl : E' = [] := by simpa [subs] using hE
          have e_3 : gp 3 = Value.bool false := G 3 31 _ (by simp) rfl
          clear G Gs hE
          simp only [rFloorT9]
          simp only [putD, entries, List.map_cons, List.map_nil, List.foldl_cons, List.foldl_nil, Act.put, List.setIfInBounds_toArray, List.set_cons_zero, List.set_cons_succ, e_3]
          refine wpAny_done (by kernel_rfl) ?_ _
          go_wp2_with fail
          go_meet
          case rel => exact ⟨rfl, (V0.mono bp), (V4.mono bp), (V5.mono bp), (hb1.trans (bp.mono hb1.size))⟩
        case rest =>
        clear V0 V4 V5 hb1
        obtain ⟨rfl, V0, V4, V5, hb1⟩ := hcut
        have hml : m < 18446744073709551616 := by have := HM.out; omega
        obtain ⟨y4, d4, q4, i4⟩ := V4
        have e4 := q4.cell
        go_wp2_with fail
        refine (c_low _ m _ i4 hml).mono ?_
        rintro e w2 ⟨rfl, bb⟩
        replace hb1 := hb1.trans (bb.mono hb1.size)
        clear V0 V5 i4 q4 e4 bb hml bp bq bD bR bm bpp bqq
        by_cases h0 : m = 0
        · subst h0
          clear HM
          go_wp2
          go_ret2
          refine ⟨?_, hb1⟩
          show Ending.returned (.tuple #[.int .i64 (wrap64 (wrap64 (-wrap64 (IntKind.u64.wrap (-1))) - 1)), .bool true]) = _
          rw [show wrap64 (wrap64 (-wrap64 (IntKind.u64.wrap (-1))) - 1) = 0 by decide +kernel]
          rfl
        · have h0i : 1 ≤ (m : Int) := by omega
          have h63i : (m : Int) ≤ 9223372036854775808 := by have := HM.out; omega
          have e : (-((m : Int) - 1) - 1) = -(m : Int) := by omega
          generalize hM : (m : Int) = M at *
          replace hM := Lib.hid hM
          replace e := Lib.hid e
          clear h0 HM
          go_wp2
          go_ret2
          refine ⟨?_, hb1⟩
          have := hM.out
          subst this
          show Ending.returned (.tuple #[.int .i64 (-((m : Int) - 1) - 1), .bool true]) = _
          rw [e.out]
      · have HB : Hid (true = decide (0 < C)) := Lib.hid (by symm; apply decide_eq_true; rw [← hC.out, cmpI_pos]; omega)
        obtain rfl : r = (0, false) := by rw [hF.out, if_pos rfl, if_neg h63]
        clear hF hm h63
        go_upto_region 5 with (fail)
        go_cut [31] (fun s_31 wx => s_31 = Value.bool true ∧ VarQ wx w.heap.size (Fq.mk true xp xq) ∧ VarI wx g4 m ∧ VarI wx g5 R ∧ Below w.heap.size w wx)
        case first =>
          refine wp_tabG Try.f33 5 (rFloorT10 m C) [] (fun _ => false) 3 0 (by kernel_rfl) (by kernel_rfl) (by kernel_rfl) (by kernel_rfl) (by kernel_rfl) (EachX.of_all (fun _ h => by cases h) _) ?_ ?_
          · refine ⟨fun a' w' F => StepG.run rfl (wanted_none rfl) (arm_load rfl (F.keep 4 (Value.pointer (some ⟨g4, 0, none⟩)) (by kernel_rfl) rfl).is (V4.mono F.below)).b, ?_⟩
            refine ⟨fun a' w' F => StepG.run rfl (wanted_none rfl) (arm_C1 rfl (enters Try.func54 rfl rfl) Is.const (fun va w h1 => by have e_va : va = _ := h1; subst e_va; exact c_ref_Of 9223372036854775808 w (by decide)) (fun _ _ h => ofNew h)).b, ?_⟩
            refine ⟨fun a' w' F => StepG.run rfl (wanted_none rfl) (arm_C2 rfl (enters Try.func60 rfl rfl) (F.at' 0 28 _ rfl (by kernel_rfl)).is (F.at' 1 29 _ rfl (by kernel_rfl)).is (fun va vb w h1 h2 => c_ref_Cmp va vb m 9223372036854775808 w h1 h2 bm (by decide)) (fun _ _ h => by have h' : RetV _ _ _ _ := h; rw [hC.out] at h'; exact ofV h')).b, ?_⟩
            refine ⟨fun a' w' F => StepG.run rfl (wanted_none rfl) (arm_bin rfl (F.at' 2 30 _ rfl (by kernel_rfl)).is Is.const (fun _ => rfl) (fun w => by rw [HB.out]; rfl)).b, ?_⟩
            exact trivial
          intro E' hE gp wp bp G Gs
          obtain rfl : E' = [] := by simpa [subs] using hE
          have e_3 : gp 3 = Value.bool true := G 3 31 _ (by simp) rfl
          clear G Gs hE
          simp only [rFloorT10]
          simp only [putD, entries, List.map_cons, List.map_nil, List.foldl_cons, List.foldl_nil, Act.put, List.setIfInBounds_toArray, List.set_cons_zero, List.set_cons_succ, e_3]
          refine wpAny_done (by kernel_rfl) ?_ _
          go_wp2_with fail
          go_meet
          case rel => exact ⟨rfl, (V0.mono bp), (V4.mono bp), (V5.mono bp), (hb1.trans (bp.mono hb1.size))⟩
        case rest =>
        clear V0 V4 V5 hb1
        obtain ⟨rfl, V0, V4, V5, hb1⟩ := hcut
        go_wp2
        go_ret2
        exact ⟨rfl, hb1⟩
  · have hDm : Hid (m = xp / xq) := Lib.hid (by rw [hm.out]; unfold Fq.flM; rw [if_neg]; rintro ⟨h1, _⟩; cases h1)
    obtain ⟨a0, c0, b0, d0, rfl, m0, k0⟩ := boxF ha
    clear ha
    go_enter Try.func33, Try.ntmps33
    go_upto_region 0 with (fail)
    go_cut [1, 2, 3] (fun s_1 s_2 s_3 wx => s_1 = Value.pointer (some ⟨w.heap.size, 0, none⟩) ∧ s_2 = Value.int IntKind.i64 0 ∧ s_3 = Value.bool false ∧ VarQ wx w.heap.size (Fq.mk false xp xq) ∧ Below w.heap.size w wx)
    case first =>
      go_wp2_with fail
      go_meet
      case rel => exact ⟨rfl, rfl, rfl, k0, m0⟩
    case rest =>
    clear m0 k0
    obtain ⟨rfl, rfl, rfl, V0, hb1⟩ := hcut
    go_upto_region 1 with (fail)
    go_cut [4, 5] (fun s_4 s_5 wx => ∃ g4 g5, s_4 = Value.pointer (some ⟨g4, 0, none⟩) ∧ s_5 = Value.pointer (some ⟨g5, 0, none⟩) ∧ w.heap.size + 1 ≤ g4 ∧ w.heap.size + 1 ≤ g5 ∧ g4 ≠ g5 ∧ VarI wx g4 m ∧ VarI wx g5 R ∧ VarQ wx w.heap.size (Fq.mk false xp xq) ∧ Below w.heap.size w wx)
    case first =>
      obtain ⟨base, hbase0⟩ : ∃ b : Nat, Hid (b = wc.heap.size) := ⟨_, Lib.hid rfl⟩
      have hbase : base ≤ wc.heap.size := by rw [hbase0.out]; exact Nat.le_refl _
      have hbw : w.heap.size + 1 ≤ base := by have := hb1.size; have h1 := V0.lt; rw [hbase0.out]; omega
      have l_V0 : w.heap.size < base := by rw [hbase0.out]; exact V0.lt
      refine wp_tabGF Try.f33 1 (rFloorT11 w xp xq R m R base) [7, 8] (fun i => i == 9 || i == 10) 8 3 (by kernel_rfl) (by kernel_rfl) (by kernel_rfl) (by kernel_rfl) (by kernel_rfl) ⟨fun h => (by cases h), ⟨fun h => (by cases h), ⟨fun h => (by cases h), ⟨fun h => (by cases h), ⟨fun h => (by cases h), ⟨fun h => (by cases h), ⟨fun h => (by cases h), ⟨fun h => (by cases h), ⟨fun h => (by cases h), ⟨fun _ w v h => Sp.var_lt h, ⟨fun _ w v h => Sp.var_lt h, trivial⟩⟩⟩⟩⟩⟩⟩⟩⟩⟩⟩ ?_ ?_
      · refine ⟨fun a' w' F => StepG.run rfl (wanted_none rfl) (arm_fieldF rfl (F.keep 1 (Value.pointer (some ⟨w.heap.size, 0, none⟩)) (by kernel_rfl) rfl).is (run_field1 _)).b, ?_⟩
        refine ⟨fun a' w' F => StepG.run rfl (wanted_none rfl) (arm_load1 rfl (F.at' 0 8 _ rfl (by kernel_rfl)).is (V0.mono F.below)).b, ?_⟩
        refine ⟨fun a' w' F => StepG.run rfl (wanted_none rfl) (arm_fieldF rfl (F.keep 1 (Value.pointer (some ⟨w.heap.size, 0, none⟩)) (by kernel_rfl) rfl).is (run_field2 _)).b, ?_⟩
        refine ⟨fun a' w' F => StepG.run rfl (wanted_none rfl) (arm_load2 rfl (F.at' 2 10 _ rfl (by kernel_rfl)).is (V0.mono F.below)).b, ?_⟩
        refine ⟨fun a' w' F => StepG.run rfl (wanted_none rfl) (arm_C2 rfl (enters Try.func66 rfl rfl) (F.at' 1 9 _ rfl (by kernel_rfl)).is (F.at' 3 11 _ rfl (by kernel_rfl)).is (fun va vb w h1 h2 => c_ref_DivMod va vb xp xq w h1 h2 bpp bqq HQ.out) (fun _ _ h => by rw [hDm.out]; rw [hR.out]; exact ofDiv h)).b, ?_⟩
        refine ⟨fun a' w' F => StepG.run rfl (wanted_none rfl) (arm_move (.inl rfl) (F.at' 4 12 _ rfl (by kernel_rfl)).is).b, ?_⟩
        refine ⟨fun a' w' F => StepG.run rfl (wanted_none rfl) (arm_trip0 rfl (F.at' 5 7 _ rfl (by kernel_rfl)).is).b, ?_⟩
        refine ⟨fun a' w' F => StepG.run rfl (wanted_none rfl) (arm_trip1 rfl (F.at' 5 7 _ rfl (by kernel_rfl)).is).b, ?_⟩
        refine ⟨fun a' w' F => StepG.run rfl (wanted_none rfl) (arm_trip2 rfl (F.at' 5 7 _ rfl (by kernel_rfl)).is).b, ?_⟩
        refine ⟨fun a' w' F => StepG.run rfl (wanted_none rfl) (arm_alloc rfl (Nat.le_trans hbase F.below.size)), ?_⟩
        refine ⟨fun a' w' F => StepG.run rfl (wanted_none rfl) (arm_alloc rfl (Nat.le_trans hbase F.below.size)), ?_⟩
        exact trivial
      intro E' hE gp wp bp G Gs
      simp only [subs, List.map_cons, List.map_nil, List.nil_append, List.cons_append, List.mem_cons, List.not_mem_nil, or_false, List.append_nil] at hE
      rcases hE with rfl | rfl | rfl | rfl
      · obtain ⟨g4, e_9, lg_9, hv_9⟩ := G 9 4 _ (by simp) rfl
        obtain ⟨g5, e_10, lg_10, hv_10⟩ := G 10 5 _ (by simp) rfl
        have n_6 : (Sp.nat (m)).p wp (gp 6) := G 6 13 _ (by simp) rfl
        have n_7 : (Sp.nat (R)).p wp (gp 7) := G 7 14 _ (by simp) rfl
        have e_8 : gp 8 = Value.int IntKind.i64 0 := G 8 15 _ (by simp) rfl
        have ne_9_10 : g4 ≠ g5 := by have h := Gs 9 10 rfl rfl (by simp) (by simp) rfl rfl (by decide); rw [e_9, e_10] at h; exact h
        clear G Gs
        simp only [rFloorT11]
        simp only [putD, entries, List.map_cons, List.map_nil, List.foldl_cons, List.foldl_nil, Act.put, List.setIfInBounds_toArray, List.set_cons_zero, List.set_cons_succ, e_9, e_10, e_8]
        have T0 := hv_9
        refine wpAny_storeN (j := 11) (by kernel_rfl) rfl rfl rfl rfl rfl n_6 T0.any ?_
        intro w0 u0 v0
        have O0 := T0.own
        have T1 := (hv_10.upd O0 u0 (by omega))
        refine wpAny_storeN (j := 12) (by kernel_rfl) rfl rfl rfl rfl rfl (n_7.upd O0 u0) T1.any ?_
        intro w1 u1 v1
        have O1 := T1.own
        refine wpAny_takeD (i := 13) (d := some 6) (v := Value.int IntKind.i64 0) rfl rfl (by kernel_rfl) (by kernel_rfl) (by kernel_rfl) (fun _ _ _ h => h) (Or.inl ⟨by rfl, fun w => by rfl⟩) ?_
        try simp only [Act.put, List.setIfInBounds_toArray, List.set_cons_zero, List.set_cons_succ]
        refine wpAny_done (by kernel_rfl) ?_ _
        go_wp2_with fail
        go_meet
        case rel => exact ⟨g4, g5, rfl, rfl, (by omega), (by omega), (by omega), (v0.upd O1 u1 (by omega)), v1, (((V0.mono bp).upd O0 u0 (by omega)).upd O1 u1 (by omega)), (Upd.below (Upd.below (hb1.trans (bp.mono hb1.size)) u0 (by omega)) u1 (by omega))⟩
      · obtain ⟨g4, e_9, lg_9, hv_9⟩ := G 9 4 _ (by simp) rfl
        obtain ⟨g5, e_10, lg_10, hv_10⟩ := G 10 5 _ (by simp) rfl
        obtain ⟨x_5_0, x_5_1, x_5_2, e_5, n_5_0, n_5_1, rfl⟩ := G 5 7 _ (by simp) rfl
        have n_6 : (Sp.nat (m)).p wp (gp 6) := G 6 13 _ (by simp) rfl
        have n_7 : (Sp.nat (R)).p wp (gp 7) := G 7 14 _ (by simp) rfl
        have ne_9_10 : g4 ≠ g5 := by have h := Gs 9 10 rfl rfl (by simp) (by simp) rfl rfl (by decide); rw [e_9, e_10] at h; exact h
        clear G Gs
        simp only [rFloorT11]
        simp only [putD, entries, List.map_cons, List.map_nil, List.foldl_cons, List.foldl_nil, Act.put, List.setIfInBounds_toArray, List.set_cons_zero, List.set_cons_succ, e_9, e_10, e_5]
        refine wpAny_takeD (i := 8) (d := some 15) (v := Value.int IntKind.i64 0) rfl rfl (by kernel_rfl) (by kernel_rfl) (by kernel_rfl) (fun _ _ _ h => h) (Or.inl ⟨by rfl, fun w => by rfl⟩) ?_
        try simp only [Act.put, List.setIfInBounds_toArray, List.set_cons_zero, List.set_cons_succ]
        have T0 := hv_9
        refine wpAny_storeN (j := 11) (by kernel_rfl) rfl rfl rfl rfl rfl n_6 T0.any ?_
        intro w0 u0 v0
        have O0 := T0.own
        have T1 := (hv_10.upd O0 u0 (by omega))
        refine wpAny_storeN (j := 12) (by kernel_rfl) rfl rfl rfl rfl rfl (n_7.upd O0 u0) T1.any ?_
        intro w1 u1 v1
        have O1 := T1.own
        refine wpAny_takeD (i := 13) (d := some 6) (v := Value.int IntKind.i64 0) rfl rfl (by kernel_rfl) (by kernel_rfl) (by kernel_rfl) (fun _ _ _ h => h) (Or.inl ⟨by rfl, fun w => by rfl⟩) ?_
        try simp only [Act.put, List.setIfInBounds_toArray, List.set_cons_zero, List.set_cons_succ]
        refine wpAny_done (by kernel_rfl) ?_ _
        go_wp2_with fail
        go_meet
        case rel => exact ⟨g4, g5, rfl, rfl, (by omega), (by omega), (by omega), (v0.upd O1 u1 (by omega)), v1, (((V0.mono bp).upd O0 u0 (by omega)).upd O1 u1 (by omega)), (Upd.below (Upd.below (hb1.trans (bp.mono hb1.size)) u0 (by omega)) u1 (by omega))⟩
      · obtain ⟨g4, e_9, lg_9, hv_9⟩ := G 9 4 _ (by simp) rfl
        obtain ⟨g5, e_10, lg_10, hv_10⟩ := G 10 5 _ (by simp) rfl
        obtain ⟨x_5_0, x_5_1, x_5_2, e_5, n_5_0, n_5_1, rfl⟩ := G 5 7 _ (by simp) rfl
        have n_6 : (Sp.nat (m)).p wp (gp 6) := G 6 13 _ (by simp) rfl
        have e_8 : gp 8 = Value.int IntKind.i64 0 := G 8 15 _ (by simp) rfl
        have ne_9_10 : g4 ≠ g5 := by have h := Gs 9 10 rfl rfl (by simp) (by simp) rfl rfl (by decide); rw [e_9, e_10] at h; exact h
        clear G Gs
        simp only [rFloorT11]
        simp only [putD, entries, List.map_cons, List.map_nil, List.foldl_cons, List.foldl_nil, Act.put, List.setIfInBounds_toArray, List.set_cons_zero, List.set_cons_succ, e_9, e_10, e_5, e_8]
        refine wpAny_takeD (i := 7) (d := some 14) (v := x_5_1) rfl rfl (by kernel_rfl) (by kernel_rfl) (by kernel_rfl) (fun _ _ _ h => h) (Or.inl ⟨by rfl, fun w => by rfl⟩) ?_
        try simp only [Act.put, List.setIfInBounds_toArray, List.set_cons_zero, List.set_cons_succ]
        have T0 := hv_9
        refine wpAny_storeN (j := 11) (by kernel_rfl) rfl rfl rfl rfl rfl n_6 T0.any ?_
        intro w0 u0 v0
        have O0 := T0.own
        have T1 := (hv_10.upd O0 u0 (by omega))
        refine wpAny_storeN (j := 12) (by kernel_rfl) rfl rfl rfl rfl rfl (n_5_1.upd O0 u0) T1.any ?_
        intro w1 u1 v1
        have O1 := T1.own
        refine wpAny_takeD (i := 13) (d := some 6) (v := Value.int IntKind.i64 0) rfl rfl (by kernel_rfl) (by kernel_rfl) (by kernel_rfl) (fun _ _ _ h => h) (Or.inl ⟨by rfl, fun w => by rfl⟩) ?_
        try simp only [Act.put, List.setIfInBounds_toArray, List.set_cons_zero, List.set_cons_succ]
        refine wpAny_done (by kernel_rfl) ?_ _
        go_wp2_with fail
        go_meet
        case rel => exact ⟨g4, g5, rfl, rfl, (by omega), (by omega), (by omega), (v0.upd O1 u1 (by omega)), v1, (((V0.mono bp).upd O0 u0 (by omega)).upd O1 u1 (by omega)), (Upd.below (Upd.below (hb1.trans (bp.mono hb1.size)) u0 (by omega)) u1 (by omega))⟩
      · obtain ⟨g4, e_9, lg_9, hv_9⟩ := G 9 4 _ (by simp) rfl
        obtain ⟨g5, e_10, lg_10, hv_10⟩ := G 10 5 _ (by simp) rfl
        obtain ⟨x_5_0, x_5_1, x_5_2, e_5, n_5_0, n_5_1, rfl⟩ := G 5 7 _ (by simp) rfl
        have n_6 : (Sp.nat (m)).p wp (gp 6) := G 6 13 _ (by simp) rfl
        have ne_9_10 : g4 ≠ g5 := by have h := Gs 9 10 rfl rfl (by simp) (by simp) rfl rfl (by decide); rw [e_9, e_10] at h; exact h
        clear G Gs
        simp only [rFloorT11]
        simp only [putD, entries, List.map_cons, List.map_nil, List.foldl_cons, List.foldl_nil, Act.put, List.setIfInBounds_toArray, List.set_cons_zero, List.set_cons_succ, e_9, e_10, e_5]
        refine wpAny_takeD (i := 7) (d := some 14) (v := x_5_1) rfl rfl (by kernel_rfl) (by kernel_rfl) (by kernel_rfl) (fun _ _ _ h => h) (Or.inl ⟨by rfl, fun w => by rfl⟩) ?_
        try simp only [Act.put, List.setIfInBounds_toArray, List.set_cons_zero, List.set_cons_succ]
        refine wpAny_takeD (i := 8) (d := some 15) (v := Value.int IntKind.i64 0) rfl rfl (by kernel_rfl) (by kernel_rfl) (by kernel_rfl) (fun _ _ _ h => h) (Or.inl ⟨by rfl, fun w => by rfl⟩) ?_
        try simp only [Act.put, List.setIfInBounds_toArray, List.set_cons_zero, List.set_cons_succ]
        have T0 := hv_9
        refine wpAny_storeN (j := 11) (by kernel_rfl) rfl rfl rfl rfl rfl n_6 T0.any ?_
        intro w0 u0 v0
        have O0 := T0.own
        have T1 := (hv_10.upd O0 u0 (by omega))
        refine wpAny_storeN (j := 12) (by kernel_rfl) rfl rfl rfl rfl rfl (n_5_1.upd O0 u0) T1.any ?_
        intro w1 u1 v1
        have O1 := T1.own
        refine wpAny_takeD (i := 13) (d := some 6) (v := Value.int IntKind.i64 0) rfl rfl (by kernel_rfl) (by kernel_rfl) (by kernel_rfl) (fun _ _ _ h => h) (Or.inl ⟨by rfl, fun w => by rfl⟩) ?_
        try simp only [Act.put, List.setIfInBounds_toArray, List.set_cons_zero, List.set_cons_succ]
        refine wpAny_done (by kernel_rfl) ?_ _
        go_wp2_with fail
        go_meet
        case rel => exact ⟨g4, g5, rfl, rfl, (by omega), (by omega), (by omega), (v0.upd O1 u1 (by omega)), v1, (((V0.mono bp).upd O0 u0 (by omega)).upd O1 u1 (by omega)), (Upd.below (Upd.below (hb1.trans (bp.mono hb1.size)) u0 (by omega)) u1 (by omega))⟩
    case rest =>
    clear V0 hb1
    obtain ⟨g4, g5, rfl, rfl, lg4, lg5, d1_0, V4, V5, V0, hb1⟩ := hcut
    go_upto_region 2 with (fail)
    go_cut [22] (fun s_22 wx => s_22 = Value.bool false ∧ VarQ wx w.heap.size (Fq.mk false xp xq) ∧ VarI wx g4 m ∧ VarI wx g5 R ∧ Below w.heap.size w wx)
    case first =>
      refine wp_tabGF Try.f33 2 (rFloorT12 w) [] (fun _ => false) 7 0 (by kernel_rfl) (by kernel_rfl) (by kernel_rfl) (by kernel_rfl) (by kernel_rfl) (EachX.of_all (fun _ h => by cases h) _) ?_ ?_
      · refine ⟨fun a' w' F => StepG.run rfl (wanted_none rfl) (arm_fieldF rfl (F.keep 1 (Value.pointer (some ⟨w.heap.size, 0, none⟩)) (by kernel_rfl) rfl).is (run_field0 _)).b, ?_⟩
        refine ⟨fun a' w' F => StepG.run rfl (wanted_none rfl) (arm_loadS rfl (F.at' 0 16 _ rfl (by kernel_rfl)).is (V0.mono F.below)).b, ?_⟩
        refine ⟨fun a' w' F => StepG.run rfl (wanted_none rfl) (arm_move (.inl rfl) (F.at' 1 17 _ rfl (by kernel_rfl)).is).b, ?_⟩
        refine ⟨fun a' w' F => StepG.skip rfl (unwanted rfl rfl (F.at' 2 18 _ rfl (by kernel_rfl)) rfl) rfl, ?_⟩
        refine ⟨fun a' w' F => StepG.skip rfl (unwanted rfl rfl (F.at' 2 18 _ rfl (by kernel_rfl)) rfl) rfl, ?_⟩
        refine ⟨fun a' w' F => StepG.skip rfl (unwanted rfl rfl (F.at' 2 18 _ rfl (by kernel_rfl)) rfl) rfl, ?_⟩
        refine ⟨fun a' w' F => StepG.run rfl (wanted_none rfl) (arm_pick rfl (F.at' 2 18 _ rfl (by kernel_rfl)).is (fun h => by cases h) (fun _ => Is.const)).b, ?_⟩
        exact trivial
      intro E' hE gp wp bp G Gs
      obtain rfl : E' = [] := by simpa [subs] using hE
      have e_6 : gp 6 = Value.bool false := G 6 22 _ (by simp) rfl
      clear G Gs hE
      simp only [rFloorT12]
      simp only [putD, entries, List.map_cons, List.map_nil, List.foldl_cons, List.foldl_nil, Act.put, List.setIfInBounds_toArray, List.set_cons_zero, List.set_cons_succ, e_6]
      refine wpAny_done (by kernel_rfl) ?_ _
      go_wp2_with fail
      go_meet
      case rel => exact ⟨rfl, (V0.mono bp), (V4.mono bp), (V5.mono bp), (hb1.trans (bp.mono hb1.size))⟩
    case rest =>
    clear V0 V4 V5 hb1
    obtain ⟨rfl, V0, V4, V5, hb1⟩ := hcut
    go_upto_region 4 with (fail)
    go_cut [27] (fun s_27 wx => s_27 = Value.bool false ∧ VarQ wx w.heap.size (Fq.mk false xp xq) ∧ VarI wx g4 m ∧ VarI wx g5 R ∧ Below w.heap.size w wx)
    case first =>
      refine wp_tabGF Try.f33 4 (rFloorT13 w) [] (fun _ => false) 2 0 (by kernel_rfl) (by kernel_rfl) (by kernel_rfl) (by kernel_rfl) (by kernel_rfl) (EachX.of_all (fun _ h => by cases h) _) ?_ ?_
      · refine ⟨fun a' w' F => StepG.run rfl (wanted_none rfl) (arm_fieldF rfl (F.keep 1 (Value.pointer (some ⟨w.heap.size, 0, none⟩)) (by kernel_rfl) rfl).is (run_field0 _)).b, ?_⟩
        refine ⟨fun a' w' F => StepG.run rfl (wanted_none rfl) (arm_loadS rfl (F.at' 0 26 _ rfl (by kernel_rfl)).is (V0.mono F.below)).b, ?_⟩
        exact trivial
      intro E' hE gp wp bp G Gs
      obtain rfl : E' = [] := by simpa [subs] using hE
      have e_1 : gp 1 = Value.bool false := G 1 27 _ (by simp) rfl
      clear G Gs hE
      simp only [rFloorT13]
      simp only [putD, entries, List.map_cons, List.map_nil, List.foldl_cons, List.foldl_nil, Act.put, List.setIfInBounds_toArray, List.set_cons_zero, List.set_cons_succ, e_1]
      refine wpAny_done (by kernel_rfl) ?_ _
      go_wp2_with fail
      go_meet
      case rel => exact ⟨rfl, (V0.mono bp), (V4.mono bp), (V5.mono bp), (hb1.trans (bp.mono hb1.size))⟩
    case rest =>
    clear V0 V4 V5 hb1
    obtain ⟨rfl, V0, V4, V5, hb1⟩ := hcut
    by_cases h63 : m < 9223372036854775808
    · have HB : Hid (false = decide (0 ≤ C)) := Lib.hid (by symm; apply decide_eq_false; rw [← hC.out, cmpI_nn]; omega)
      obtain rfl : r = ((m : Int), true) := by rw [hF.out, if_neg Bool.false_ne_true, if_pos h63]
      clear hF hm
      have HM := Lib.hid h63
      clear h63
      go_upto_region 8 with (fail)
      go_cut [41] (fun s_41 wx => s_41 = Value.bool false ∧ VarQ wx w.heap.size (Fq.mk false xp xq) ∧ VarI wx g4 m ∧ VarI wx g5 R ∧ Below w.heap.size w wx)
      case first =>
        refine wp_tabG Try.f33 8 (rFloorT14 m C) [] (fun _ => false) 3 0 (by kernel_rfl) (by kernel_rfl) (by kernel_rfl) (by kernel_rfl) (by kernel_rfl) (EachX.of_all (fun _ h => by cases h) _) ?_ ?_
        · refine ⟨fun a' w' F => StepG.run rfl (wanted_none rfl) (arm_load rfl (F.keep 4 (Value.pointer (some ⟨g4, 0, none⟩)) (by kernel_rfl) rfl).is (V4.mono F.below)).b, ?_⟩
          refine ⟨fun a' w' F => StepG.run rfl (wanted_none rfl) (arm_C1 rfl (enters Try.func54 rfl rfl) Is.const (fun va w h1 => by have e_va : va = _ := h1; subst e_va; exact c_ref_Of 9223372036854775808 w (by decide)) (fun _ _ h => ofNew h)).b, ?_⟩
          refine ⟨fun a' w' F => StepG.run rfl (wanted_none rfl) (arm_C2 rfl (enters Try.func60 rfl rfl) (F.at' 0 38 _ rfl (by kernel_rfl)).is (F.at' 1 39 _ rfl (by kernel_rfl)).is (fun va vb w h1 h2 => c_ref_Cmp va vb m 9223372036854775808 w h1 h2 bm (by decide)) (fun _ _ h => by have h' : RetV _ _ _ _ := h; rw [hC.out] at h'; exact ofV h')).b, ?_⟩
          refine ⟨fun a' w' F => StepG.run rfl (wanted_none rfl) (arm_bin rfl (F.at' 2 40 _ rfl (by kernel_rfl)).is Is.const (fun _ => rfl) (fun w => by rw [HB.out]; rfl)).b, ?_⟩
          exact trivial
        intro E' hE gp wp bp G Gs
        obtain rfl : E' = [] := by simpa [subs] using hE
        have e_3 : gp 3 = Value.bool false := G 3 41 _ (by simp) rfl
        clear G Gs hE
        simp only [rFloorT14]
        simp only [putD, entries, List.map_cons, List.map_nil, List.foldl_cons, List.foldl_nil, Act.put, List.setIfInBounds_toArray, List.set_cons_zero, List.set_cons_succ, e_3]
        refine wpAny_done (by kernel_rfl) ?_ _
        go_wp2_with fail
        go_meet
        case rel => exact ⟨rfl, (V0.mono bp), (V4.mono bp), (V5.mono bp), (hb1.trans (bp.mono hb1.size))⟩
      case rest =>
      clear V0 V4 V5 hb1
      obtain ⟨rfl, V0, V4, V5, hb1⟩ := hcut
      have hml : m < 18446744073709551616 := by have := HM.out; omega
      obtain ⟨y4, d4, q4, i4⟩ := V4
      have e4 := q4.cell
      go_wp2_with fail
      refine (c_low _ m _ i4 hml).mono ?_
      rintro e w2 ⟨rfl, bb⟩
      replace hb1 := hb1.trans (bb.mono hb1.size)
      clear V0 V5 i4 q4 e4 bb hml bp bq bD bR bm bpp bqq
      have h0i : 0 ≤ (m : Int) := by omega
      have h63i : (m : Int) ≤ 9223372036854775807 := by have := HM.out; omega
      generalize hM : (m : Int) = M at *
      replace hM := Lib.hid hM
      clear HM
      go_wp2
      go_ret2
      have := hM.out
      subst this
      exact ⟨rfl, hb1⟩
    · have HB : Hid (true = decide (0 ≤ C)) := Lib.hid (by symm; apply decide_eq_true; rw [← hC.out, cmpI_nn]; omega)
      obtain rfl : r = (0, false) := by rw [hF.out, if_neg Bool.false_ne_true, if_neg h63]
      clear hF hm h63
      go_upto_region 8 with (fail)
      go_cut [41] (fun s_41 wx => s_41 = Value.bool true ∧ VarQ wx w.heap.size (Fq.mk false xp xq) ∧ VarI wx g4 m ∧ VarI wx g5 R ∧ Below w.heap.size w wx)
      case first =>
        refine wp_tabG Try.f33 8 (rFloorT15 m C) [] (fun _ => false) 3 0 (by kernel_rfl) (by kernel_rfl) (by kernel_rfl) (by kernel_rfl) (by kernel_rfl) (EachX.of_all (fun _ h => by cases h) _) ?_ ?_
        · refine ⟨fun a' w' F => StepG.run rfl (wanted_none rfl) (arm_load rfl (F.keep 4 (Value.pointer (some ⟨g4, 0, none⟩)) (by kernel_rfl) rfl).is (V4.mono F.below)).b, ?_⟩
          refine ⟨fun a' w' F => StepG.run rfl (wanted_none rfl) (arm_C1 rfl (enters Try.func54 rfl rfl) Is.const (fun va w h1 => by have e_va : va = _ := h1; subst e_va; exact c_ref_Of 9223372036854775808 w (by decide)) (fun _ _ h => ofNew h)).b, ?_⟩
          refine ⟨fun a' w' F => StepG.run rfl (wanted_none rfl) (arm_C2 rfl (enters Try.func60 rfl rfl) (F.at' 0 38 _ rfl (by kernel_rfl)).is (F.at' 1 39 _ rfl (by kernel_rfl)).is (fun va vb w h1 h2 => c_ref_Cmp va vb m 9223372036854775808 w h1 h2 bm (by decide)) (fun _ _ h => by have h' : RetV _ _ _ _ := h; rw [hC.out] at h'; exact ofV h')).b, ?_⟩
          refine ⟨fun a' w' F => StepG.run rfl (wanted_none rfl) (arm_bin rfl (F.at' 2 40 _ rfl (by kernel_rfl)).is Is.const (fun _ => rfl) (fun w => by rw [HB.out]; rfl)).b, ?_⟩
          exact trivial
        intro E' hE gp wp bp G Gs
        obtain rfl : E' = [] := by simpa [subs] using hE
        have e_3 : gp 3 = Value.bool true := G 3 41 _ (by simp) rfl
        clear G Gs hE
        simp only [rFloorT15]
        simp only [putD, entries, List.map_cons, List.map_nil, List.foldl_cons, List.foldl_nil, Act.put, List.setIfInBounds_toArray, List.set_cons_zero, List.set_cons_succ, e_3]
        refine wpAny_done (by kernel_rfl) ?_ _
        go_wp2_with fail
        go_meet
        case rel => exact ⟨rfl, (V0.mono bp), (V4.mono bp), (V5.mono bp), (hb1.trans (bp.mono hb1.size))⟩
      case rest =>
      clear V0 V4 V5 hb1
      obtain ⟨rfl, V0, V4, V5, hb1⟩ := hcut
      go_wp2
      go_ret2
      exact ⟨rfl, hb1⟩
end Go.Proofs.Ytldnimohnbjfaaa
