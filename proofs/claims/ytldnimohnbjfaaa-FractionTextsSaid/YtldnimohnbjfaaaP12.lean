/- Floor of package fraction. -/
import Derived.Test.YtldnimohnbjfaaaP11
namespace Go.Proofs.Ytldnimohnbjfaaa
set_option linter.unusedSimpArgs false
set_option linter.unusedVariables false
set_option maxRecDepth 100000
open Go.RowKit
/-- The absolute value of the floor; the floor and whether it is an int64. -/
def Fq.flM (x : Fq) : Nat := if x.s = true ∧ x.p % x.q ≠ 0 then x.p / x.q + 1 else x.p / x.q
def Fq.floor (x : Fq) : Int × Bool := if x.s then (if x.flM ≤ 9223372036854775808 then (-(x.flM : Int), true) else (0, false)) else (if x.flM < 9223372036854775808 then ((x.flM : Int), true) else (0, false))
def RetFl (W : World) (r : Int × Bool) (e : Ending) (w' : World) : Prop := e = .returned (.tuple #[.int .i64 r.1, .bool r.2]) ∧ Below W.heap.size W w'
theorem len2_lt {m k : Nat} : len2 m ≤ k ↔ m < 2 ^ k := by
  unfold len2
  by_cases h : m = 0
  · subst h; rw [if_pos rfl]; exact ⟨fun _ => Nat.pow_pos (by decide), fun _ => Nat.zero_le _⟩
  · rw [if_neg h, ← Nat.log2_lt h]; omega
theorem or64 (a b : Nat) (ha : a < 4294967296) (hb : b < 4294967296) : bits .or .u64 (a : Int) (IntKind.u64.wrap ((b : Int) * 2 ^ 32)) = ((a + 4294967296 * b : Nat) : Int) := by
  have hw : IntKind.u64.wrap ((b : Int) * 2 ^ 32) = ((2 ^ 32 * b : Nat) : Int) := by
    rw [Go.IntWalk.u64_in _ ⟨by omega, by omega⟩]; omega
  rw [hw]
  unfold bits
  show IntKind.u64.wrap (((BitVec.ofInt 64 (a : Int) ||| BitVec.ofInt 64 ((2 ^ 32 * b : Nat) : Int)).toNat : Nat) : Int) = _
  rw [BitVec.ofInt_natCast, BitVec.ofInt_natCast, BitVec.toNat_or, BitVec.toNat_ofNat, BitVec.toNat_ofNat, Nat.mod_eq_of_lt (by omega), Nat.mod_eq_of_lt (by omega), Nat.or_comm, ← Nat.two_pow_add_eq_or_of_lt (i := 32) (by omega), Go.IntWalk.u64_in _ ⟨by omega, by omega⟩]
  congr 1; omega
theorem or0 (b : Nat) (hb : b < 4294967296) : bits .or .u64 0 (IntKind.u64.wrap ((b : Int) * 2 ^ 0)) = (b : Int) := by
  have hw : IntKind.u64.wrap ((b : Int) * 2 ^ 0) = ((b : Nat) : Int) := by
    rw [Go.IntWalk.u64_in _ ⟨by omega, by omega⟩]; omega
  rw [hw]
  unfold bits
  show IntKind.u64.wrap (((BitVec.ofInt 64 ((0 : Nat) : Int) ||| BitVec.ofInt 64 (b : Int)).toNat : Nat) : Int) = _
  rw [BitVec.ofInt_natCast, BitVec.ofInt_natCast, BitVec.toNat_or, BitVec.toNat_ofNat, BitVec.toNat_ofNat, Nat.mod_eq_of_lt (by omega), Nat.mod_eq_of_lt (by omega), Nat.zero_or, Go.IntWalk.u64_in _ ⟨by omega, by omega⟩]
theorem or_step (m k : Nat) (hk : k < 2) : bits .or .u64 ((m : Int) % 4294967296 ^ k) (IntKind.u64.wrap ((D m k : Int) * 2 ^ (32 * k))) = ((m % 4294967296 ^ (k + 1) : Nat) : Int) := by
  have hd := D_lt m k
  obtain rfl | rfl : k = 0 ∨ k = 1 := by omega
  · have e : ((m : Int) % 4294967296 ^ 0) = 0 := by rw [Int.pow_zero]; omega
    rw [e, or0 _ hd]
    unfold D; simp
  · have e : ((m : Int) % 4294967296 ^ 1) = ((m % 4294967296 : Nat) : Int) := by rw [Int.pow_succ, Int.pow_zero]; omega
    rw [e, or64 _ _ (Nat.mod_lt _ (by decide)) hd]
    congr 1
    unfold D
    omega
def fFloorT0 (w : World) (xp : Nat) (xq : Nat) (R : Nat) (m : Nat) (R : Nat) (base : Nat) : List (Nat × Tmp × Sp) :=
   [(0, 11, .val (Value.pointer (some ⟨w.heap.size, 1, none⟩))),
    (1, 12, .nat (xp)),
    (2, 13, .val (Value.pointer (some ⟨w.heap.size, 2, none⟩))),
    (3, 14, .nat (xq)),
    (4, 15, .trip (.nat (m)) (.nat (R)) (.val (Value.int IntKind.i64 0))),
    (5, 10, .trip (.nat (m)) (.nat (R)) (.val (Value.int IntKind.i64 0))),
    (6, 16, .nat (m)),
    (7, 17, .nat (R)),
    (8, 18, .val (Value.int IntKind.i64 0)),
    (9, 4, .var base),
    (10, 5, .var base)]
def fFloorT1  : List (Nat × Tmp × Sp) :=
   [(0, 19, .val (Value.int IntKind.i64 0)),
    (1, 20, .val (Value.bool false))]
def fFloorT2 (w : World) (R : Nat) (R : Nat) : List (Nat × Tmp × Sp) :=
   [(0, 21, .val (Value.pointer (some ⟨w.heap.size, 0, none⟩))),
    (1, 22, .val (Value.bool true)),
    (2, 23, .val (Value.bool true)),
    (3, 24, .nat (R)),
    (4, 25, .val (Value.bool true)),
    (5, 26, .val (Value.bool false)),
    (6, 27, .val (Value.bool false))]
def fFloorT3 (m : Nat) (C : Int) : List (Nat × Tmp × Sp) :=
   [(0, 31, .nat (m)),
    (1, 32, .val (Value.int IntKind.i64 C)),
    (2, 33, .val (Value.bool true))]
def fFloorT4 (m : Nat) (C : Int) : List (Nat × Tmp × Sp) :=
   [(0, 31, .nat (m)),
    (1, 32, .val (Value.int IntKind.i64 C)),
    (2, 33, .val (Value.bool false))]
def fFloorT5 (w : World) (xp : Nat) (xq : Nat) (Dq : Nat) (R : Nat) (Dq : Nat) (R : Nat) (base : Nat) : List (Nat × Tmp × Sp) :=
   [(0, 11, .val (Value.pointer (some ⟨w.heap.size, 1, none⟩))),
    (1, 12, .nat (xp)),
    (2, 13, .val (Value.pointer (some ⟨w.heap.size, 2, none⟩))),
    (3, 14, .nat (xq)),
    (4, 15, .trip (.nat (Dq)) (.nat (R)) (.val (Value.int IntKind.i64 0))),
    (5, 10, .trip (.nat (Dq)) (.nat (R)) (.val (Value.int IntKind.i64 0))),
    (6, 16, .nat (Dq)),
    (7, 17, .nat (R)),
    (8, 18, .val (Value.int IntKind.i64 0)),
    (9, 4, .var base),
    (10, 5, .var base)]
def fFloorT6  : List (Nat × Tmp × Sp) :=
   [(0, 19, .val (Value.int IntKind.i64 0)),
    (1, 20, .val (Value.bool false))]
def fFloorT7 (w : World) (R : Nat) (R : Nat) : List (Nat × Tmp × Sp) :=
   [(0, 21, .val (Value.pointer (some ⟨w.heap.size, 0, none⟩))),
    (1, 22, .val (Value.bool true)),
    (2, 23, .val (Value.bool true)),
    (3, 24, .nat (R)),
    (4, 25, .val (Value.bool false)),
    (5, 26, .val (Value.bool true)),
    (6, 27, .val (Value.bool true))]
def fFloorT8 (Dq : Nat) (m : Nat) (Dq : Nat) : List (Nat × Tmp × Sp) :=
   [(0, 28, .nat (Dq)),
    (1, 29, .nat (1)),
    (2, 30, .nat (m))]
def fFloorT9 (m : Nat) (C : Int) : List (Nat × Tmp × Sp) :=
   [(0, 31, .nat (m)),
    (1, 32, .val (Value.int IntKind.i64 C)),
    (2, 33, .val (Value.bool true))]
def fFloorT10 (m : Nat) (C : Int) : List (Nat × Tmp × Sp) :=
   [(0, 31, .nat (m)),
    (1, 32, .val (Value.int IntKind.i64 C)),
    (2, 33, .val (Value.bool false))]
def fFloorT11 (w : World) (xp : Nat) (xq : Nat) (R : Nat) (m : Nat) (R : Nat) (base : Nat) : List (Nat × Tmp × Sp) :=
   [(0, 11, .val (Value.pointer (some ⟨w.heap.size, 1, none⟩))),
    (1, 12, .nat (xp)),
    (2, 13, .val (Value.pointer (some ⟨w.heap.size, 2, none⟩))),
    (3, 14, .nat (xq)),
    (4, 15, .trip (.nat (m)) (.nat (R)) (.val (Value.int IntKind.i64 0))),
    (5, 10, .trip (.nat (m)) (.nat (R)) (.val (Value.int IntKind.i64 0))),
    (6, 16, .nat (m)),
    (7, 17, .nat (R)),
    (8, 18, .val (Value.int IntKind.i64 0)),
    (9, 4, .var base),
    (10, 5, .var base)]
def fFloorT12  : List (Nat × Tmp × Sp) :=
   [(0, 19, .val (Value.int IntKind.i64 0)),
    (1, 20, .val (Value.bool false))]
def fFloorT13 (w : World) : List (Nat × Tmp × Sp) :=
   [(0, 21, .val (Value.pointer (some ⟨w.heap.size, 0, none⟩))),
    (1, 22, .val (Value.bool false)),
    (2, 23, .val (Value.bool false)),
    (3, 24, .val undef),
    (4, 25, .val undef),
    (5, 26, .val undef),
    (6, 27, .val (Value.bool false))]
def fFloorT14 (m : Nat) (C : Int) : List (Nat × Tmp × Sp) :=
   [(0, 31, .nat (m)),
    (1, 32, .val (Value.int IntKind.i64 C)),
    (2, 33, .val (Value.bool true))]
def fFloorT15 (m : Nat) (C : Int) : List (Nat × Tmp × Sp) :=
   [(0, 31, .nat (m)),
    (1, 32, .val (Value.int IntKind.i64 C)),
    (2, 33, .val (Value.bool false))]
set_option maxHeartbeats 4000000 in
set_option maxRecDepth 20000 in
theorem q_fFloor (va : Value) (x : Fq) (w : World) (ha : IsQ w va x) (h : x.ok 1000000000) :
    Calls Try.prog 32 #[va] w fun e w' => RetFl w x.floor e w' := by
  obtain ⟨xs, xp, xq⟩ := x
  have bp : nl xp ≤ 1000000000000 := Nat.le_trans h.p (by decide)
  have bq : nl xq ≤ 1000000000000 := Nat.le_trans h.q (by decide)
  have HQ : Hid (xq ≠ 0) := Lib.hid h.n
  obtain ⟨Dq, hDq⟩ : ∃ N : Nat, Hid (N = xp / xq) := ⟨_, Lib.hid rfl⟩
  obtain ⟨R, hR⟩ : ∃ N : Nat, Hid (N = xp % xq) := ⟨_, Lib.hid rfl⟩
  obtain ⟨m, hm⟩ : ∃ N : Nat, Hid (N = (Fq.mk xs xp xq).flM) := ⟨_, Lib.hid rfl⟩
  have bD : nl Dq ≤ 1000000000000 := Nat.le_trans (by rw [hDq.out]; exact nl_mono (Nat.div_le_self _ _)) bp
  have bR : nl R ≤ 1000000000000 := Nat.le_trans (by rw [hR.out]; exact nl_mono (Nat.mod_le _ _)) bp
  have bm : nl m ≤ 1000000000000 := by have h2 : m ≤ xp / xq + 1 := (by rw [hm.out]; unfold Fq.flM; split <;> simp only [] <;> omega); exact Nat.le_trans (nl_mono h2) (Nat.le_trans (nl_add2 (Nat.le_trans (nl_mono (Nat.div_le_self _ _)) h.p) (show nl 1 ≤ 1000000000 by decide)) (by decide))
  obtain ⟨r, hr⟩ : ∃ r, Hid (r = (Fq.mk xs xp xq).floor) := ⟨_, Lib.hid rfl⟩
  rw [← hr.out]
  have hF : Hid (r = if xs then (if m ≤ 9223372036854775808 then (-(m : Int), true) else (0, false)) else (if m < 9223372036854775808 then ((m : Int), true) else (0, false))) := Lib.hid (by rw [hr.out, hm.out]; rfl)
  clear hr
  rcases Bool.eq_false_or_eq_true xs with rfl | rfl
  · by_cases hr : R = 0
    · have HR : Hid (decide (R = 0) = true) := Lib.hid (decide_eq_true hr)
      have hDm : Hid (m = xp / xq) := Lib.hid (by rw [hm.out]; unfold Fq.flM; rw [if_neg]; rintro ⟨_, h2⟩; exact h2 (by rw [← hr, hR.out]))
      clear hr
      obtain ⟨a0, c0, b0, d0, rfl, m0, k0⟩ := boxF ha
      clear ha
      go_enter Try.func32, Try.ntmps32
      go_upto_region 0 with (fail)
      go_cut [1, 2, 3] (fun s_1 s_2 s_3 wx => s_1 = Value.pointer (some ⟨w.heap.size, 0, none⟩) ∧ s_2 = Value.int IntKind.i64 0 ∧ s_3 = Value.bool false ∧ VarQ wx w.heap.size (Fq.mk true xp xq) ∧ Below w.heap.size w wx)
      case first =>
        go_wp2_with fail
        go_meet
        case rel => exact ⟨rfl, rfl, rfl, k0, m0⟩
      case rest =>
      clear m0 k0
      obtain ⟨rfl, rfl, rfl, V0, hb1⟩ := hcut
      go_upto_region 1 with (fail)
      go_cut [4, 5, 6] (fun s_4 s_5 s_6 wx => ∃ g4 g5, s_4 = Value.pointer (some ⟨g4, 0, none⟩) ∧ s_5 = Value.pointer (some ⟨g5, 0, none⟩) ∧ s_6 = Value.int IntKind.i64 0 ∧ w.heap.size + 1 ≤ g4 ∧ w.heap.size + 1 ≤ g5 ∧ g4 ≠ g5 ∧ VarI wx g4 m ∧ VarI wx g5 R ∧ VarQ wx w.heap.size (Fq.mk true xp xq) ∧ Below w.heap.size w wx)
      case first =>
        obtain ⟨base, hbase0⟩ : ∃ b : Nat, Hid (b = wc.heap.size) := ⟨_, Lib.hid rfl⟩
        have hbase : base ≤ wc.heap.size := by rw [hbase0.out]; exact Nat.le_refl _
        have hbw : w.heap.size + 1 ≤ base := by have := hb1.size; have h1 := V0.lt; rw [hbase0.out]; omega
        have l_V0 : w.heap.size < base := by rw [hbase0.out]; exact V0.lt
        refine wp_tabGF Try.f32 1 (fFloorT0 w xp xq R m R base) [7, 8] (fun i => i == 9 || i == 10) 8 3 (by kernel_rfl) (by kernel_rfl) (by kernel_rfl) (by kernel_rfl) (by kernel_rfl) ⟨fun h => (by cases h), ⟨fun h => (by cases h), ⟨fun h => (by cases h), ⟨fun h => (by cases h), ⟨fun h => (by cases h), ⟨fun h => (by cases h), ⟨fun h => (by cases h), ⟨fun h => (by cases h), ⟨fun h => (by cases h), ⟨fun _ w v h => Sp.var_lt h, ⟨fun _ w v h => Sp.var_lt h, trivial⟩⟩⟩⟩⟩⟩⟩⟩⟩⟩⟩ ?_ ?_
        · refine ⟨fun _ _ F => gR rfl rfl (arm_fieldF rfl (F.k 1 (Value.pointer (some ⟨w.heap.size, 0, none⟩))) (run_field1 _)).b, ?_⟩
          refine ⟨fun _ _ F => gR rfl rfl (arm_load1 rfl (F.f 0 rfl) (V0.mono F.below)).b, ?_⟩
          refine ⟨fun _ _ F => gR rfl rfl (arm_fieldF rfl (F.k 1 (Value.pointer (some ⟨w.heap.size, 0, none⟩))) (run_field2 _)).b, ?_⟩
          refine ⟨fun _ _ F => gR rfl rfl (arm_load2 rfl (F.f 2 rfl) (V0.mono F.below)).b, ?_⟩
          refine ⟨fun _ _ F => gR rfl rfl (arm_C2 rfl (enters Try.func67 rfl rfl) (F.f 1 rfl) (F.f 3 rfl) (fun va vb w h1 h2 => c_natural_DivMod va vb xp xq w h1 h2 bp bq HQ.out) (fun _ _ h => by rw [hDm.out]; rw [hR.out]; exact ofDiv h)).b, ?_⟩
          refine ⟨fun _ _ F => gR rfl rfl (arm_move (.inl rfl) (F.f 4 rfl)).b, ?_⟩
          refine ⟨fun _ _ F => gR rfl rfl (arm_trip0 rfl (F.f 5 rfl)).b, ?_⟩
          refine ⟨fun _ _ F => gR rfl rfl (arm_trip1 rfl (F.f 5 rfl)).b, ?_⟩
          refine ⟨fun _ _ F => gR rfl rfl (arm_trip2 rfl (F.f 5 rfl)).b, ?_⟩
          refine ⟨fun _ _ F => gR rfl rfl (arm_alloc rfl (Nat.le_trans hbase F.below.size)), ?_⟩
          refine ⟨fun _ _ F => gR rfl rfl (arm_alloc rfl (Nat.le_trans hbase F.below.size)), ?_⟩
          exact trivial
        intro E' hE gp wp bp G Gs
        simp only [subs, List.map_cons, List.map_nil, List.nil_append, List.cons_append, List.mem_cons, List.not_mem_nil, or_false, List.append_nil] at hE
        rcases hE with rfl | rfl | rfl | rfl
        · obtain ⟨g4, e_9, lg_9, hv_9⟩ := G 9 4 _ (by simp) rfl
          obtain ⟨g5, e_10, lg_10, hv_10⟩ := G 10 5 _ (by simp) rfl
          have n_6 : (Sp.nat (m)).p wp (gp 6) := G 6 16 _ (by simp) rfl
          have n_7 : (Sp.nat (R)).p wp (gp 7) := G 7 17 _ (by simp) rfl
          have e_8 : gp 8 = Value.int IntKind.i64 0 := G 8 18 _ (by simp) rfl
          have ne_9_10 : g4 ≠ g5 := by have h := Gs 9 10 rfl rfl (by simp) (by simp) rfl rfl (by decide); rw [e_9, e_10] at h; exact h
          clear G Gs
          simp only [fFloorT0]
          simp only [qA, setD, qZ, qS, e_9, e_10, e_8]
          have T0 := hv_9
          refine wpAny_storeN (j := 11) (by kernel_rfl) rfl rfl rfl rfl rfl n_6 T0.any ?_
          intro w0 u0 v0
          have O0 := T0.own
          have T1 := (hv_10.upd O0 u0 (by omega))
          refine wpAny_storeN (j := 12) (by kernel_rfl) rfl rfl rfl rfl rfl (n_7.upd O0 u0) T1.any ?_
          intro w1 u1 v1
          have O1 := T1.own
          refine wpAny_takeD (i := 13) (d := some 6) (v := Value.int IntKind.i64 0) rfl rfl (by kernel_rfl) (by kernel_rfl) (by kernel_rfl) (fun _ _ _ h => h) (Or.inl ⟨by rfl, fun w => by rfl⟩) ?_
          try simp only [qP, qZ, qS]
          refine wpAny_done (by kernel_rfl) ?_ _
          go_wp2_with fail
          go_meet
          case rel => exact ⟨g4, g5, rfl, rfl, rfl, (by omega), (by omega), (by omega), (v0.upd O1 u1 (by omega)), v1, (((V0.mono bp).upd O0 u0 (by omega)).upd O1 u1 (by omega)), (Upd.below (Upd.below (hb1.trans (bp.mono hb1.size)) u0 (by omega)) u1 (by omega))⟩
        · obtain ⟨g4, e_9, lg_9, hv_9⟩ := G 9 4 _ (by simp) rfl
          obtain ⟨g5, e_10, lg_10, hv_10⟩ := G 10 5 _ (by simp) rfl
          obtain ⟨x_5_0, x_5_1, x_5_2, e_5, n_5_0, n_5_1, rfl⟩ := G 5 10 _ (by simp) rfl
          have n_6 : (Sp.nat (m)).p wp (gp 6) := G 6 16 _ (by simp) rfl
          have n_7 : (Sp.nat (R)).p wp (gp 7) := G 7 17 _ (by simp) rfl
          have ne_9_10 : g4 ≠ g5 := by have h := Gs 9 10 rfl rfl (by simp) (by simp) rfl rfl (by decide); rw [e_9, e_10] at h; exact h
          clear G Gs
          simp only [fFloorT0]
          simp only [qA, setD, qZ, qS, e_9, e_10, e_5]
          refine wpAny_takeD (i := 8) (d := some 18) (v := Value.int IntKind.i64 0) rfl rfl (by kernel_rfl) (by kernel_rfl) (by kernel_rfl) (fun _ _ _ h => h) (Or.inl ⟨by rfl, fun w => by rfl⟩) ?_
          try simp only [qP, qZ, qS]
          have T0 := hv_9
          refine wpAny_storeN (j := 11) (by kernel_rfl) rfl rfl rfl rfl rfl n_6 T0.any ?_
          intro w0 u0 v0
          have O0 := T0.own
          have T1 := (hv_10.upd O0 u0 (by omega))
          refine wpAny_storeN (j := 12) (by kernel_rfl) rfl rfl rfl rfl rfl (n_7.upd O0 u0) T1.any ?_
          intro w1 u1 v1
          have O1 := T1.own
          refine wpAny_takeD (i := 13) (d := some 6) (v := Value.int IntKind.i64 0) rfl rfl (by kernel_rfl) (by kernel_rfl) (by kernel_rfl) (fun _ _ _ h => h) (Or.inl ⟨by rfl, fun w => by rfl⟩) ?_
          try simp only [qP, qZ, qS]
          refine wpAny_done (by kernel_rfl) ?_ _
          go_wp2_with fail
          go_meet
          case rel => exact ⟨g4, g5, rfl, rfl, rfl, (by omega), (by omega), (by omega), (v0.upd O1 u1 (by omega)), v1, (((V0.mono bp).upd O0 u0 (by omega)).upd O1 u1 (by omega)), (Upd.below (Upd.below (hb1.trans (bp.mono hb1.size)) u0 (by omega)) u1 (by omega))⟩
        · obtain ⟨g4, e_9, lg_9, hv_9⟩ := G 9 4 _ (by simp) rfl
          obtain ⟨g5, e_10, lg_10, hv_10⟩ := G 10 5 _ (by simp) rfl
          obtain ⟨x_5_0, x_5_1, x_5_2, e_5, n_5_0, n_5_1, rfl⟩ := G 5 10 _ (by simp) rfl
          have n_6 : (Sp.nat (m)).p wp (gp 6) := G 6 16 _ (by simp) rfl
          have e_8 : gp 8 = Value.int IntKind.i64 0 := G 8 18 _ (by simp) rfl
          have ne_9_10 : g4 ≠ g5 := by have h := Gs 9 10 rfl rfl (by simp) (by simp) rfl rfl (by decide); rw [e_9, e_10] at h; exact h
          clear G Gs
          simp only [fFloorT0]
          simp only [qA, setD, qZ, qS, e_9, e_10, e_5, e_8]
          refine wpAny_takeD (i := 7) (d := some 17) (v := x_5_1) rfl rfl (by kernel_rfl) (by kernel_rfl) (by kernel_rfl) (fun _ _ _ h => h) (Or.inl ⟨by rfl, fun w => by rfl⟩) ?_
          try simp only [qP, qZ, qS]
          have T0 := hv_9
          refine wpAny_storeN (j := 11) (by kernel_rfl) rfl rfl rfl rfl rfl n_6 T0.any ?_
          intro w0 u0 v0
          have O0 := T0.own
          have T1 := (hv_10.upd O0 u0 (by omega))
          refine wpAny_storeN (j := 12) (by kernel_rfl) rfl rfl rfl rfl rfl (n_5_1.upd O0 u0) T1.any ?_
          intro w1 u1 v1
          have O1 := T1.own
          refine wpAny_takeD (i := 13) (d := some 6) (v := Value.int IntKind.i64 0) rfl rfl (by kernel_rfl) (by kernel_rfl) (by kernel_rfl) (fun _ _ _ h => h) (Or.inl ⟨by rfl, fun w => by rfl⟩) ?_
          try simp only [qP, qZ, qS]
          refine wpAny_done (by kernel_rfl) ?_ _
          go_wp2_with fail
          go_meet
          case rel => exact ⟨g4, g5, rfl, rfl, rfl, (by omega), (by omega), (by omega), (v0.upd O1 u1 (by omega)), v1, (((V0.mono bp).upd O0 u0 (by omega)).upd O1 u1 (by omega)), (Upd.below (Upd.below (hb1.trans (bp.mono hb1.size)) u0 (by omega)) u1 (by omega))⟩
        · obtain ⟨g4, e_9, lg_9, hv_9⟩ := G 9 4 _ (by simp) rfl
          obtain ⟨g5, e_10, lg_10, hv_10⟩ := G 10 5 _ (by simp) rfl
          obtain ⟨x_5_0, x_5_1, x_5_2, e_5, n_5_0, n_5_1, rfl⟩ := G 5 10 _ (by simp) rfl
          have n_6 : (Sp.nat (m)).p wp (gp 6) := G 6 16 _ (by simp) rfl
          have ne_9_10 : g4 ≠ g5 := by have h := Gs 9 10 rfl rfl (by simp) (by simp) rfl rfl (by decide); rw [e_9, e_10] at h; exact h
          clear G Gs
          simp only [fFloorT0]
          simp only [qA, setD, qZ, qS, e_9, e_10, e_5]
          refine wpAny_takeD (i := 7) (d := some 17) (v := x_5_1) rfl rfl (by kernel_rfl) (by kernel_rfl) (by kernel_rfl) (fun _ _ _ h => h) (Or.inl ⟨by rfl, fun w => by rfl⟩) ?_
          try simp only [qP, qZ, qS]
          refine wpAny_takeD (i := 8) (d := some 18) (v := Value.int IntKind.i64 0) rfl rfl (by kernel_rfl) (by kernel_rfl) (by kernel_rfl) (fun _ _ _ h => h) (Or.inl ⟨by rfl, fun w => by rfl⟩) ?_
          try simp only [qP, qZ, qS]
          have T0 := hv_9
          refine wpAny_storeN (j := 11) (by kernel_rfl) rfl rfl rfl rfl rfl n_6 T0.any ?_
          intro w0 u0 v0
          have O0 := T0.own
          have T1 := (hv_10.upd O0 u0 (by omega))
          refine wpAny_storeN (j := 12) (by kernel_rfl) rfl rfl rfl rfl rfl (n_5_1.upd O0 u0) T1.any ?_
          intro w1 u1 v1
          have O1 := T1.own
          refine wpAny_takeD (i := 13) (d := some 6) (v := Value.int IntKind.i64 0) rfl rfl (by kernel_rfl) (by kernel_rfl) (by kernel_rfl) (fun _ _ _ h => h) (Or.inl ⟨by rfl, fun w => by rfl⟩) ?_
          try simp only [qP, qZ, qS]
          refine wpAny_done (by kernel_rfl) ?_ _
          go_wp2_with fail
          go_meet
          case rel => exact ⟨g4, g5, rfl, rfl, rfl, (by omega), (by omega), (by omega), (v0.upd O1 u1 (by omega)), v1, (((V0.mono bp).upd O0 u0 (by omega)).upd O1 u1 (by omega)), (Upd.below (Upd.below (hb1.trans (bp.mono hb1.size)) u0 (by omega)) u1 (by omega))⟩
      case rest =>
      clear V0 hb1
      obtain ⟨g4, g5, rfl, rfl, rfl, lg4, lg5, d1_0, V4, V5, V0, hb1⟩ := hcut
      go_upto_region 2 with (fail)
      go_cut [20] (fun s_20 wx => s_20 = Value.bool false ∧ VarQ wx w.heap.size (Fq.mk true xp xq) ∧ VarI wx g4 m ∧ VarI wx g5 R ∧ Below w.heap.size w wx)
      case first =>
        refine tF Try.f32 2 (fFloorT1 ) [] 2 0 ?_ ?_
        · refine ⟨fun _ _ F => gR rfl rfl (arm_move (.inl rfl) (F.k 6 (Value.int IntKind.i64 0))).b, ?_⟩
          refine ⟨fun _ _ F => gR rfl rfl (arm_bin rfl (F.f 0 rfl) Is.const (fun _ => rfl) (fun _ => rfl)).b, ?_⟩
          exact trivial
        intro E' hE gp wp bp G Gs
        obtain rfl : E' = [] := by simpa [subs] using hE
        have e_1 : gp 1 = Value.bool false := G 1 20 _ (by simp) rfl
        clear G Gs hE
        simp only [fFloorT1]
        simp only [qA, setD, qZ, qS, e_1]
        refine wpAny_done (by kernel_rfl) ?_ _
        go_wp2_with fail
        go_meet
        case rel => exact ⟨rfl, (V0.mono bp), (V4.mono bp), (V5.mono bp), (hb1.trans (bp.mono hb1.size))⟩
      case rest =>
      clear V0 V4 V5 hb1
      obtain ⟨rfl, V0, V4, V5, hb1⟩ := hcut
      go_upto_region 4 with (fail)
      go_cut [27] (fun s_27 wx => s_27 = Value.bool false ∧ VarQ wx w.heap.size (Fq.mk true xp xq) ∧ VarI wx g4 m ∧ VarI wx g5 R ∧ Below w.heap.size w wx)
      case first =>
        refine tF Try.f32 4 (fFloorT2 w R R) [] 7 0 ?_ ?_
        · refine ⟨fun _ _ F => gR rfl rfl (arm_fieldF rfl (F.k 1 (Value.pointer (some ⟨w.heap.size, 0, none⟩))) (run_field0 _)).b, ?_⟩
          refine ⟨fun _ _ F => gR rfl rfl (arm_loadS rfl (F.f 0 rfl) (V0.mono F.below)).b, ?_⟩
          refine ⟨fun _ _ F => gR rfl rfl (arm_move (.inl rfl) (F.f 1 rfl)).b, ?_⟩
          refine ⟨fun _ _ F => gG F rfl rfl rfl rfl (arm_load rfl (F.k 5 (Value.pointer (some ⟨g5, 0, none⟩))) (V5.mono F.below)).b, ?_⟩
          refine ⟨fun _ _ F => gG F rfl rfl rfl rfl (arm_C1 rfl (enters Try.func47 rfl rfl) (F.f 3 rfl) (fun va w h1 => c_isZero va R w h1 bR) (fun _ _ h => by have h' : RetV _ _ _ _ := h; rw [HR.out] at h'; exact ofV h')).b, ?_⟩
          refine ⟨fun _ _ F => gG F rfl rfl rfl rfl (arm_not rfl (F.f 4 rfl)).b, ?_⟩
          refine ⟨fun _ _ F => gR rfl rfl (arm_pick rfl (F.f 2 rfl) (fun _ => (F.f 5 rfl)) (fun h => by cases h)).b, ?_⟩
          exact trivial
        intro E' hE gp wp bp G Gs
        obtain rfl : E' = [] := by simpa [subs] using hE
        have e_6 : gp 6 = Value.bool false := G 6 27 _ (by simp) rfl
        clear G Gs hE
        simp only [fFloorT2]
        simp only [qA, setD, qZ, qS, e_6]
        refine wpAny_done (by kernel_rfl) ?_ _
        go_wp2_with fail
        go_meet
        case rel => exact ⟨rfl, (V0.mono bp), (V4.mono bp), (V5.mono bp), (hb1.trans (bp.mono hb1.size))⟩
      case rest =>
      clear V0 V4 V5 hb1
      obtain ⟨rfl, V0, V4, V5, hb1⟩ := hcut
      by_cases hbig : 18446744073709551616 ≤ m
      · obtain ⟨C, hC⟩ : ∃ C : Int, Hid (C = ((len2 m : Nat) : Int)) := ⟨_, Lib.hid rfl⟩
        have HB : Hid (true = decide (64 < C)) := Lib.hid (by rw [hC.out]; symm; apply decide_eq_true; have := (not_congr (len2_lt (m := m) (k := 64))).2 (by simpa using hbig); omega)
        obtain rfl : r = (0, false) := by rw [hF.out, if_pos rfl, if_neg (by omega)]
        clear hbig hF
        go_upto_region 6 with (fail)
        go_cut [33] (fun s_33 wx => s_33 = Value.bool true ∧ VarQ wx w.heap.size (Fq.mk true xp xq) ∧ VarI wx g4 m ∧ VarI wx g5 R ∧ Below w.heap.size w wx)
        case first =>
          refine tF Try.f32 6 (fFloorT3 m C) [] 3 0 ?_ ?_
          · refine ⟨fun _ _ F => gR rfl rfl (arm_load rfl (F.k 4 (Value.pointer (some ⟨g4, 0, none⟩))) (V4.mono F.below)).b, ?_⟩
            refine ⟨fun _ _ F => gR rfl rfl (arm_C1 rfl (enters Try.func69 rfl rfl) (F.f 0 rfl) (fun va w h1 => c_natural_Bits va m w h1 bm) (fun _ _ h => by rw [hC.out]; exact ofV h)).b, ?_⟩
            refine ⟨fun _ _ F => gR rfl rfl (arm_bin rfl (F.f 1 rfl) Is.const (fun _ => rfl) (fun w => by rw [HB.out]; rfl)).b, ?_⟩
            exact trivial
          intro E' hE gp wp bp G Gs
          obtain rfl : E' = [] := by simpa [subs] using hE
          have e_2 : gp 2 = Value.bool true := G 2 33 _ (by simp) rfl
          clear G Gs hE
          simp only [fFloorT3]
          simp only [qA, setD, qZ, qS, e_2]
          refine wpAny_done (by kernel_rfl) ?_ _
          go_wp2_with fail
          go_meet
          case rel => exact ⟨rfl, (V0.mono bp), (V4.mono bp), (V5.mono bp), (hb1.trans (bp.mono hb1.size))⟩
        case rest =>
        clear V0 V4 V5 hb1
        obtain ⟨rfl, V0, V4, V5, hb1⟩ := hcut
        go_wp2
        go_ret2
        exact ⟨rfl, hb1⟩
      · obtain ⟨C, hC⟩ : ∃ C : Int, Hid (C = ((len2 m : Nat) : Int)) := ⟨_, Lib.hid rfl⟩
        have HB : Hid (false = decide (64 < C)) := Lib.hid (by rw [hC.out]; symm; apply decide_eq_false; have := (len2_lt (m := m) (k := 64)).2 (by simpa using hbig); omega)
        go_upto_region 6 with (fail)
        go_cut [33] (fun s_33 wx => s_33 = Value.bool false ∧ VarQ wx w.heap.size (Fq.mk true xp xq) ∧ VarI wx g4 m ∧ VarI wx g5 R ∧ Below w.heap.size w wx)
        case first =>
          refine tF Try.f32 6 (fFloorT4 m C) [] 3 0 ?_ ?_
          · refine ⟨fun _ _ F => gR rfl rfl (arm_load rfl (F.k 4 (Value.pointer (some ⟨g4, 0, none⟩))) (V4.mono F.below)).b, ?_⟩
            refine ⟨fun _ _ F => gR rfl rfl (arm_C1 rfl (enters Try.func69 rfl rfl) (F.f 0 rfl) (fun va w h1 => c_natural_Bits va m w h1 bm) (fun _ _ h => by rw [hC.out]; exact ofV h)).b, ?_⟩
            refine ⟨fun _ _ F => gR rfl rfl (arm_bin rfl (F.f 1 rfl) Is.const (fun _ => rfl) (fun w => by rw [HB.out]; rfl)).b, ?_⟩
            exact trivial
          intro E' hE gp wp bp G Gs
          obtain rfl : E' = [] := by simpa [subs] using hE
          have e_2 : gp 2 = Value.bool false := G 2 33 _ (by simp) rfl
          clear G Gs hE
          simp only [fFloorT4]
          simp only [qA, setD, qZ, qS, e_2]
          refine wpAny_done (by kernel_rfl) ?_ _
          go_wp2_with fail
          go_meet
          case rel => exact ⟨rfl, (V0.mono bp), (V4.mono bp), (V5.mono bp), (hb1.trans (bp.mono hb1.size))⟩
        case rest =>
        clear V0 V4 V5 hb1
        obtain ⟨rfl, V0, V4, V5, hb1⟩ := hcut
        have hm2 : nl m ≤ 2 := nl_le_iff.2 (by show m < 18446744073709551616; omega)
        obtain ⟨y4, d4, q4, i4⟩ := V4
        have e4 := q4.cell
        obtain ⟨y, d, ey, hcy, r4⟩ := i4
        simp only [Value.agg.injEq, Array.mk.injEq, List.cons.injEq, Value.slice.injEq, and_true, true_and] at ey
        obtain ⟨rfl, rfl⟩ := ey
        have HM := Lib.hid hbig
        clear hbig
        go_upto_block 0 with (fail)
        go_cut [7] (fun s7 wx => s7 = .int .u64 (m : Int) ∧ VarQ wx w.heap.size (Fq.mk true xp xq) ∧ Below w.heap.size w wx)
        case first =>
          go_wp2_with fail
          go_loopw [7, 37] (fun s7 s37 wr => ∃ k : Nat, k ≤ nl m ∧ s37 = .int .i64 (k : Int) ∧ s7 = .int .u64 ((m % 4294967296 ^ k : Nat) : Int) ∧ wr = wc) (fun _ s37 _ => nl m - (intOf s37).toNat)
          case atStart => exact ⟨0, Nat.zero_le _, rfl, by rw [Nat.pow_zero, Nat.mod_one]; rfl, rfl⟩
          case round =>
            obtain ⟨k, hk, rfl, rfl, rfl⟩ := hrel
            by_cases hlt : k < nl m
            · obtain ⟨b1, o1, rfl, h1⟩ := r4.cells (by omega)
              have d1 := h1 k hlt
              have hd := D_lt m k
              go_wp2_with fail
              go_roundw
              case rel => (refine ⟨k + 1, by omega, by go_num, ?_, trivial⟩; exact congrArg _ (or_step m k (by omega)))
              case measure => simp [intOf] <;> omega
            · obtain rfl : k = nl m := by omega
              go_wp2_with fail
              go_meet
              case rel => exact ⟨by rw [Nat.mod_eq_of_lt (lt_nl m)], V0, hb1⟩
        case rest =>
        clear V0 V5 q4 e4 r4 hb1
        obtain ⟨rfl, V0, hb1⟩ := hcut
        have hml : m < 18446744073709551616 := by have := HM.out; omega
        by_cases h0 : m = 0
        · subst h0
          obtain rfl : r = (0, true) := by rw [hF.out]; rfl
          clear hF
          obtain ⟨r1, r2, r3, r4, rV, rn, rm⟩ := V0
          have c0 := rV.cell0
          go_wp2
          go_ret2
          exact ⟨rfl, hb1⟩
        · by_cases h63 : m ≤ 9223372036854775808
          · obtain rfl : r = (-(m : Int), true) := by rw [hF.out, if_pos rfl, if_pos h63]
            clear hF hm
            obtain ⟨r1, r2, r3, r4, rV, rn, rm⟩ := V0
            have c0 := rV.cell0
            have hz : ¬ ((m : Int) = 0) := by omega
            go_wp2
            go_ret2
            have e : (-((m : Int) - 1) - 1) = -(m : Int) := by omega
            refine ⟨?_, hb1⟩
            show Ending.returned (.tuple #[.int .i64 (-((m : Int) - 1) - 1), .bool true]) = _
            rw [e]
          · obtain rfl : r = (0, false) := by rw [hF.out, if_pos rfl, if_neg h63]
            clear hF hm
            obtain ⟨r1, r2, r3, r4, rV, rn, rm⟩ := V0
            have c0 := rV.cell0
            have hz : ¬ ((m : Int) = 0) := by omega
            go_wp2
            go_ret2
            exact ⟨rfl, hb1⟩
    · have HR : Hid (decide (R = 0) = false) := Lib.hid (decide_eq_false hr)
      have hDm : Hid (m = Dq + 1) := Lib.hid (by rw [hm.out, hDq.out]; unfold Fq.flM; rw [if_pos]; exact ⟨rfl, by rw [← hR.out]; exact hr⟩)
      clear hr
      obtain ⟨a0, c0, b0, d0, rfl, m0, k0⟩ := boxF ha
      clear ha
      go_enter Try.func32, Try.ntmps32
      go_upto_region 0 with (fail)
      go_cut [1, 2, 3] (fun s_1 s_2 s_3 wx => s_1 = Value.pointer (some ⟨w.heap.size, 0, none⟩) ∧ s_2 = Value.int IntKind.i64 0 ∧ s_3 = Value.bool false ∧ VarQ wx w.heap.size (Fq.mk true xp xq) ∧ Below w.heap.size w wx)
      case first =>
        go_wp2_with fail
        go_meet
        case rel => exact ⟨rfl, rfl, rfl, k0, m0⟩
      case rest =>
      clear m0 k0
      obtain ⟨rfl, rfl, rfl, V0, hb1⟩ := hcut
      go_upto_region 1 with (fail)
      go_cut [4, 5, 6] (fun s_4 s_5 s_6 wx => ∃ g4 g5, s_4 = Value.pointer (some ⟨g4, 0, none⟩) ∧ s_5 = Value.pointer (some ⟨g5, 0, none⟩) ∧ s_6 = Value.int IntKind.i64 0 ∧ w.heap.size + 1 ≤ g4 ∧ w.heap.size + 1 ≤ g5 ∧ g4 ≠ g5 ∧ VarI wx g4 Dq ∧ VarI wx g5 R ∧ VarQ wx w.heap.size (Fq.mk true xp xq) ∧ Below w.heap.size w wx)
      case first =>
        obtain ⟨base, hbase0⟩ : ∃ b : Nat, Hid (b = wc.heap.size) := ⟨_, Lib.hid rfl⟩
        have hbase : base ≤ wc.heap.size := by rw [hbase0.out]; exact Nat.le_refl _
        have hbw : w.heap.size + 1 ≤ base := by have := hb1.size; have h1 := V0.lt; rw [hbase0.out]; omega
        have l_V0 : w.heap.size < base := by rw [hbase0.out]; exact V0.lt
        refine wp_tabGF Try.f32 1 (fFloorT5 w xp xq Dq R Dq R base) [7, 8] (fun i => i == 9 || i == 10) 8 3 (by kernel_rfl) (by kernel_rfl) (by kernel_rfl) (by kernel_rfl) (by kernel_rfl) ⟨fun h => (by cases h), ⟨fun h => (by cases h), ⟨fun h => (by cases h), ⟨fun h => (by cases h), ⟨fun h => (by cases h), ⟨fun h => (by cases h), ⟨fun h => (by cases h), ⟨fun h => (by cases h), ⟨fun h => (by cases h), ⟨fun _ w v h => Sp.var_lt h, ⟨fun _ w v h => Sp.var_lt h, trivial⟩⟩⟩⟩⟩⟩⟩⟩⟩⟩⟩ ?_ ?_
        · refine ⟨fun _ _ F => gR rfl rfl (arm_fieldF rfl (F.k 1 (Value.pointer (some ⟨w.heap.size, 0, none⟩))) (run_field1 _)).b, ?_⟩
          refine ⟨fun _ _ F => gR rfl rfl (arm_load1 rfl (F.f 0 rfl) (V0.mono F.below)).b, ?_⟩
          refine ⟨fun _ _ F => gR rfl rfl (arm_fieldF rfl (F.k 1 (Value.pointer (some ⟨w.heap.size, 0, none⟩))) (run_field2 _)).b, ?_⟩
          refine ⟨fun _ _ F => gR rfl rfl (arm_load2 rfl (F.f 2 rfl) (V0.mono F.below)).b, ?_⟩
          refine ⟨fun _ _ F => gR rfl rfl (arm_C2 rfl (enters Try.func67 rfl rfl) (F.f 1 rfl) (F.f 3 rfl) (fun va vb w h1 h2 => c_natural_DivMod va vb xp xq w h1 h2 bp bq HQ.out) (fun _ _ h => by rw [hDq.out]; rw [hR.out]; exact ofDiv h)).b, ?_⟩
          refine ⟨fun _ _ F => gR rfl rfl (arm_move (.inl rfl) (F.f 4 rfl)).b, ?_⟩
          refine ⟨fun _ _ F => gR rfl rfl (arm_trip0 rfl (F.f 5 rfl)).b, ?_⟩
          refine ⟨fun _ _ F => gR rfl rfl (arm_trip1 rfl (F.f 5 rfl)).b, ?_⟩
          refine ⟨fun _ _ F => gR rfl rfl (arm_trip2 rfl (F.f 5 rfl)).b, ?_⟩
          refine ⟨fun _ _ F => gR rfl rfl (arm_alloc rfl (Nat.le_trans hbase F.below.size)), ?_⟩
          refine ⟨fun _ _ F => gR rfl rfl (arm_alloc rfl (Nat.le_trans hbase F.below.size)), ?_⟩
          exact trivial
        intro E' hE gp wp bp G Gs
        simp only [subs, List.map_cons, List.map_nil, List.nil_append, List.cons_append, List.mem_cons, List.not_mem_nil, or_false, List.append_nil] at hE
        rcases hE with rfl | rfl | rfl | rfl
        · obtain ⟨g4, e_9, lg_9, hv_9⟩ := G 9 4 _ (by simp) rfl
          obtain ⟨g5, e_10, lg_10, hv_10⟩ := G 10 5 _ (by simp) rfl
          have n_6 : (Sp.nat (Dq)).p wp (gp 6) := G 6 16 _ (by simp) rfl
          have n_7 : (Sp.nat (R)).p wp (gp 7) := G 7 17 _ (by simp) rfl
          have e_8 : gp 8 = Value.int IntKind.i64 0 := G 8 18 _ (by simp) rfl
          have ne_9_10 : g4 ≠ g5 := by have h := Gs 9 10 rfl rfl (by simp) (by simp) rfl rfl (by decide); rw [e_9, e_10] at h; exact h
          clear G Gs
          simp only [fFloorT5]
          simp only [qA, setD, qZ, qS, e_9, e_10, e_8]
          have T0 := hv_9
          refine wpAny_storeN (j := 11) (by kernel_rfl) rfl rfl rfl rfl rfl n_6 T0.any ?_
          intro w0 u0 v0
          have O0 := T0.own
          have T1 := (hv_10.upd O0 u0 (by omega))
          refine wpAny_storeN (j := 12) (by kernel_rfl) rfl rfl rfl rfl rfl (n_7.upd O0 u0) T1.any ?_
          intro w1 u1 v1
          have O1 := T1.own
          refine wpAny_takeD (i := 13) (d := some 6) (v := Value.int IntKind.i64 0) rfl rfl (by kernel_rfl) (by kernel_rfl) (by kernel_rfl) (fun _ _ _ h => h) (Or.inl ⟨by rfl, fun w => by rfl⟩) ?_
          try simp only [qP, qZ, qS]
          refine wpAny_done (by kernel_rfl) ?_ _
          go_wp2_with fail
          go_meet
          case rel => exact ⟨g4, g5, rfl, rfl, rfl, (by omega), (by omega), (by omega), (v0.upd O1 u1 (by omega)), v1, (((V0.mono bp).upd O0 u0 (by omega)).upd O1 u1 (by omega)), (Upd.below (Upd.below (hb1.trans (bp.mono hb1.size)) u0 (by omega)) u1 (by omega))⟩
        · obtain ⟨g4, e_9, lg_9, hv_9⟩ := G 9 4 _ (by simp) rfl
          obtain ⟨g5, e_10, lg_10, hv_10⟩ := G 10 5 _ (by simp) rfl
          obtain ⟨x_5_0, x_5_1, x_5_2, e_5, n_5_0, n_5_1, rfl⟩ := G 5 10 _ (by simp) rfl
          have n_6 : (Sp.nat (Dq)).p wp (gp 6) := G 6 16 _ (by simp) rfl
          have n_7 : (Sp.nat (R)).p wp (gp 7) := G 7 17 _ (by simp) rfl
          have ne_9_10 : g4 ≠ g5 := by have h := Gs 9 10 rfl rfl (by simp) (by simp) rfl rfl (by decide); rw [e_9, e_10] at h; exact h
          clear G Gs
          simp only [fFloorT5]
          simp only [qA, setD, qZ, qS, e_9, e_10, e_5]
          refine wpAny_takeD (i := 8) (d := some 18) (v := Value.int IntKind.i64 0) rfl rfl (by kernel_rfl) (by kernel_rfl) (by kernel_rfl) (fun _ _ _ h => h) (Or.inl ⟨by rfl, fun w => by rfl⟩) ?_
          try simp only [qP, qZ, qS]
          have T0 := hv_9
          refine wpAny_storeN (j := 11) (by kernel_rfl) rfl rfl rfl rfl rfl n_6 T0.any ?_
          intro w0 u0 v0
          have O0 := T0.own
          have T1 := (hv_10.upd O0 u0 (by omega))
          refine wpAny_storeN (j := 12) (by kernel_rfl) rfl rfl rfl rfl rfl (n_7.upd O0 u0) T1.any ?_
          intro w1 u1 v1
          have O1 := T1.own
          refine wpAny_takeD (i := 13) (d := some 6) (v := Value.int IntKind.i64 0) rfl rfl (by kernel_rfl) (by kernel_rfl) (by kernel_rfl) (fun _ _ _ h => h) (Or.inl ⟨by rfl, fun w => by rfl⟩) ?_
          try simp only [qP, qZ, qS]
          refine wpAny_done (by kernel_rfl) ?_ _
          go_wp2_with fail
          go_meet
          case rel => exact ⟨g4, g5, rfl, rfl, rfl, (by omega), (by omega), (by omega), (v0.upd O1 u1 (by omega)), v1, (((V0.mono bp).upd O0 u0 (by omega)).upd O1 u1 (by omega)), (Upd.below (Upd.below (hb1.trans (bp.mono hb1.size)) u0 (by omega)) u1 (by omega))⟩
        · obtain ⟨g4, e_9, lg_9, hv_9⟩ := G 9 4 _ (by simp) rfl
          obtain ⟨g5, e_10, lg_10, hv_10⟩ := G 10 5 _ (by simp) rfl
          obtain ⟨x_5_0, x_5_1, x_5_2, e_5, n_5_0, n_5_1, rfl⟩ := G 5 10 _ (by simp) rfl
          have n_6 : (Sp.nat (Dq)).p wp (gp 6) := G 6 16 _ (by simp) rfl
          have e_8 : gp 8 = Value.int IntKind.i64 0 := G 8 18 _ (by simp) rfl
          have ne_9_10 : g4 ≠ g5 := by have h := Gs 9 10 rfl rfl (by simp) (by simp) rfl rfl (by decide); rw [e_9, e_10] at h; exact h
          clear G Gs
          simp only [fFloorT5]
          simp only [qA, setD, qZ, qS, e_9, e_10, e_5, e_8]
          refine wpAny_takeD (i := 7) (d := some 17) (v := x_5_1) rfl rfl (by kernel_rfl) (by kernel_rfl) (by kernel_rfl) (fun _ _ _ h => h) (Or.inl ⟨by rfl, fun w => by rfl⟩) ?_
          try simp only [qP, qZ, qS]
          have T0 := hv_9
          refine wpAny_storeN (j := 11) (by kernel_rfl) rfl rfl rfl rfl rfl n_6 T0.any ?_
          intro w0 u0 v0
          have O0 := T0.own
          have T1 := (hv_10.upd O0 u0 (by omega))
          refine wpAny_storeN (j := 12) (by kernel_rfl) rfl rfl rfl rfl rfl (n_5_1.upd O0 u0) T1.any ?_
          intro w1 u1 v1
          have O1 := T1.own
          refine wpAny_takeD (i := 13) (d := some 6) (v := Value.int IntKind.i64 0) rfl rfl (by kernel_rfl) (by kernel_rfl) (by kernel_rfl) (fun _ _ _ h => h) (Or.inl ⟨by rfl, fun w => by rfl⟩) ?_
          try simp only [qP, qZ, qS]
          refine wpAny_done (by kernel_rfl) ?_ _
          go_wp2_with fail
          go_meet
          case rel => exact ⟨g4, g5, rfl, rfl, rfl, (by omega), (by omega), (by omega), (v0.upd O1 u1 (by omega)), v1, (((V0.mono bp).upd O0 u0 (by omega)).upd O1 u1 (by omega)), (Upd.below (Upd.below (hb1.trans (bp.mono hb1.size)) u0 (by omega)) u1 (by omega))⟩
        · obtain ⟨g4, e_9, lg_9, hv_9⟩ := G 9 4 _ (by simp) rfl
          obtain ⟨g5, e_10, lg_10, hv_10⟩ := G 10 5 _ (by simp) rfl
          obtain ⟨x_5_0, x_5_1, x_5_2, e_5, n_5_0, n_5_1, rfl⟩ := G 5 10 _ (by simp) rfl
          have n_6 : (Sp.nat (Dq)).p wp (gp 6) := G 6 16 _ (by simp) rfl
          have ne_9_10 : g4 ≠ g5 := by have h := Gs 9 10 rfl rfl (by simp) (by simp) rfl rfl (by decide); rw [e_9, e_10] at h; exact h
          clear G Gs
          simp only [fFloorT5]
          simp only [qA, setD, qZ, qS, e_9, e_10, e_5]
          refine wpAny_takeD (i := 7) (d := some 17) (v := x_5_1) rfl rfl (by kernel_rfl) (by kernel_rfl) (by kernel_rfl) (fun _ _ _ h => h) (Or.inl ⟨by rfl, fun w => by rfl⟩) ?_
          try simp only [qP, qZ, qS]
          refine wpAny_takeD (i := 8) (d := some 18) (v := Value.int IntKind.i64 0) rfl rfl (by kernel_rfl) (by kernel_rfl) (by kernel_rfl) (fun _ _ _ h => h) (Or.inl ⟨by rfl, fun w => by rfl⟩) ?_
          try simp only [qP, qZ, qS]
          have T0 := hv_9
          refine wpAny_storeN (j := 11) (by kernel_rfl) rfl rfl rfl rfl rfl n_6 T0.any ?_
          intro w0 u0 v0
          have O0 := T0.own
          have T1 := (hv_10.upd O0 u0 (by omega))
          refine wpAny_storeN (j := 12) (by kernel_rfl) rfl rfl rfl rfl rfl (n_5_1.upd O0 u0) T1.any ?_
          intro w1 u1 v1
          have O1 := T1.own
          refine wpAny_takeD (i := 13) (d := some 6) (v := Value.int IntKind.i64 0) rfl rfl (by kernel_rfl) (by kernel_rfl) (by kernel_rfl) (fun _ _ _ h => h) (Or.inl ⟨by rfl, fun w => by rfl⟩) ?_
          try simp only [qP, qZ, qS]
          refine wpAny_done (by kernel_rfl) ?_ _
          go_wp2_with fail
          go_meet
          case rel => exact ⟨g4, g5, rfl, rfl, rfl, (by omega), (by omega), (by omega), (v0.upd O1 u1 (by omega)), v1, (((V0.mono bp).upd O0 u0 (by omega)).upd O1 u1 (by omega)), (Upd.below (Upd.below (hb1.trans (bp.mono hb1.size)) u0 (by omega)) u1 (by omega))⟩
      case rest =>
      clear V0 hb1
      obtain ⟨g4, g5, rfl, rfl, rfl, lg4, lg5, d1_0, V4, V5, V0, hb1⟩ := hcut
      go_upto_region 2 with (fail)
      go_cut [20] (fun s_20 wx => s_20 = Value.bool false ∧ VarQ wx w.heap.size (Fq.mk true xp xq) ∧ VarI wx g4 Dq ∧ VarI wx g5 R ∧ Below w.heap.size w wx)
      case first =>
        refine tF Try.f32 2 (fFloorT6 ) [] 2 0 ?_ ?_
        · refine ⟨fun _ _ F => gR rfl rfl (arm_move (.inl rfl) (F.k 6 (Value.int IntKind.i64 0))).b, ?_⟩
          refine ⟨fun _ _ F => gR rfl rfl (arm_bin rfl (F.f 0 rfl) Is.const (fun _ => rfl) (fun _ => rfl)).b, ?_⟩
          exact trivial
        intro E' hE gp wp bp G Gs
        obtain rfl : E' = [] := by simpa [subs] using hE
        have e_1 : gp 1 = Value.bool false := G 1 20 _ (by simp) rfl
        clear G Gs hE
        simp only [fFloorT6]
        simp only [qA, setD, qZ, qS, e_1]
        refine wpAny_done (by kernel_rfl) ?_ _
        go_wp2_with fail
        go_meet
        case rel => exact ⟨rfl, (V0.mono bp), (V4.mono bp), (V5.mono bp), (hb1.trans (bp.mono hb1.size))⟩
      case rest =>
      clear V0 V4 V5 hb1
      obtain ⟨rfl, V0, V4, V5, hb1⟩ := hcut
      go_upto_region 4 with (fail)
      go_cut [27] (fun s_27 wx => s_27 = Value.bool true ∧ VarQ wx w.heap.size (Fq.mk true xp xq) ∧ VarI wx g4 Dq ∧ VarI wx g5 R ∧ Below w.heap.size w wx)
      case first =>
        refine tF Try.f32 4 (fFloorT7 w R R) [] 7 0 ?_ ?_
        · refine ⟨fun _ _ F => gR rfl rfl (arm_fieldF rfl (F.k 1 (Value.pointer (some ⟨w.heap.size, 0, none⟩))) (run_field0 _)).b, ?_⟩
          refine ⟨fun _ _ F => gR rfl rfl (arm_loadS rfl (F.f 0 rfl) (V0.mono F.below)).b, ?_⟩
          refine ⟨fun _ _ F => gR rfl rfl (arm_move (.inl rfl) (F.f 1 rfl)).b, ?_⟩
          refine ⟨fun _ _ F => gG F rfl rfl rfl rfl (arm_load rfl (F.k 5 (Value.pointer (some ⟨g5, 0, none⟩))) (V5.mono F.below)).b, ?_⟩
          refine ⟨fun _ _ F => gG F rfl rfl rfl rfl (arm_C1 rfl (enters Try.func47 rfl rfl) (F.f 3 rfl) (fun va w h1 => c_isZero va R w h1 bR) (fun _ _ h => by have h' : RetV _ _ _ _ := h; rw [HR.out] at h'; exact ofV h')).b, ?_⟩
          refine ⟨fun _ _ F => gG F rfl rfl rfl rfl (arm_not rfl (F.f 4 rfl)).b, ?_⟩
          refine ⟨fun _ _ F => gR rfl rfl (arm_pick rfl (F.f 2 rfl) (fun _ => (F.f 5 rfl)) (fun h => by cases h)).b, ?_⟩
          exact trivial
        intro E' hE gp wp bp G Gs
        obtain rfl : E' = [] := by simpa [subs] using hE
        have e_6 : gp 6 = Value.bool true := G 6 27 _ (by simp) rfl
        clear G Gs hE
        simp only [fFloorT7]
        simp only [qA, setD, qZ, qS, e_6]
        refine wpAny_done (by kernel_rfl) ?_ _
        go_wp2_with fail
        go_meet
        case rel => exact ⟨rfl, (V0.mono bp), (V4.mono bp), (V5.mono bp), (hb1.trans (bp.mono hb1.size))⟩
      case rest =>
      clear V0 V4 V5 hb1
      obtain ⟨rfl, V0, V4, V5, hb1⟩ := hcut
      go_upto_region 5 with (fail)
      go_cut [] (fun wx => VarQ wx w.heap.size (Fq.mk true xp xq) ∧ VarI wx g4 m ∧ VarI wx g5 R ∧ Below w.heap.size w wx)
      case first =>
        refine tG Try.f32 5 (fFloorT8 Dq m Dq) [] 3 1 ?_ ?_
        · refine ⟨fun _ _ F => gR rfl rfl (arm_load rfl (F.k 4 (Value.pointer (some ⟨g4, 0, none⟩))) (V4.mono F.below)).b, ?_⟩
          refine ⟨fun _ _ F => gR rfl rfl (arm_C1 rfl (enters Try.func58 rfl rfl) Is.const (fun va w h1 => by have e_va : va = _ := h1; subst e_va; exact c_natural_Of 1 w (by decide)) (fun _ _ h => ofNew h)).b, ?_⟩
          refine ⟨fun _ _ F => gR rfl rfl (arm_C2 rfl (enters Try.func68 rfl rfl) (F.f 0 rfl) (F.f 1 rfl) (fun va vb w h1 h2 => c_natural_Add va vb Dq 1 w h1 h2 bD (by decide)) (fun _ _ h => by rw [hDm.out]; exact ofNew h)).b, ?_⟩
          exact trivial
        intro E' hE gp wp bp G Gs
        obtain rfl : E' = [] := by simpa [subs] using hE
        have n_2 : (Sp.nat (m)).p wp (gp 2) := G 2 30 _ (by simp) rfl
        clear G Gs hE
        simp only [fFloorT8]
        simp only [qA, setD, qZ, qS]
        have T0 := (V4.mono bp)
        refine wpAny_storeN (j := 3) (by kernel_rfl) rfl rfl rfl rfl rfl n_2 T0.any ?_
        intro w0 u0 v0
        have O0 := T0.own
        refine wpAny_done (by kernel_rfl) ?_ _
        go_wp2_with fail
        go_meet
        case rel => exact ⟨((V0.mono bp).upd O0 u0 (by omega)), v0, ((V5.mono bp).upd O0 u0 (by omega)), (Upd.below (hb1.trans (bp.mono hb1.size)) u0 (by omega))⟩
      case rest =>
      clear V0 V4 V5 hb1
      obtain ⟨V0, V4, V5, hb1⟩ := hcut
      by_cases hbig : 18446744073709551616 ≤ m
      · obtain ⟨C, hC⟩ : ∃ C : Int, Hid (C = ((len2 m : Nat) : Int)) := ⟨_, Lib.hid rfl⟩
        have HB : Hid (true = decide (64 < C)) := Lib.hid (by rw [hC.out]; symm; apply decide_eq_true; have := (not_congr (len2_lt (m := m) (k := 64))).2 (by simpa using hbig); omega)
        obtain rfl : r = (0, false) := by rw [hF.out, if_pos rfl, if_neg (by omega)]
        clear hbig hF
        go_upto_region 6 with (fail)
        go_cut [33] (fun s_33 wx => s_33 = Value.bool true ∧ VarQ wx w.heap.size (Fq.mk true xp xq) ∧ VarI wx g4 m ∧ VarI wx g5 R ∧ Below w.heap.size w wx)
        case first =>
          refine tF Try.f32 6 (fFloorT9 m C) [] 3 0 ?_ ?_
          · refine ⟨fun _ _ F => gR rfl rfl (arm_load rfl (F.k 4 (Value.pointer (some ⟨g4, 0, none⟩))) (V4.mono F.below)).b, ?_⟩
            refine ⟨fun _ _ F => gR rfl rfl (arm_C1 rfl (enters Try.func69 rfl rfl) (F.f 0 rfl) (fun va w h1 => c_natural_Bits va m w h1 bm) (fun _ _ h => by rw [hC.out]; exact ofV h)).b, ?_⟩
            refine ⟨fun _ _ F => gR rfl rfl (arm_bin rfl (F.f 1 rfl) Is.const (fun _ => rfl) (fun w => by rw [HB.out]; rfl)).b, ?_⟩
            exact trivial
          intro E' hE gp wp bp G Gs
          obtain rfl : E' = [] := by simpa [subs] using hE
          have e_2 : gp 2 = Value.bool true := G 2 33 _ (by simp) rfl
          clear G Gs hE
          simp only [fFloorT9]
          simp only [qA, setD, qZ, qS, e_2]
          refine wpAny_done (by kernel_rfl) ?_ _
          go_wp2_with fail
          go_meet
          case rel => exact ⟨rfl, (V0.mono bp), (V4.mono bp), (V5.mono bp), (hb1.trans (bp.mono hb1.size))⟩
        case rest =>
        clear V0 V4 V5 hb1
        obtain ⟨rfl, V0, V4, V5, hb1⟩ := hcut
        go_wp2
        go_ret2
        exact ⟨rfl, hb1⟩
      · obtain ⟨C, hC⟩ : ∃ C : Int, Hid (C = ((len2 m : Nat) : Int)) := ⟨_, Lib.hid rfl⟩
        have HB : Hid (false = decide (64 < C)) := Lib.hid (by rw [hC.out]; symm; apply decide_eq_false; have := (len2_lt (m := m) (k := 64)).2 (by simpa using hbig); omega)
        go_upto_region 6 with (fail)
        go_cut [33] (fun s_33 wx => s_33 = Value.bool false ∧ VarQ wx w.heap.size (Fq.mk true xp xq) ∧ VarI wx g4 m ∧ VarI wx g5 R ∧ Below w.heap.size w wx)
        case first =>
          refine tF Try.f32 6 (fFloorT10 m C) [] 3 0 ?_ ?_
          · refine ⟨fun _ _ F => gR rfl rfl (arm_load rfl (F.k 4 (Value.pointer (some ⟨g4, 0, none⟩))) (V4.mono F.below)).b, ?_⟩
            refine ⟨fun _ _ F => gR rfl rfl (arm_C1 rfl (enters Try.func69 rfl rfl) (F.f 0 rfl) (fun va w h1 => c_natural_Bits va m w h1 bm) (fun _ _ h => by rw [hC.out]; exact ofV h)).b, ?_⟩
            refine ⟨fun _ _ F => gR rfl rfl (arm_bin rfl (F.f 1 rfl) Is.const (fun _ => rfl) (fun w => by rw [HB.out]; rfl)).b, ?_⟩
            exact trivial
          intro E' hE gp wp bp G Gs
          obtain rfl : E' = [] := by simpa [subs] using hE
          have e_2 : gp 2 = Value.bool false := G 2 33 _ (by simp) rfl
          clear G Gs hE
          simp only [fFloorT10]
          simp only [qA, setD, qZ, qS, e_2]
          refine wpAny_done (by kernel_rfl) ?_ _
          go_wp2_with fail
          go_meet
          case rel => exact ⟨rfl, (V0.mono bp), (V4.mono bp), (V5.mono bp), (hb1.trans (bp.mono hb1.size))⟩
        case rest =>
        clear V0 V4 V5 hb1
        obtain ⟨rfl, V0, V4, V5, hb1⟩ := hcut
        have hm2 : nl m ≤ 2 := nl_le_iff.2 (by show m < 18446744073709551616; omega)
        obtain ⟨y4, d4, q4, i4⟩ := V4
        have e4 := q4.cell
        obtain ⟨y, d, ey, hcy, r4⟩ := i4
        simp only [Value.agg.injEq, Array.mk.injEq, List.cons.injEq, Value.slice.injEq, and_true, true_and] at ey
        obtain ⟨rfl, rfl⟩ := ey
        have HM := Lib.hid hbig
        clear hbig
        go_upto_block 0 with (fail)
        go_cut [7] (fun s7 wx => s7 = .int .u64 (m : Int) ∧ VarQ wx w.heap.size (Fq.mk true xp xq) ∧ Below w.heap.size w wx)
        case first =>
          go_wp2_with fail
          go_loopw [7, 37] (fun s7 s37 wr => ∃ k : Nat, k ≤ nl m ∧ s37 = .int .i64 (k : Int) ∧ s7 = .int .u64 ((m % 4294967296 ^ k : Nat) : Int) ∧ wr = wc) (fun _ s37 _ => nl m - (intOf s37).toNat)
          case atStart => exact ⟨0, Nat.zero_le _, rfl, by rw [Nat.pow_zero, Nat.mod_one]; rfl, rfl⟩
          case round =>
            obtain ⟨k, hk, rfl, rfl, rfl⟩ := hrel
            by_cases hlt : k < nl m
            · obtain ⟨b1, o1, rfl, h1⟩ := r4.cells (by omega)
              have d1 := h1 k hlt
              have hd := D_lt m k
              go_wp2_with fail
              go_roundw
              case rel => (refine ⟨k + 1, by omega, by go_num, ?_, trivial⟩; exact congrArg _ (or_step m k (by omega)))
              case measure => simp [intOf] <;> omega
            · obtain rfl : k = nl m := by omega
              go_wp2_with fail
              go_meet
              case rel => exact ⟨by rw [Nat.mod_eq_of_lt (lt_nl m)], V0, hb1⟩
        case rest =>
        clear V0 V5 q4 e4 r4 hb1
        obtain ⟨rfl, V0, hb1⟩ := hcut
        have hml : m < 18446744073709551616 := by have := HM.out; omega
        by_cases h0 : m = 0
        · subst h0
          obtain rfl : r = (0, true) := by rw [hF.out]; rfl
          clear hF
          obtain ⟨r1, r2, r3, r4, rV, rn, rm⟩ := V0
          have c0 := rV.cell0
          go_wp2
          go_ret2
          exact ⟨rfl, hb1⟩
        · by_cases h63 : m ≤ 9223372036854775808
          · obtain rfl : r = (-(m : Int), true) := by rw [hF.out, if_pos rfl, if_pos h63]
            clear hF hm
            obtain ⟨r1, r2, r3, r4, rV, rn, rm⟩ := V0
            have c0 := rV.cell0
            have hz : ¬ ((m : Int) = 0) := by omega
            go_wp2
            go_ret2
            have e : (-((m : Int) - 1) - 1) = -(m : Int) := by omega
            refine ⟨?_, hb1⟩
            show Ending.returned (.tuple #[.int .i64 (-((m : Int) - 1) - 1), .bool true]) = _
            rw [e]
          · obtain rfl : r = (0, false) := by rw [hF.out, if_pos rfl, if_neg h63]
            clear hF hm
            obtain ⟨r1, r2, r3, r4, rV, rn, rm⟩ := V0
            have c0 := rV.cell0
            have hz : ¬ ((m : Int) = 0) := by omega
            go_wp2
            go_ret2
            exact ⟨rfl, hb1⟩
  · have hDm : Hid (m = xp / xq) := Lib.hid (by rw [hm.out]; unfold Fq.flM; rw [if_neg]; rintro ⟨h1, _⟩; cases h1)
    obtain ⟨a0, c0, b0, d0, rfl, m0, k0⟩ := boxF ha
    clear ha
    go_enter Try.func32, Try.ntmps32
    go_upto_region 0 with (fail)
    go_cut [1, 2, 3] (fun s_1 s_2 s_3 wx => s_1 = Value.pointer (some ⟨w.heap.size, 0, none⟩) ∧ s_2 = Value.int IntKind.i64 0 ∧ s_3 = Value.bool false ∧ VarQ wx w.heap.size (Fq.mk false xp xq) ∧ Below w.heap.size w wx)
    case first =>
      go_wp2_with fail
      go_meet
      case rel => exact ⟨rfl, rfl, rfl, k0, m0⟩
    case rest =>
    clear m0 k0
    obtain ⟨rfl, rfl, rfl, V0, hb1⟩ := hcut
    go_upto_region 1 with (fail)
    go_cut [4, 5, 6] (fun s_4 s_5 s_6 wx => ∃ g4 g5, s_4 = Value.pointer (some ⟨g4, 0, none⟩) ∧ s_5 = Value.pointer (some ⟨g5, 0, none⟩) ∧ s_6 = Value.int IntKind.i64 0 ∧ w.heap.size + 1 ≤ g4 ∧ w.heap.size + 1 ≤ g5 ∧ g4 ≠ g5 ∧ VarI wx g4 m ∧ VarI wx g5 R ∧ VarQ wx w.heap.size (Fq.mk false xp xq) ∧ Below w.heap.size w wx)
    case first =>
      obtain ⟨base, hbase0⟩ : ∃ b : Nat, Hid (b = wc.heap.size) := ⟨_, Lib.hid rfl⟩
      have hbase : base ≤ wc.heap.size := by rw [hbase0.out]; exact Nat.le_refl _
      have hbw : w.heap.size + 1 ≤ base := by have := hb1.size; have h1 := V0.lt; rw [hbase0.out]; omega
      have l_V0 : w.heap.size < base := by rw [hbase0.out]; exact V0.lt
      refine wp_tabGF Try.f32 1 (fFloorT11 w xp xq R m R base) [7, 8] (fun i => i == 9 || i == 10) 8 3 (by kernel_rfl) (by kernel_rfl) (by kernel_rfl) (by kernel_rfl) (by kernel_rfl) ⟨fun h => (by cases h), ⟨fun h => (by cases h), ⟨fun h => (by cases h), ⟨fun h => (by cases h), ⟨fun h => (by cases h), ⟨fun h => (by cases h), ⟨fun h => (by cases h), ⟨fun h => (by cases h), ⟨fun h => (by cases h), ⟨fun _ w v h => Sp.var_lt h, ⟨fun _ w v h => Sp.var_lt h, trivial⟩⟩⟩⟩⟩⟩⟩⟩⟩⟩⟩ ?_ ?_
      · refine ⟨fun _ _ F => gR rfl rfl (arm_fieldF rfl (F.k 1 (Value.pointer (some ⟨w.heap.size, 0, none⟩))) (run_field1 _)).b, ?_⟩
        refine ⟨fun _ _ F => gR rfl rfl (arm_load1 rfl (F.f 0 rfl) (V0.mono F.below)).b, ?_⟩
        refine ⟨fun _ _ F => gR rfl rfl (arm_fieldF rfl (F.k 1 (Value.pointer (some ⟨w.heap.size, 0, none⟩))) (run_field2 _)).b, ?_⟩
        refine ⟨fun _ _ F => gR rfl rfl (arm_load2 rfl (F.f 2 rfl) (V0.mono F.below)).b, ?_⟩
        refine ⟨fun _ _ F => gR rfl rfl (arm_C2 rfl (enters Try.func67 rfl rfl) (F.f 1 rfl) (F.f 3 rfl) (fun va vb w h1 h2 => c_natural_DivMod va vb xp xq w h1 h2 bp bq HQ.out) (fun _ _ h => by rw [hDm.out]; rw [hR.out]; exact ofDiv h)).b, ?_⟩
        refine ⟨fun _ _ F => gR rfl rfl (arm_move (.inl rfl) (F.f 4 rfl)).b, ?_⟩
        refine ⟨fun _ _ F => gR rfl rfl (arm_trip0 rfl (F.f 5 rfl)).b, ?_⟩
        refine ⟨fun _ _ F => gR rfl rfl (arm_trip1 rfl (F.f 5 rfl)).b, ?_⟩
        refine ⟨fun _ _ F => gR rfl rfl (arm_trip2 rfl (F.f 5 rfl)).b, ?_⟩
        refine ⟨fun _ _ F => gR rfl rfl (arm_alloc rfl (Nat.le_trans hbase F.below.size)), ?_⟩
        refine ⟨fun _ _ F => gR rfl rfl (arm_alloc rfl (Nat.le_trans hbase F.below.size)), ?_⟩
        exact trivial
      intro E' hE gp wp bp G Gs
      simp only [subs, List.map_cons, List.map_nil, List.nil_append, List.cons_append, List.mem_cons, List.not_mem_nil, or_false, List.append_nil] at hE
      rcases hE with rfl | rfl | rfl | rfl
      · obtain ⟨g4, e_9, lg_9, hv_9⟩ := G 9 4 _ (by simp) rfl
        obtain ⟨g5, e_10, lg_10, hv_10⟩ := G 10 5 _ (by simp) rfl
        have n_6 : (Sp.nat (m)).p wp (gp 6) := G 6 16 _ (by simp) rfl
        have n_7 : (Sp.nat (R)).p wp (gp 7) := G 7 17 _ (by simp) rfl
        have e_8 : gp 8 = Value.int IntKind.i64 0 := G 8 18 _ (by simp) rfl
        have ne_9_10 : g4 ≠ g5 := by have h := Gs 9 10 rfl rfl (by simp) (by simp) rfl rfl (by decide); rw [e_9, e_10] at h; exact h
        clear G Gs
        simp only [fFloorT11]
        simp only [qA, setD, qZ, qS, e_9, e_10, e_8]
        have T0 := hv_9
        refine wpAny_storeN (j := 11) (by kernel_rfl) rfl rfl rfl rfl rfl n_6 T0.any ?_
        intro w0 u0 v0
        have O0 := T0.own
        have T1 := (hv_10.upd O0 u0 (by omega))
        refine wpAny_storeN (j := 12) (by kernel_rfl) rfl rfl rfl rfl rfl (n_7.upd O0 u0) T1.any ?_
        intro w1 u1 v1
        have O1 := T1.own
        refine wpAny_takeD (i := 13) (d := some 6) (v := Value.int IntKind.i64 0) rfl rfl (by kernel_rfl) (by kernel_rfl) (by kernel_rfl) (fun _ _ _ h => h) (Or.inl ⟨by rfl, fun w => by rfl⟩) ?_
        try simp only [qP, qZ, qS]
        refine wpAny_done (by kernel_rfl) ?_ _
        go_wp2_with fail
        go_meet
        case rel => exact ⟨g4, g5, rfl, rfl, rfl, (by omega), (by omega), (by omega), (v0.upd O1 u1 (by omega)), v1, (((V0.mono bp).upd O0 u0 (by omega)).upd O1 u1 (by omega)), (Upd.below (Upd.below (hb1.trans (bp.mono hb1.size)) u0 (by omega)) u1 (by omega))⟩
      · obtain ⟨g4, e_9, lg_9, hv_9⟩ := G 9 4 _ (by simp) rfl
        obtain ⟨g5, e_10, lg_10, hv_10⟩ := G 10 5 _ (by simp) rfl
        obtain ⟨x_5_0, x_5_1, x_5_2, e_5, n_5_0, n_5_1, rfl⟩ := G 5 10 _ (by simp) rfl
        have n_6 : (Sp.nat (m)).p wp (gp 6) := G 6 16 _ (by simp) rfl
        have n_7 : (Sp.nat (R)).p wp (gp 7) := G 7 17 _ (by simp) rfl
        have ne_9_10 : g4 ≠ g5 := by have h := Gs 9 10 rfl rfl (by simp) (by simp) rfl rfl (by decide); rw [e_9, e_10] at h; exact h
        clear G Gs
        simp only [fFloorT11]
        simp only [qA, setD, qZ, qS, e_9, e_10, e_5]
        refine wpAny_takeD (i := 8) (d := some 18) (v := Value.int IntKind.i64 0) rfl rfl (by kernel_rfl) (by kernel_rfl) (by kernel_rfl) (fun _ _ _ h => h) (Or.inl ⟨by rfl, fun w => by rfl⟩) ?_
        try simp only [qP, qZ, qS]
        have T0 := hv_9
        refine wpAny_storeN (j := 11) (by kernel_rfl) rfl rfl rfl rfl rfl n_6 T0.any ?_
        intro w0 u0 v0
        have O0 := T0.own
        have T1 := (hv_10.upd O0 u0 (by omega))
        refine wpAny_storeN (j := 12) (by kernel_rfl) rfl rfl rfl rfl rfl (n_7.upd O0 u0) T1.any ?_
        intro w1 u1 v1
        have O1 := T1.own
        refine wpAny_takeD (i := 13) (d := some 6) (v := Value.int IntKind.i64 0) rfl rfl (by kernel_rfl) (by kernel_rfl) (by kernel_rfl) (fun _ _ _ h => h) (Or.inl ⟨by rfl, fun w => by rfl⟩) ?_
        try simp only [qP, qZ, qS]
        refine wpAny_done (by kernel_rfl) ?_ _
        go_wp2_with fail
        go_meet
        case rel => exact ⟨g4, g5, rfl, rfl, rfl, (by omega), (by omega), (by omega), (v0.upd O1 u1 (by omega)), v1, (((V0.mono bp).upd O0 u0 (by omega)).upd O1 u1 (by omega)), (Upd.below (Upd.below (hb1.trans (bp.mono hb1.size)) u0 (by omega)) u1 (by omega))⟩
      · obtain ⟨g4, e_9, lg_9, hv_9⟩ := G 9 4 _ (by simp) rfl
        obtain ⟨g5, e_10, lg_10, hv_10⟩ := G 10 5 _ (by simp) rfl
        obtain ⟨x_5_0, x_5_1, x_5_2, e_5, n_5_0, n_5_1, rfl⟩ := G 5 10 _ (by simp) rfl
        have n_6 : (Sp.nat (m)).p wp (gp 6) := G 6 16 _ (by simp) rfl
        have e_8 : gp 8 = Value.int IntKind.i64 0 := G 8 18 _ (by simp) rfl
        have ne_9_10 : g4 ≠ g5 := by have h := Gs 9 10 rfl rfl (by simp) (by simp) rfl rfl (by decide); rw [e_9, e_10] at h; exact h
        clear G Gs
        simp only [fFloorT11]
        simp only [qA, setD, qZ, qS, e_9, e_10, e_5, e_8]
        refine wpAny_takeD (i := 7) (d := some 17) (v := x_5_1) rfl rfl (by kernel_rfl) (by kernel_rfl) (by kernel_rfl) (fun _ _ _ h => h) (Or.inl ⟨by rfl, fun w => by rfl⟩) ?_
        try simp only [qP, qZ, qS]
        have T0 := hv_9
        refine wpAny_storeN (j := 11) (by kernel_rfl) rfl rfl rfl rfl rfl n_6 T0.any ?_
        intro w0 u0 v0
        have O0 := T0.own
        have T1 := (hv_10.upd O0 u0 (by omega))
        refine wpAny_storeN (j := 12) (by kernel_rfl) rfl rfl rfl rfl rfl (n_5_1.upd O0 u0) T1.any ?_
        intro w1 u1 v1
        have O1 := T1.own
        refine wpAny_takeD (i := 13) (d := some 6) (v := Value.int IntKind.i64 0) rfl rfl (by kernel_rfl) (by kernel_rfl) (by kernel_rfl) (fun _ _ _ h => h) (Or.inl ⟨by rfl, fun w => by rfl⟩) ?_
        try simp only [qP, qZ, qS]
        refine wpAny_done (by kernel_rfl) ?_ _
        go_wp2_with fail
        go_meet
        case rel => exact ⟨g4, g5, rfl, rfl, rfl, (by omega), (by omega), (by omega), (v0.upd O1 u1 (by omega)), v1, (((V0.mono bp).upd O0 u0 (by omega)).upd O1 u1 (by omega)), (Upd.below (Upd.below (hb1.trans (bp.mono hb1.size)) u0 (by omega)) u1 (by omega))⟩
      · obtain ⟨g4, e_9, lg_9, hv_9⟩ := G 9 4 _ (by simp) rfl
        obtain ⟨g5, e_10, lg_10, hv_10⟩ := G 10 5 _ (by simp) rfl
        obtain ⟨x_5_0, x_5_1, x_5_2, e_5, n_5_0, n_5_1, rfl⟩ := G 5 10 _ (by simp) rfl
        have n_6 : (Sp.nat (m)).p wp (gp 6) := G 6 16 _ (by simp) rfl
        have ne_9_10 : g4 ≠ g5 := by have h := Gs 9 10 rfl rfl (by simp) (by simp) rfl rfl (by decide); rw [e_9, e_10] at h; exact h
        clear G Gs
        simp only [fFloorT11]
        simp only [qA, setD, qZ, qS, e_9, e_10, e_5]
        refine wpAny_takeD (i := 7) (d := some 17) (v := x_5_1) rfl rfl (by kernel_rfl) (by kernel_rfl) (by kernel_rfl) (fun _ _ _ h => h) (Or.inl ⟨by rfl, fun w => by rfl⟩) ?_
        try simp only [qP, qZ, qS]
        refine wpAny_takeD (i := 8) (d := some 18) (v := Value.int IntKind.i64 0) rfl rfl (by kernel_rfl) (by kernel_rfl) (by kernel_rfl) (fun _ _ _ h => h) (Or.inl ⟨by rfl, fun w => by rfl⟩) ?_
        try simp only [qP, qZ, qS]
        have T0 := hv_9
        refine wpAny_storeN (j := 11) (by kernel_rfl) rfl rfl rfl rfl rfl n_6 T0.any ?_
        intro w0 u0 v0
        have O0 := T0.own
        have T1 := (hv_10.upd O0 u0 (by omega))
        refine wpAny_storeN (j := 12) (by kernel_rfl) rfl rfl rfl rfl rfl (n_5_1.upd O0 u0) T1.any ?_
        intro w1 u1 v1
        have O1 := T1.own
        refine wpAny_takeD (i := 13) (d := some 6) (v := Value.int IntKind.i64 0) rfl rfl (by kernel_rfl) (by kernel_rfl) (by kernel_rfl) (fun _ _ _ h => h) (Or.inl ⟨by rfl, fun w => by rfl⟩) ?_
        try simp only [qP, qZ, qS]
        refine wpAny_done (by kernel_rfl) ?_ _
        go_wp2_with fail
        go_meet
        case rel => exact ⟨g4, g5, rfl, rfl, rfl, (by omega), (by omega), (by omega), (v0.upd O1 u1 (by omega)), v1, (((V0.mono bp).upd O0 u0 (by omega)).upd O1 u1 (by omega)), (Upd.below (Upd.below (hb1.trans (bp.mono hb1.size)) u0 (by omega)) u1 (by omega))⟩
    case rest =>
    clear V0 hb1
    obtain ⟨g4, g5, rfl, rfl, rfl, lg4, lg5, d1_0, V4, V5, V0, hb1⟩ := hcut
    go_upto_region 2 with (fail)
    go_cut [20] (fun s_20 wx => s_20 = Value.bool false ∧ VarQ wx w.heap.size (Fq.mk false xp xq) ∧ VarI wx g4 m ∧ VarI wx g5 R ∧ Below w.heap.size w wx)
    case first =>
      refine tF Try.f32 2 (fFloorT12 ) [] 2 0 ?_ ?_
      · refine ⟨fun _ _ F => gR rfl rfl (arm_move (.inl rfl) (F.k 6 (Value.int IntKind.i64 0))).b, ?_⟩
        refine ⟨fun _ _ F => gR rfl rfl (arm_bin rfl (F.f 0 rfl) Is.const (fun _ => rfl) (fun _ => rfl)).b, ?_⟩
        exact trivial
      intro E' hE gp wp bp G Gs
      obtain rfl : E' = [] := by simpa [subs] using hE
      have e_1 : gp 1 = Value.bool false := G 1 20 _ (by simp) rfl
      clear G Gs hE
      simp only [fFloorT12]
      simp only [qA, setD, qZ, qS, e_1]
      refine wpAny_done (by kernel_rfl) ?_ _
      go_wp2_with fail
      go_meet
      case rel => exact ⟨rfl, (V0.mono bp), (V4.mono bp), (V5.mono bp), (hb1.trans (bp.mono hb1.size))⟩
    case rest =>
    clear V0 V4 V5 hb1
    obtain ⟨rfl, V0, V4, V5, hb1⟩ := hcut
    go_upto_region 4 with (fail)
    go_cut [27] (fun s_27 wx => s_27 = Value.bool false ∧ VarQ wx w.heap.size (Fq.mk false xp xq) ∧ VarI wx g4 m ∧ VarI wx g5 R ∧ Below w.heap.size w wx)
    case first =>
      refine tF Try.f32 4 (fFloorT13 w) [] 7 0 ?_ ?_
      · refine ⟨fun _ _ F => gR rfl rfl (arm_fieldF rfl (F.k 1 (Value.pointer (some ⟨w.heap.size, 0, none⟩))) (run_field0 _)).b, ?_⟩
        refine ⟨fun _ _ F => gR rfl rfl (arm_loadS rfl (F.f 0 rfl) (V0.mono F.below)).b, ?_⟩
        refine ⟨fun _ _ F => gR rfl rfl (arm_move (.inl rfl) (F.f 1 rfl)).b, ?_⟩
        refine ⟨fun _ _ F => gS F rfl rfl rfl rfl rfl rfl, ?_⟩
        refine ⟨fun _ _ F => gS F rfl rfl rfl rfl rfl rfl, ?_⟩
        refine ⟨fun _ _ F => gS F rfl rfl rfl rfl rfl rfl, ?_⟩
        refine ⟨fun _ _ F => gR rfl rfl (arm_pick rfl (F.f 2 rfl) (fun h => by cases h) (fun _ => Is.const)).b, ?_⟩
        exact trivial
      intro E' hE gp wp bp G Gs
      obtain rfl : E' = [] := by simpa [subs] using hE
      have e_6 : gp 6 = Value.bool false := G 6 27 _ (by simp) rfl
      clear G Gs hE
      simp only [fFloorT13]
      simp only [qA, setD, qZ, qS, e_6]
      refine wpAny_done (by kernel_rfl) ?_ _
      go_wp2_with fail
      go_meet
      case rel => exact ⟨rfl, (V0.mono bp), (V4.mono bp), (V5.mono bp), (hb1.trans (bp.mono hb1.size))⟩
    case rest =>
    clear V0 V4 V5 hb1
    obtain ⟨rfl, V0, V4, V5, hb1⟩ := hcut
    by_cases hbig : 18446744073709551616 ≤ m
    · obtain ⟨C, hC⟩ : ∃ C : Int, Hid (C = ((len2 m : Nat) : Int)) := ⟨_, Lib.hid rfl⟩
      have HB : Hid (true = decide (64 < C)) := Lib.hid (by rw [hC.out]; symm; apply decide_eq_true; have := (not_congr (len2_lt (m := m) (k := 64))).2 (by simpa using hbig); omega)
      obtain rfl : r = (0, false) := by rw [hF.out, if_neg Bool.false_ne_true, if_neg (by omega)]
      clear hbig hF
      go_upto_region 6 with (fail)
      go_cut [33] (fun s_33 wx => s_33 = Value.bool true ∧ VarQ wx w.heap.size (Fq.mk false xp xq) ∧ VarI wx g4 m ∧ VarI wx g5 R ∧ Below w.heap.size w wx)
      case first =>
        refine tF Try.f32 6 (fFloorT14 m C) [] 3 0 ?_ ?_
        · refine ⟨fun _ _ F => gR rfl rfl (arm_load rfl (F.k 4 (Value.pointer (some ⟨g4, 0, none⟩))) (V4.mono F.below)).b, ?_⟩
          refine ⟨fun _ _ F => gR rfl rfl (arm_C1 rfl (enters Try.func69 rfl rfl) (F.f 0 rfl) (fun va w h1 => c_natural_Bits va m w h1 bm) (fun _ _ h => by rw [hC.out]; exact ofV h)).b, ?_⟩
          refine ⟨fun _ _ F => gR rfl rfl (arm_bin rfl (F.f 1 rfl) Is.const (fun _ => rfl) (fun w => by rw [HB.out]; rfl)).b, ?_⟩
          exact trivial
        intro E' hE gp wp bp G Gs
        obtain rfl : E' = [] := by simpa [subs] using hE
        have e_2 : gp 2 = Value.bool true := G 2 33 _ (by simp) rfl
        clear G Gs hE
        simp only [fFloorT14]
        simp only [qA, setD, qZ, qS, e_2]
        refine wpAny_done (by kernel_rfl) ?_ _
        go_wp2_with fail
        go_meet
        case rel => exact ⟨rfl, (V0.mono bp), (V4.mono bp), (V5.mono bp), (hb1.trans (bp.mono hb1.size))⟩
      case rest =>
      clear V0 V4 V5 hb1
      obtain ⟨rfl, V0, V4, V5, hb1⟩ := hcut
      go_wp2
      go_ret2
      exact ⟨rfl, hb1⟩
    · obtain ⟨C, hC⟩ : ∃ C : Int, Hid (C = ((len2 m : Nat) : Int)) := ⟨_, Lib.hid rfl⟩
      have HB : Hid (false = decide (64 < C)) := Lib.hid (by rw [hC.out]; symm; apply decide_eq_false; have := (len2_lt (m := m) (k := 64)).2 (by simpa using hbig); omega)
      go_upto_region 6 with (fail)
      go_cut [33] (fun s_33 wx => s_33 = Value.bool false ∧ VarQ wx w.heap.size (Fq.mk false xp xq) ∧ VarI wx g4 m ∧ VarI wx g5 R ∧ Below w.heap.size w wx)
      case first =>
        refine tF Try.f32 6 (fFloorT15 m C) [] 3 0 ?_ ?_
        · refine ⟨fun _ _ F => gR rfl rfl (arm_load rfl (F.k 4 (Value.pointer (some ⟨g4, 0, none⟩))) (V4.mono F.below)).b, ?_⟩
          refine ⟨fun _ _ F => gR rfl rfl (arm_C1 rfl (enters Try.func69 rfl rfl) (F.f 0 rfl) (fun va w h1 => c_natural_Bits va m w h1 bm) (fun _ _ h => by rw [hC.out]; exact ofV h)).b, ?_⟩
          refine ⟨fun _ _ F => gR rfl rfl (arm_bin rfl (F.f 1 rfl) Is.const (fun _ => rfl) (fun w => by rw [HB.out]; rfl)).b, ?_⟩
          exact trivial
        intro E' hE gp wp bp G Gs
        obtain rfl : E' = [] := by simpa [subs] using hE
        have e_2 : gp 2 = Value.bool false := G 2 33 _ (by simp) rfl
        clear G Gs hE
        simp only [fFloorT15]
        simp only [qA, setD, qZ, qS, e_2]
        refine wpAny_done (by kernel_rfl) ?_ _
        go_wp2_with fail
        go_meet
        case rel => exact ⟨rfl, (V0.mono bp), (V4.mono bp), (V5.mono bp), (hb1.trans (bp.mono hb1.size))⟩
      case rest =>
      clear V0 V4 V5 hb1
      obtain ⟨rfl, V0, V4, V5, hb1⟩ := hcut
      have hm2 : nl m ≤ 2 := nl_le_iff.2 (by show m < 18446744073709551616; omega)
      obtain ⟨y4, d4, q4, i4⟩ := V4
      have e4 := q4.cell
      obtain ⟨y, d, ey, hcy, r4⟩ := i4
      simp only [Value.agg.injEq, Array.mk.injEq, List.cons.injEq, Value.slice.injEq, and_true, true_and] at ey
      obtain ⟨rfl, rfl⟩ := ey
      have HM := Lib.hid hbig
      clear hbig
      go_upto_block 0 with (fail)
      go_cut [7] (fun s7 wx => s7 = .int .u64 (m : Int) ∧ VarQ wx w.heap.size (Fq.mk false xp xq) ∧ Below w.heap.size w wx)
      case first =>
        go_wp2_with fail
        go_loopw [7, 37] (fun s7 s37 wr => ∃ k : Nat, k ≤ nl m ∧ s37 = .int .i64 (k : Int) ∧ s7 = .int .u64 ((m % 4294967296 ^ k : Nat) : Int) ∧ wr = wc) (fun _ s37 _ => nl m - (intOf s37).toNat)
        case atStart => exact ⟨0, Nat.zero_le _, rfl, by rw [Nat.pow_zero, Nat.mod_one]; rfl, rfl⟩
        case round =>
          obtain ⟨k, hk, rfl, rfl, rfl⟩ := hrel
          by_cases hlt : k < nl m
          · obtain ⟨b1, o1, rfl, h1⟩ := r4.cells (by omega)
            have d1 := h1 k hlt
            have hd := D_lt m k
            go_wp2_with fail
            go_roundw
            case rel => (refine ⟨k + 1, by omega, by go_num, ?_, trivial⟩; exact congrArg _ (or_step m k (by omega)))
            case measure => simp [intOf] <;> omega
          · obtain rfl : k = nl m := by omega
            go_wp2_with fail
            go_meet
            case rel => exact ⟨by rw [Nat.mod_eq_of_lt (lt_nl m)], V0, hb1⟩
      case rest =>
      clear V0 V5 q4 e4 r4 hb1
      obtain ⟨rfl, V0, hb1⟩ := hcut
      have hml : m < 18446744073709551616 := by have := HM.out; omega
      by_cases h0 : m = 0
      · subst h0
        obtain rfl : r = (0, true) := by rw [hF.out]; rfl
        clear hF
        obtain ⟨r1, r2, r3, r4, rV, rn, rm⟩ := V0
        have c0 := rV.cell0
        go_wp2
        go_ret2
        exact ⟨rfl, hb1⟩
      · by_cases h63 : m < 9223372036854775808
        · obtain rfl : r = ((m : Int), true) := by rw [hF.out, if_neg Bool.false_ne_true, if_pos h63]
          clear hF hm
          obtain ⟨r1, r2, r3, r4, rV, rn, rm⟩ := V0
          have c0 := rV.cell0
          have hz : ¬ ((m : Int) = 0) := by omega
          have h63i : (m : Int) ≤ 9223372036854775807 := by omega
          have h0i : 0 ≤ (m : Int) := by omega
          clear h63 hml h0 HM
          generalize hM : (m : Int) = M at *
          replace hM := Lib.hid hM
          go_wp2
          go_ret2
          have := hM.out
          subst this
          exact ⟨rfl, hb1⟩
        · obtain rfl : r = (0, false) := by rw [hF.out, if_neg Bool.false_ne_true, if_neg h63]
          clear hF hm
          obtain ⟨r1, r2, r3, r4, rV, rn, rm⟩ := V0
          have c0 := rV.cell0
          have hz : ¬ ((m : Int) = 0) := by omega
          have h63i : ¬ (m : Int) < 9223372036854775808 := by omega
          clear h63 hml h0 HM
          go_wp2
          go_ret2
          exact ⟨rfl, hb1⟩
end Go.Proofs.Ytldnimohnbjfaaa
