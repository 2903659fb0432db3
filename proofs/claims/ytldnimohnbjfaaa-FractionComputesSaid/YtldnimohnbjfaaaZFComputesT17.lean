/- The law FractionComputes. -/
import Derived.Test.YtldnimohnbjfaaaP16
namespace Go.Proofs.Ytldnimohnbjfaaa
set_option linter.unusedSimpArgs false
set_option linter.unusedVariables false
set_option maxRecDepth 100000
open Go.RowKit
def lCoT0 (x : Fq) (y : Fq) : List (Nat × Tmp × Sp) :=
   [(0, 11, .fq x),
    (1, 12, .val (Value.bool true)),
    (2, 13, .val (Value.bool false)),
    (3, 14, .val (Value.bool false)),
    (4, 15, .fq y),
    (5, 16, .val (Value.bool true)),
    (6, 17, .val (Value.bool false)),
    (7, 18, .val (Value.bool false))]
def lCoT1 (x : Fq) (y : Fq) (base : Nat) : List (Nat × Tmp × Sp) :=
   [(0, 20, .fq x),
    (1, 21, .fq x),
    (2, 22, .fq y),
    (3, 23, .fq y),
    (4, 5, .varF base),
    (5, 6, .varF base)]
def lCoT2 (x : Fq) (y : Fq) (base : Nat) : List (Nat × Tmp × Sp) :=
   [(0, 25, .fq x),
    (1, 26, .fq y),
    (2, 27, .pair (.fq Fq.zero) (.val (Value.int IntKind.i64 8))),
    (3, 24, .pair (.fq Fq.zero) (.val (Value.int IntKind.i64 8))),
    (4, 28, .fq Fq.zero),
    (5, 29, .val (Value.int IntKind.i64 8)),
    (6, 7, .varF base)]
def lCoT3 (x : Fq) (y : Fq) (base : Nat) : List (Nat × Tmp × Sp) :=
   [(0, 31, .fq x),
    (1, 32, .fq y),
    (2, 33, .pair (.fq Fq.zero) (.val (Value.int IntKind.i64 8))),
    (3, 30, .pair (.fq Fq.zero) (.val (Value.int IntKind.i64 8))),
    (4, 34, .fq Fq.zero),
    (5, 35, .val (Value.int IntKind.i64 8)),
    (6, 9, .varF base)]
def lCoT4  : List (Nat × Tmp × Sp) :=
   [(0, 36, .val (Value.int IntKind.i64 8)),
    (1, 37, .val (Value.int IntKind.i64 8)),
    (2, 38, .val (Value.bool false)),
    (3, 39, .val (Value.bool false)),
    (4, 40, .fq Fq.zero),
    (5, 41, .fq Fq.zero),
    (6, 42, .val (Value.bool true)),
    (7, 43, .val (Value.bool false)),
    (8, 44, .val (Value.bool false))]
def lCoT5 (x : Fq) (y : Fq) : List (Nat × Tmp × Sp) :=
   [(0, 45, .fq x),
    (1, 46, .fq y),
    (2, 47, .fq (x.add y)),
    (3, 48, .fq x),
    (4, 49, .fq y),
    (5, 50, .fq (x.add y)),
    (6, 51, .val (Value.bool true)),
    (7, 52, .val (Value.bool false)),
    (8, 53, .val (Value.bool false)),
    (9, 54, .fq x),
    (10, 55, .fq y),
    (11, 56, .fq (x.sub y)),
    (12, 57, .fq x),
    (13, 58, .fq y),
    (14, 59, .fq (x.sub y)),
    (15, 60, .val (Value.bool true)),
    (16, 61, .val (Value.bool false)),
    (17, 62, .val (Value.bool false)),
    (18, 63, .val (Value.bool false)),
    (19, 64, .fq x),
    (20, 65, .fq y),
    (21, 66, .fq (x.mul y)),
    (22, 67, .fq x),
    (23, 68, .fq y),
    (24, 69, .fq (x.mul y)),
    (25, 70, .val (Value.bool true)),
    (26, 71, .val (Value.bool false)),
    (27, 72, .val (Value.bool false)),
    (28, 73, .val (Value.bool false)),
    (29, 74, .fq x),
    (30, 75, .fq (x.neg)),
    (31, 76, .fq x),
    (32, 77, .fq (x.neg)),
    (33, 78, .val (Value.bool true)),
    (34, 79, .val (Value.bool false)),
    (35, 80, .val (Value.bool false))]
def lCoT6 (x : Fq) (y : Fq) : List (Nat × Tmp × Sp) :=
   [(0, 81, .fq x),
    (1, 82, .fq y),
    (2, 83, .val (Value.int IntKind.i64 (x.cmp y))),
    (3, 84, .fq x),
    (4, 85, .fq y),
    (5, 86, .val (Value.int IntKind.i64 (x.cmp y))),
    (6, 87, .val (Value.bool true)),
    (7, 88, .val (Value.bool true)),
    (8, 89, .fq x),
    (9, 90, .val (Value.int IntKind.i64 x.sgn)),
    (10, 91, .fq x),
    (11, 92, .val (Value.int IntKind.i64 x.sgn)),
    (12, 93, .val (Value.bool true)),
    (13, 94, .val (Value.bool true)),
    (14, 95, .val (Value.bool true)),
    (15, 96, .fq x),
    (16, 97, .fq x),
    (17, 98, .val (Value.bool true)),
    (18, 99, .val (Value.bool true)),
    (19, 100, .val (Value.bool true)),
    (20, 101, .fq y),
    (21, 102, .fq y),
    (22, 103, .val (Value.bool true)),
    (23, 104, .val (Value.bool true)),
    (24, 105, .val (Value.bool true)),
    (25, 106, .val (Value.bool true)),
    (26, 107, .val (Value.bool true)),
    (27, 4, .val (Value.bool true))]
def lCoT7 (x : Fq) (y : Fq) : List (Nat × Tmp × Sp) :=
   [(0, 11, .fq x),
    (1, 12, .val (Value.bool true)),
    (2, 13, .val (Value.bool false)),
    (3, 14, .val (Value.bool false)),
    (4, 15, .fq y),
    (5, 16, .val (Value.bool true)),
    (6, 17, .val (Value.bool false)),
    (7, 18, .val (Value.bool false))]
def lCoT8 (x : Fq) (y : Fq) (base : Nat) : List (Nat × Tmp × Sp) :=
   [(0, 20, .fq x),
    (1, 21, .fq x),
    (2, 22, .fq y),
    (3, 23, .fq y),
    (4, 5, .varF base),
    (5, 6, .varF base)]
def lCoT9 (x : Fq) (y : Fq) (base : Nat) : List (Nat × Tmp × Sp) :=
   [(0, 25, .fq x),
    (1, 26, .fq y),
    (2, 27, .pair (.fq (x.div y)) (.val (Value.int IntKind.i64 0))),
    (3, 24, .pair (.fq (x.div y)) (.val (Value.int IntKind.i64 0))),
    (4, 28, .fq (x.div y)),
    (5, 29, .val (Value.int IntKind.i64 0)),
    (6, 7, .varF base)]
def lCoT10 (x : Fq) (y : Fq) (base : Nat) : List (Nat × Tmp × Sp) :=
   [(0, 31, .fq x),
    (1, 32, .fq y),
    (2, 33, .pair (.fq (x.div y)) (.val (Value.int IntKind.i64 0))),
    (3, 30, .pair (.fq (x.div y)) (.val (Value.int IntKind.i64 0))),
    (4, 34, .fq (x.div y)),
    (5, 35, .val (Value.int IntKind.i64 0)),
    (6, 9, .varF base)]
def lCoT11 (x : Fq) (y : Fq) : List (Nat × Tmp × Sp) :=
   [(0, 36, .val (Value.int IntKind.i64 0)),
    (1, 37, .val (Value.int IntKind.i64 0)),
    (2, 38, .val (Value.bool false)),
    (3, 39, .val (Value.bool false)),
    (4, 40, .fq (x.div y)),
    (5, 41, .fq (x.div y)),
    (6, 42, .val (Value.bool true)),
    (7, 43, .val (Value.bool false)),
    (8, 44, .val (Value.bool false))]
def lCoT12 (x : Fq) (y : Fq) : List (Nat × Tmp × Sp) :=
   [(0, 45, .fq x),
    (1, 46, .fq y),
    (2, 47, .fq (x.add y)),
    (3, 48, .fq x),
    (4, 49, .fq y),
    (5, 50, .fq (x.add y)),
    (6, 51, .val (Value.bool true)),
    (7, 52, .val (Value.bool false)),
    (8, 53, .val (Value.bool false)),
    (9, 54, .fq x),
    (10, 55, .fq y),
    (11, 56, .fq (x.sub y)),
    (12, 57, .fq x),
    (13, 58, .fq y),
    (14, 59, .fq (x.sub y)),
    (15, 60, .val (Value.bool true)),
    (16, 61, .val (Value.bool false)),
    (17, 62, .val (Value.bool false)),
    (18, 63, .val (Value.bool false)),
    (19, 64, .fq x),
    (20, 65, .fq y),
    (21, 66, .fq (x.mul y)),
    (22, 67, .fq x),
    (23, 68, .fq y),
    (24, 69, .fq (x.mul y)),
    (25, 70, .val (Value.bool true)),
    (26, 71, .val (Value.bool false)),
    (27, 72, .val (Value.bool false)),
    (28, 73, .val (Value.bool false)),
    (29, 74, .fq x),
    (30, 75, .fq (x.neg)),
    (31, 76, .fq x),
    (32, 77, .fq (x.neg)),
    (33, 78, .val (Value.bool true)),
    (34, 79, .val (Value.bool false)),
    (35, 80, .val (Value.bool false))]
def lCoT13 (x : Fq) (y : Fq) : List (Nat × Tmp × Sp) :=
   [(0, 81, .fq x),
    (1, 82, .fq y),
    (2, 83, .val (Value.int IntKind.i64 (x.cmp y))),
    (3, 84, .fq x),
    (4, 85, .fq y),
    (5, 86, .val (Value.int IntKind.i64 (x.cmp y))),
    (6, 87, .val (Value.bool true)),
    (7, 88, .val (Value.bool true)),
    (8, 89, .fq x),
    (9, 90, .val (Value.int IntKind.i64 x.sgn)),
    (10, 91, .fq x),
    (11, 92, .val (Value.int IntKind.i64 x.sgn)),
    (12, 93, .val (Value.bool true)),
    (13, 94, .val (Value.bool true)),
    (14, 95, .val (Value.bool true)),
    (15, 96, .fq x),
    (16, 97, .fq x),
    (17, 98, .val (Value.bool true)),
    (18, 99, .val (Value.bool true)),
    (19, 100, .val (Value.bool true)),
    (20, 101, .fq y),
    (21, 102, .fq y),
    (22, 103, .val (Value.bool true)),
    (23, 104, .val (Value.bool true)),
    (24, 105, .val (Value.bool true)),
    (25, 106, .val (Value.bool true)),
    (26, 107, .val (Value.bool true)),
    (27, 4, .val (Value.bool true))]
set_option maxHeartbeats 4000000 in
theorem c_lCoT (vx vy : Value) (x y : Fq) (w : World) (ix : IsQ w vx x) (iy : IsQ w vy y) (hx : x.ok 12) (ex : x.valid = true) (hy : y.ok 12) (ey : y.valid = true) :
    Calls Try.prog 10 #[vx, vy] w fun e w' => RetV w (.bool true) e w' := by
  by_cases h0 : y.p = 0
  · have P0 := Lib.hid h0
    clear h0
    obtain ⟨a0, c0, b0, d0, rfl, m0, k0⟩ := boxF ix
    obtain ⟨a1, c1, b1, d1, rfl, m1, k1⟩ := boxF (iy.mono m0)
    rw [World.size_alloc ] at k1
    have n1 := m0.trans (m1.mono m0.size)
    clear ix iy
    go_enter Try.func10, Try.ntmps10
    go_upto_region 0 with (fail)
    go_cut [2, 3, 4] (fun s_2 s_3 s_4 wx => s_2 = Value.pointer (some ⟨w.heap.size, 0, none⟩) ∧ s_3 = Value.pointer (some ⟨w.heap.size + 1, 0, none⟩) ∧ s_4 = Value.bool false ∧ VarQ wx w.heap.size x ∧ VarQ wx (w.heap.size + 1) y ∧ Below w.heap.size w wx)
    case first =>
      go_wp2_with fail
      go_meet
      case rel => exact ⟨rfl, rfl, rfl, (k0.mono m1), k1, n1⟩
    case rest =>
    clear m0 k0 m1 k1 n1
    obtain ⟨rfl, rfl, rfl, V0, V1, hb1⟩ := hcut
    go_upto_region 1 with (fail)
    go_cut [18] (fun s_18 wx => s_18 = Value.bool false ∧ VarQ wx w.heap.size x ∧ VarQ wx (w.heap.size + 1) y ∧ Below w.heap.size w wx)
    case first =>
      refine tF Try.f10 1 (lCoT0 x y) [] 8 0 ?_ ?_
      · refine ⟨fun _ _ F => gR rfl rfl (arm_loadF rfl (F.k 2 (Value.pointer (some ⟨w.heap.size, 0, none⟩))) (V0.mono F.below)).b, ?_⟩
        refine ⟨fun _ _ F => gR rfl rfl (arm_C1 rfl (enters Try.func18 rfl rfl) (F.f 0 rfl) (fun va w h1 => q_fitQ va x w h1 hx ex) (fun _ _ h => ofV h)).b, ?_⟩
        refine ⟨fun _ _ F => gR rfl rfl (arm_not rfl (F.f 1 rfl)).b, ?_⟩
        refine ⟨fun _ _ F => gR rfl rfl (arm_move (.inl rfl) (F.f 2 rfl)).b, ?_⟩
        refine ⟨fun _ _ F => gG F rfl rfl rfl rfl (arm_loadF rfl (F.k 3 (Value.pointer (some ⟨w.heap.size + 1, 0, none⟩))) (V1.mono F.below)).b, ?_⟩
        refine ⟨fun _ _ F => gG F rfl rfl rfl rfl (arm_C1 rfl (enters Try.func18 rfl rfl) (F.f 4 rfl) (fun va w h1 => q_fitQ va y w h1 hy ey) (fun _ _ h => ofV h)).b, ?_⟩
        refine ⟨fun _ _ F => gG F rfl rfl rfl rfl (arm_not rfl (F.f 5 rfl)).b, ?_⟩
        refine ⟨fun _ _ F => gR rfl rfl (arm_pick rfl (F.f 3 rfl) (fun h => by cases h) (fun _ => (F.f 6 rfl))).b, ?_⟩
        exact trivial
      intro E' hE gp wp bp G Gs
      obtain rfl : E' = [] := by simpa [subs] using hE
      have e_7 : gp 7 = Value.bool false := G 7 18 _ (by simp) rfl
      clear G Gs hE
      simp only [lCoT0]
      simp only [qA, setD, qZ, qS, e_7]
      refine wpAny_done (by kernel_rfl) ?_ _
      go_wp2_with fail
      go_meet
      case rel => exact ⟨rfl, (V0.mono bp), (V1.mono bp), (hb1.trans (bp.mono hb1.size))⟩
    case rest =>
    clear V0 V1 hb1
    obtain ⟨rfl, V0, V1, hb1⟩ := hcut
    go_upto_region 3 with (fail)
    go_cut [5, 6] (fun s_5 s_6 wx => ∃ g5 g6, s_5 = Value.pointer (some ⟨g5, 0, none⟩) ∧ s_6 = Value.pointer (some ⟨g6, 0, none⟩) ∧ w.heap.size + 2 ≤ g5 ∧ w.heap.size + 2 ≤ g6 ∧ g5 ≠ g6 ∧ VarQ wx g5 x ∧ VarQ wx g6 y ∧ VarQ wx w.heap.size x ∧ VarQ wx (w.heap.size + 1) y ∧ Below w.heap.size w wx)
    case first =>
      obtain ⟨base, hbase0⟩ : ∃ b : Nat, Hid (b = wc.heap.size) := ⟨_, Lib.hid rfl⟩
      have hbase : base ≤ wc.heap.size := by rw [hbase0.out]; exact Nat.le_refl _
      have hbw : w.heap.size + 2 ≤ base := by have := hb1.size; have h1 := V1.lt; rw [hbase0.out]; omega
      have l_V0 : w.heap.size < base := by rw [hbase0.out]; exact V0.lt
      have l_V1 : w.heap.size + 1 < base := by rw [hbase0.out]; exact V1.lt
      refine wp_tabG Try.f10 3 (lCoT1 x y base) [] (fun i => i == 4 || i == 5) 5 2 (by kernel_rfl) (by kernel_rfl) (by kernel_rfl) (by kernel_rfl) (by kernel_rfl) ⟨fun h => (by cases h), ⟨fun h => (by cases h), ⟨fun h => (by cases h), ⟨fun h => (by cases h), ⟨fun _ w v h => Sp.varF_lt h, ⟨fun _ w v h => Sp.varF_lt h, trivial⟩⟩⟩⟩⟩⟩ ?_ ?_
      · refine ⟨fun _ _ F => gR rfl rfl (arm_loadF rfl (F.k 2 (Value.pointer (some ⟨w.heap.size, 0, none⟩))) (V0.mono F.below)).b, ?_⟩
        refine ⟨fun _ _ F => gR rfl rfl (arm_C1 rfl (enters Try.func41 rfl rfl) (F.f 0 rfl) (fun va w h1 => q_copied va x w h1 (hx.mono (by decide))) (fun _ _ h => ofQ h)).b, ?_⟩
        refine ⟨fun _ _ F => gR rfl rfl (arm_loadF rfl (F.k 3 (Value.pointer (some ⟨w.heap.size + 1, 0, none⟩))) (V1.mono F.below)).b, ?_⟩
        refine ⟨fun _ _ F => gR rfl rfl (arm_C1 rfl (enters Try.func41 rfl rfl) (F.f 2 rfl) (fun va w h1 => q_copied va y w h1 (hy.mono (by decide))) (fun _ _ h => ofQ h)).b, ?_⟩
        refine ⟨fun _ _ F => gR rfl rfl (arm_allocF rfl (Nat.le_trans hbase F.below.size)), ?_⟩
        refine ⟨fun _ _ F => gR rfl rfl (arm_allocF rfl (Nat.le_trans hbase F.below.size)), ?_⟩
        exact trivial
      intro E' hE gp wp bp G Gs
      obtain rfl : E' = [] := by simpa [subs] using hE
      obtain ⟨g5, e_4, lg_4, hv_4⟩ := G 4 5 _ (by simp) rfl
      obtain ⟨g6, e_5, lg_5, hv_5⟩ := G 5 6 _ (by simp) rfl
      have n_1 : (Sp.fq x).p wp (gp 1) := G 1 21 _ (by simp) rfl
      have n_3 : (Sp.fq y).p wp (gp 3) := G 3 23 _ (by simp) rfl
      have ne_4_5 : g5 ≠ g6 := by have h := Gs 4 5 rfl rfl (by simp) (by simp) rfl rfl (by decide); rw [e_4, e_5] at h; exact h
      clear G Gs hE
      simp only [lCoT1]
      simp only [qA, setD, qZ, qS, e_4, e_5]
      have T0 := hv_4
      refine wpAny_storeFr (j := 6) (by kernel_rfl) rfl rfl rfl rfl rfl n_1 T0.any ?_
      intro w0 u0 v0
      have O0 := T0.own
      have T1 := (hv_5.upd O0 u0 (by omega))
      refine wpAny_storeFr (j := 7) (by kernel_rfl) rfl rfl rfl rfl rfl (n_3.upd O0 u0) T1.any ?_
      intro w1 u1 v1
      have O1 := T1.own
      refine wpAny_done (by kernel_rfl) ?_ _
      go_wp2_with fail
      go_meet
      case rel => exact ⟨g5, g6, rfl, rfl, (by omega), (by omega), (by omega), (v0.upd O1 u1 (by omega)), v1, (((V0.mono bp).upd O0 u0 (by omega)).upd O1 u1 (by omega)), (((V1.mono bp).upd O0 u0 (by omega)).upd O1 u1 (by omega)), (Upd.below (Upd.below (hb1.trans (bp.mono hb1.size)) u0 (by omega)) u1 (by omega))⟩
    case rest =>
    clear V0 V1 hb1
    obtain ⟨g5, g6, rfl, rfl, lg5, lg6, d3_0, V5, V6, V0, V1, hb1⟩ := hcut
    go_upto_region 4 with (fail)
    go_cut [7, 8] (fun s_7 s_8 wx => ∃ g7, s_7 = Value.pointer (some ⟨g7, 0, none⟩) ∧ s_8 = Value.int IntKind.i64 8 ∧ w.heap.size + 2 ≤ g7 ∧ g5 < g7 ∧ g6 < g7 ∧ VarQ wx g7 Fq.zero ∧ VarQ wx w.heap.size x ∧ VarQ wx (w.heap.size + 1) y ∧ VarQ wx g5 x ∧ VarQ wx g6 y ∧ Below w.heap.size w wx)
    case first =>
      obtain ⟨base, hbase0⟩ : ∃ b : Nat, Hid (b = wc.heap.size) := ⟨_, Lib.hid rfl⟩
      have hbase : base ≤ wc.heap.size := by rw [hbase0.out]; exact Nat.le_refl _
      have hbw : w.heap.size + 2 ≤ base := by have := hb1.size; have h1 := V1.lt; rw [hbase0.out]; omega
      have l_V0 : w.heap.size < base := by rw [hbase0.out]; exact V0.lt
      have l_V1 : w.heap.size + 1 < base := by rw [hbase0.out]; exact V1.lt
      have l_V5 : g5 < base := by rw [hbase0.out]; exact V5.lt
      have l_V6 : g6 < base := by rw [hbase0.out]; exact V6.lt
      refine wp_tabGF Try.f10 4 (lCoT2 x y base) [5] (fun i => i == 6) 6 2 (by kernel_rfl) (by kernel_rfl) (by kernel_rfl) (by kernel_rfl) (by kernel_rfl) ⟨fun h => (by cases h), ⟨fun h => (by cases h), ⟨fun h => (by cases h), ⟨fun h => (by cases h), ⟨fun h => (by cases h), ⟨fun h => (by cases h), ⟨fun _ w v h => Sp.varF_lt h, trivial⟩⟩⟩⟩⟩⟩⟩ ?_ ?_
      · refine ⟨fun _ _ F => gR rfl rfl (arm_loadF rfl (F.k 5 (Value.pointer (some ⟨g5, 0, none⟩))) (V5.mono F.below)).b, ?_⟩
        refine ⟨fun _ _ F => gR rfl rfl (arm_loadF rfl (F.k 6 (Value.pointer (some ⟨g6, 0, none⟩))) (V6.mono F.below)).b, ?_⟩
        refine ⟨fun _ _ F => gR rfl rfl (arm_C2 rfl (enters Try.func40 rfl rfl) (F.f 0 rfl) (F.f 1 rfl) (fun va vb w h1 h2 => q_fDiv0 va vb x y w h1 h2 (hx.mono (by decide)) (hy.mono (by decide)) P0.out) (fun _ _ h => ofQE h)).b, ?_⟩
        refine ⟨fun _ _ F => gR rfl rfl (arm_move (.inl rfl) (F.f 2 rfl)).b, ?_⟩
        refine ⟨fun _ _ F => gR rfl rfl (arm_pair0 rfl (F.f 3 rfl)).b, ?_⟩
        refine ⟨fun _ _ F => gR rfl rfl (arm_pair1 rfl (F.f 3 rfl)).b, ?_⟩
        refine ⟨fun _ _ F => gR rfl rfl (arm_allocF rfl (Nat.le_trans hbase F.below.size)), ?_⟩
        exact trivial
      intro E' hE gp wp bp G Gs
      simp only [subs, List.map_cons, List.map_nil, List.nil_append, List.cons_append, List.mem_cons, List.not_mem_nil, or_false, List.append_nil] at hE
      rcases hE with rfl | rfl
      · obtain ⟨g7, e_6, lg_6, hv_6⟩ := G 6 7 _ (by simp) rfl
        have n_4 : (Sp.fq Fq.zero).p wp (gp 4) := G 4 28 _ (by simp) rfl
        have e_5 : gp 5 = Value.int IntKind.i64 8 := G 5 29 _ (by simp) rfl
        clear G Gs
        simp only [lCoT2]
        simp only [qA, setD, qZ, qS, e_6, e_5]
        have T0 := hv_6
        refine wpAny_storeFr (j := 7) (by kernel_rfl) rfl rfl rfl rfl rfl n_4 T0.any ?_
        intro w0 u0 v0
        have O0 := T0.own
        refine wpAny_takeD (i := 8) (d := some 8) (v := Value.int IntKind.i64 8) rfl rfl (by kernel_rfl) (by kernel_rfl) (by kernel_rfl) (fun _ _ _ h => h) (Or.inl ⟨by rfl, fun w => by rfl⟩) ?_
        try simp only [qP, qZ, qS]
        refine wpAny_done (by kernel_rfl) ?_ _
        go_wp2_with fail
        go_meet
        case rel => exact ⟨g7, rfl, rfl, (by omega), (by omega), (by omega), v0, ((V0.mono bp).upd O0 u0 (by omega)), ((V1.mono bp).upd O0 u0 (by omega)), ((V5.mono bp).upd O0 u0 (by omega)), ((V6.mono bp).upd O0 u0 (by omega)), (Upd.below (hb1.trans (bp.mono hb1.size)) u0 (by omega))⟩
      · obtain ⟨g7, e_6, lg_6, hv_6⟩ := G 6 7 _ (by simp) rfl
        obtain ⟨x_3_0, x_3_1, e_3, n_3_0, rfl⟩ := G 3 24 _ (by simp) rfl
        have n_4 : (Sp.fq Fq.zero).p wp (gp 4) := G 4 28 _ (by simp) rfl
        clear G Gs
        simp only [lCoT2]
        simp only [qA, setD, qZ, qS, e_6, e_3]
        refine wpAny_takeD (i := 5) (d := some 29) (v := Value.int IntKind.i64 8) rfl rfl (by kernel_rfl) (by kernel_rfl) (by kernel_rfl) (fun _ _ _ h => h) (Or.inl ⟨by rfl, fun w => by rfl⟩) ?_
        try simp only [qP, qZ, qS]
        have T0 := hv_6
        refine wpAny_storeFr (j := 7) (by kernel_rfl) rfl rfl rfl rfl rfl n_4 T0.any ?_
        intro w0 u0 v0
        have O0 := T0.own
        refine wpAny_takeD (i := 8) (d := some 8) (v := Value.int IntKind.i64 8) rfl rfl (by kernel_rfl) (by kernel_rfl) (by kernel_rfl) (fun _ _ _ h => h) (Or.inl ⟨by rfl, fun w => by rfl⟩) ?_
        try simp only [qP, qZ, qS]
        refine wpAny_done (by kernel_rfl) ?_ _
        go_wp2_with fail
        go_meet
        case rel => exact ⟨g7, rfl, rfl, (by omega), (by omega), (by omega), v0, ((V0.mono bp).upd O0 u0 (by omega)), ((V1.mono bp).upd O0 u0 (by omega)), ((V5.mono bp).upd O0 u0 (by omega)), ((V6.mono bp).upd O0 u0 (by omega)), (Upd.below (hb1.trans (bp.mono hb1.size)) u0 (by omega))⟩
    case rest =>
    clear V0 V1 V5 V6 hb1
    obtain ⟨g7, rfl, rfl, lg7, d4_0, d4_1, V7, V0, V1, V5, V6, hb1⟩ := hcut
    go_upto_region 5 with (fail)
    go_cut [9, 10] (fun s_9 s_10 wx => ∃ g9, s_9 = Value.pointer (some ⟨g9, 0, none⟩) ∧ s_10 = Value.int IntKind.i64 8 ∧ w.heap.size + 2 ≤ g9 ∧ g5 < g9 ∧ g6 < g9 ∧ g7 < g9 ∧ VarQ wx g9 Fq.zero ∧ VarQ wx w.heap.size x ∧ VarQ wx (w.heap.size + 1) y ∧ VarQ wx g5 x ∧ VarQ wx g6 y ∧ VarQ wx g7 Fq.zero ∧ Below w.heap.size w wx)
    case first =>
      obtain ⟨base, hbase0⟩ : ∃ b : Nat, Hid (b = wc.heap.size) := ⟨_, Lib.hid rfl⟩
      have hbase : base ≤ wc.heap.size := by rw [hbase0.out]; exact Nat.le_refl _
      have hbw : w.heap.size + 2 ≤ base := by have := hb1.size; have h1 := V1.lt; rw [hbase0.out]; omega
      have l_V0 : w.heap.size < base := by rw [hbase0.out]; exact V0.lt
      have l_V1 : w.heap.size + 1 < base := by rw [hbase0.out]; exact V1.lt
      have l_V5 : g5 < base := by rw [hbase0.out]; exact V5.lt
      have l_V6 : g6 < base := by rw [hbase0.out]; exact V6.lt
      have l_V7 : g7 < base := by rw [hbase0.out]; exact V7.lt
      refine wp_tabGF Try.f10 5 (lCoT3 x y base) [5] (fun i => i == 6) 6 2 (by kernel_rfl) (by kernel_rfl) (by kernel_rfl) (by kernel_rfl) (by kernel_rfl) ⟨fun h => (by cases h), ⟨fun h => (by cases h), ⟨fun h => (by cases h), ⟨fun h => (by cases h), ⟨fun h => (by cases h), ⟨fun h => (by cases h), ⟨fun _ w v h => Sp.varF_lt h, trivial⟩⟩⟩⟩⟩⟩⟩ ?_ ?_
      · refine ⟨fun _ _ F => gR rfl rfl (arm_loadF rfl (F.k 2 (Value.pointer (some ⟨w.heap.size, 0, none⟩))) (V0.mono F.below)).b, ?_⟩
        refine ⟨fun _ _ F => gR rfl rfl (arm_loadF rfl (F.k 3 (Value.pointer (some ⟨w.heap.size + 1, 0, none⟩))) (V1.mono F.below)).b, ?_⟩
        refine ⟨fun _ _ F => gR rfl rfl (arm_C2 rfl (enters Try.func42 rfl rfl) (F.f 0 rfl) (F.f 1 rfl) (fun va vb w h1 h2 => q_rDiv0 va vb x y w h1 h2 (hx.mono (by decide)) (hy.mono (by decide)) P0.out) (fun _ _ h => ofQE h)).b, ?_⟩
        refine ⟨fun _ _ F => gR rfl rfl (arm_move (.inl rfl) (F.f 2 rfl)).b, ?_⟩
        refine ⟨fun _ _ F => gR rfl rfl (arm_pair0 rfl (F.f 3 rfl)).b, ?_⟩
        refine ⟨fun _ _ F => gR rfl rfl (arm_pair1 rfl (F.f 3 rfl)).b, ?_⟩
        refine ⟨fun _ _ F => gR rfl rfl (arm_allocF rfl (Nat.le_trans hbase F.below.size)), ?_⟩
        exact trivial
      intro E' hE gp wp bp G Gs
      simp only [subs, List.map_cons, List.map_nil, List.nil_append, List.cons_append, List.mem_cons, List.not_mem_nil, or_false, List.append_nil] at hE
      rcases hE with rfl | rfl
      · obtain ⟨g9, e_6, lg_6, hv_6⟩ := G 6 9 _ (by simp) rfl
        have n_4 : (Sp.fq Fq.zero).p wp (gp 4) := G 4 34 _ (by simp) rfl
        have e_5 : gp 5 = Value.int IntKind.i64 8 := G 5 35 _ (by simp) rfl
        clear G Gs
        simp only [lCoT3]
        simp only [qA, setD, qZ, qS, e_6, e_5]
        have T0 := hv_6
        refine wpAny_storeFr (j := 7) (by kernel_rfl) rfl rfl rfl rfl rfl n_4 T0.any ?_
        intro w0 u0 v0
        have O0 := T0.own
        refine wpAny_takeD (i := 8) (d := some 10) (v := Value.int IntKind.i64 8) rfl rfl (by kernel_rfl) (by kernel_rfl) (by kernel_rfl) (fun _ _ _ h => h) (Or.inl ⟨by rfl, fun w => by rfl⟩) ?_
        try simp only [qP, qZ, qS]
        refine wpAny_done (by kernel_rfl) ?_ _
        go_wp2_with fail
        go_meet
        case rel => exact ⟨g9, rfl, rfl, (by omega), (by omega), (by omega), (by omega), v0, ((V0.mono bp).upd O0 u0 (by omega)), ((V1.mono bp).upd O0 u0 (by omega)), ((V5.mono bp).upd O0 u0 (by omega)), ((V6.mono bp).upd O0 u0 (by omega)), ((V7.mono bp).upd O0 u0 (by omega)), (Upd.below (hb1.trans (bp.mono hb1.size)) u0 (by omega))⟩
      · obtain ⟨g9, e_6, lg_6, hv_6⟩ := G 6 9 _ (by simp) rfl
        obtain ⟨x_3_0, x_3_1, e_3, n_3_0, rfl⟩ := G 3 30 _ (by simp) rfl
        have n_4 : (Sp.fq Fq.zero).p wp (gp 4) := G 4 34 _ (by simp) rfl
        clear G Gs
        simp only [lCoT3]
        simp only [qA, setD, qZ, qS, e_6, e_3]
        refine wpAny_takeD (i := 5) (d := some 35) (v := Value.int IntKind.i64 8) rfl rfl (by kernel_rfl) (by kernel_rfl) (by kernel_rfl) (fun _ _ _ h => h) (Or.inl ⟨by rfl, fun w => by rfl⟩) ?_
        try simp only [qP, qZ, qS]
        have T0 := hv_6
        refine wpAny_storeFr (j := 7) (by kernel_rfl) rfl rfl rfl rfl rfl n_4 T0.any ?_
        intro w0 u0 v0
        have O0 := T0.own
        refine wpAny_takeD (i := 8) (d := some 10) (v := Value.int IntKind.i64 8) rfl rfl (by kernel_rfl) (by kernel_rfl) (by kernel_rfl) (fun _ _ _ h => h) (Or.inl ⟨by rfl, fun w => by rfl⟩) ?_
        try simp only [qP, qZ, qS]
        refine wpAny_done (by kernel_rfl) ?_ _
        go_wp2_with fail
        go_meet
        case rel => exact ⟨g9, rfl, rfl, (by omega), (by omega), (by omega), (by omega), v0, ((V0.mono bp).upd O0 u0 (by omega)), ((V1.mono bp).upd O0 u0 (by omega)), ((V5.mono bp).upd O0 u0 (by omega)), ((V6.mono bp).upd O0 u0 (by omega)), ((V7.mono bp).upd O0 u0 (by omega)), (Upd.below (hb1.trans (bp.mono hb1.size)) u0 (by omega))⟩
    case rest =>
    clear V0 V1 V5 V6 V7 hb1
    obtain ⟨g9, rfl, rfl, lg9, d5_0, d5_1, d5_2, V9, V0, V1, V5, V6, V7, hb1⟩ := hcut
    go_upto_region 6 with (fail)
    go_cut [44] (fun s_44 wx => s_44 = Value.bool false ∧ VarQ wx w.heap.size x ∧ VarQ wx (w.heap.size + 1) y ∧ VarQ wx g5 x ∧ VarQ wx g6 y ∧ VarQ wx g7 Fq.zero ∧ VarQ wx g9 Fq.zero ∧ Below w.heap.size w wx)
    case first =>
      refine tF Try.f10 6 (lCoT4 ) [] 7 0 ?_ ?_
      · refine ⟨fun _ _ F => gR rfl rfl (arm_move (.inl rfl) (F.k 8 (Value.int IntKind.i64 8))).b, ?_⟩
        refine ⟨fun _ _ F => gR rfl rfl (arm_move (.inl rfl) (F.k 10 (Value.int IntKind.i64 8))).b, ?_⟩
        refine ⟨fun _ _ F => gR rfl rfl (arm_bin rfl (F.f 0 rfl) (F.f 1 rfl) (fun _ => rfl) (fun _ => rfl)).b, ?_⟩
        refine ⟨fun _ _ F => gR rfl rfl (arm_move (.inl rfl) (F.f 2 rfl)).b, ?_⟩
        refine ⟨fun _ _ F => gG F rfl rfl rfl rfl (arm_loadF rfl (F.k 7 (Value.pointer (some ⟨g7, 0, none⟩))) (V7.mono F.below)).b, ?_⟩
        refine ⟨fun _ _ F => gG F rfl rfl rfl rfl (arm_loadF rfl (F.k 9 (Value.pointer (some ⟨g9, 0, none⟩))) (V9.mono F.below)).b, ?_⟩
        refine ⟨fun _ _ F => gG F rfl rfl rfl rfl (arm_C2 rfl (enters Try.func16 rfl rfl) (F.f 4 rfl) (F.f 5 rfl) (fun va vb w h1 h2 => q_SameB va vb Fq.zero Fq.zero w h1 h2 (by decide) (by decide) (by decide) (by decide)) (fun _ _ h => by have h' : RetV _ _ _ _ := h; rw [Fq.same_refl Fq.zero] at h'; exact ofV h')).b, ?_⟩
        refine ⟨fun _ _ F => gG F rfl rfl rfl rfl (arm_not rfl (F.f 6 rfl)).b, ?_⟩
        refine ⟨fun _ _ F => gR rfl rfl (arm_pick rfl (F.f 3 rfl) (fun h => by cases h) (fun _ => (F.f 7 rfl))).b, ?_⟩
        exact trivial
      intro E' hE gp wp bp G Gs
      obtain rfl : E' = [] := by simpa [subs] using hE
      have e_8 : gp 8 = Value.bool false := G 8 44 _ (by simp) rfl
      clear G Gs hE
      simp only [lCoT4]
      simp only [qA, setD, qZ, qS, e_8]
      refine wpAny_done (by kernel_rfl) ?_ _
      go_wp2_with fail
      go_meet
      case rel => exact ⟨rfl, (V0.mono bp), (V1.mono bp), (V5.mono bp), (V6.mono bp), (V7.mono bp), (V9.mono bp), (hb1.trans (bp.mono hb1.size))⟩
    case rest =>
    clear V0 V1 V5 V6 V7 V9 hb1
    obtain ⟨rfl, V0, V1, V5, V6, V7, V9, hb1⟩ := hcut
    go_upto_region 8 with (fail)
    go_cut [80] (fun s_80 wx => s_80 = Value.bool false ∧ VarQ wx w.heap.size x ∧ VarQ wx (w.heap.size + 1) y ∧ VarQ wx g5 x ∧ VarQ wx g6 y ∧ VarQ wx g7 Fq.zero ∧ VarQ wx g9 Fq.zero ∧ Below w.heap.size w wx)
    case first =>
      refine tG Try.f10 8 (lCoT5 x y) [] 26 0 ?_ ?_
      · refine ⟨fun _ _ F => gR rfl rfl (arm_loadF rfl (F.k 5 (Value.pointer (some ⟨g5, 0, none⟩))) (V5.mono F.below)).b, ?_⟩
        refine ⟨fun _ _ F => gR rfl rfl (arm_loadF rfl (F.k 6 (Value.pointer (some ⟨g6, 0, none⟩))) (V6.mono F.below)).b, ?_⟩
        refine ⟨fun _ _ F => gR rfl rfl (arm_C2 rfl (enters Try.func37 rfl rfl) (F.f 0 rfl) (F.f 1 rfl) (fun va vb w h1 h2 => q_fAdd va vb x y w h1 h2 (hx.mono (by decide)) (hy.mono (by decide))) (fun _ _ h => ofQ h)).b, ?_⟩
        refine ⟨fun _ _ F => gR rfl rfl (arm_loadF rfl (F.k 2 (Value.pointer (some ⟨w.heap.size, 0, none⟩))) (V0.mono F.below)).b, ?_⟩
        refine ⟨fun _ _ F => gR rfl rfl (arm_loadF rfl (F.k 3 (Value.pointer (some ⟨w.heap.size + 1, 0, none⟩))) (V1.mono F.below)).b, ?_⟩
        refine ⟨fun _ _ F => gR rfl rfl (arm_C2 rfl (enters Try.func43 rfl rfl) (F.f 3 rfl) (F.f 4 rfl) (fun va vb w h1 h2 => q_rAdd va vb x y w h1 h2 (hx.mono (by decide)) (hy.mono (by decide))) (fun _ _ h => ofQ h)).b, ?_⟩
        refine ⟨fun _ _ F => gR rfl rfl (arm_C2 rfl (enters Try.func16 rfl rfl) (F.f 2 rfl) (F.f 5 rfl) (fun va vb w h1 h2 => q_Same va vb (x.add y) (x.add y) w h1 h2 ((hx.add hy).mono (by decide)) ((hx.add hy).mono (by decide))) (fun _ _ h => by have h' : RetV _ _ _ _ := h; rw [Fq.same_refl (x.add y)] at h'; exact ofV h')).b, ?_⟩
        refine ⟨fun _ _ F => gR rfl rfl (arm_not rfl (F.f 6 rfl)).b, ?_⟩
        refine ⟨fun _ _ F => gR rfl rfl (arm_move (.inl rfl) (F.f 7 rfl)).b, ?_⟩
        refine ⟨fun _ _ F => gG F rfl rfl rfl rfl (arm_loadF rfl (F.k 5 (Value.pointer (some ⟨g5, 0, none⟩))) (V5.mono F.below)).b, ?_⟩
        refine ⟨fun _ _ F => gG F rfl rfl rfl rfl (arm_loadF rfl (F.k 6 (Value.pointer (some ⟨g6, 0, none⟩))) (V6.mono F.below)).b, ?_⟩
        refine ⟨fun _ _ F => gG F rfl rfl rfl rfl (arm_C2 rfl (enters Try.func34 rfl rfl) (F.f 9 rfl) (F.f 10 rfl) (fun va vb w h1 h2 => q_fSub va vb x y w h1 h2 (hx.mono (by decide)) (hy.mono (by decide))) (fun _ _ h => ofQ h)).b, ?_⟩
        refine ⟨fun _ _ F => gG F rfl rfl rfl rfl (arm_loadF rfl (F.k 2 (Value.pointer (some ⟨w.heap.size, 0, none⟩))) (V0.mono F.below)).b, ?_⟩
        refine ⟨fun _ _ F => gG F rfl rfl rfl rfl (arm_loadF rfl (F.k 3 (Value.pointer (some ⟨w.heap.size + 1, 0, none⟩))) (V1.mono F.below)).b, ?_⟩
        refine ⟨fun _ _ F => gG F rfl rfl rfl rfl (arm_C2 rfl (enters Try.func29 rfl rfl) (F.f 12 rfl) (F.f 13 rfl) (fun va vb w h1 h2 => q_rSub va vb x y w h1 h2 (hx.mono (by decide)) (hy.mono (by decide))) (fun _ _ h => ofQ h)).b, ?_⟩
        refine ⟨fun _ _ F => gG F rfl rfl rfl rfl (arm_C2 rfl (enters Try.func16 rfl rfl) (F.f 11 rfl) (F.f 14 rfl) (fun va vb w h1 h2 => q_Same va vb (x.sub y) (x.sub y) w h1 h2 ((hx.sub hy).mono (by decide)) ((hx.sub hy).mono (by decide))) (fun _ _ h => by have h' : RetV _ _ _ _ := h; rw [Fq.same_refl (x.sub y)] at h'; exact ofV h')).b, ?_⟩
        refine ⟨fun _ _ F => gG F rfl rfl rfl rfl (arm_not rfl (F.f 15 rfl)).b, ?_⟩
        refine ⟨fun _ _ F => gR rfl rfl (arm_pick rfl (F.f 8 rfl) (fun h => by cases h) (fun _ => (F.f 16 rfl))).b, ?_⟩
        refine ⟨fun _ _ F => gR rfl rfl (arm_move (.inl rfl) (F.f 17 rfl)).b, ?_⟩
        refine ⟨fun _ _ F => gG F rfl rfl rfl rfl (arm_loadF rfl (F.k 5 (Value.pointer (some ⟨g5, 0, none⟩))) (V5.mono F.below)).b, ?_⟩
        refine ⟨fun _ _ F => gG F rfl rfl rfl rfl (arm_loadF rfl (F.k 6 (Value.pointer (some ⟨g6, 0, none⟩))) (V6.mono F.below)).b, ?_⟩
        refine ⟨fun _ _ F => gG F rfl rfl rfl rfl (arm_C2 rfl (enters Try.func38 rfl rfl) (F.f 19 rfl) (F.f 20 rfl) (fun va vb w h1 h2 => q_fMul va vb x y w h1 h2 (hx.mono (by decide)) (hy.mono (by decide))) (fun _ _ h => ofQ h)).b, ?_⟩
        refine ⟨fun _ _ F => gG F rfl rfl rfl rfl (arm_loadF rfl (F.k 2 (Value.pointer (some ⟨w.heap.size, 0, none⟩))) (V0.mono F.below)).b, ?_⟩
        refine ⟨fun _ _ F => gG F rfl rfl rfl rfl (arm_loadF rfl (F.k 3 (Value.pointer (some ⟨w.heap.size + 1, 0, none⟩))) (V1.mono F.below)).b, ?_⟩
        refine ⟨fun _ _ F => gG F rfl rfl rfl rfl (arm_C2 rfl (enters Try.func44 rfl rfl) (F.f 22 rfl) (F.f 23 rfl) (fun va vb w h1 h2 => q_rMul va vb x y w h1 h2 (hx.mono (by decide)) (hy.mono (by decide))) (fun _ _ h => ofQ h)).b, ?_⟩
        refine ⟨fun _ _ F => gG F rfl rfl rfl rfl (arm_C2 rfl (enters Try.func16 rfl rfl) (F.f 21 rfl) (F.f 24 rfl) (fun va vb w h1 h2 => q_Same va vb (x.mul y) (x.mul y) w h1 h2 ((hx.mul hy).mono (by decide)) ((hx.mul hy).mono (by decide))) (fun _ _ h => by have h' : RetV _ _ _ _ := h; rw [Fq.same_refl (x.mul y)] at h'; exact ofV h')).b, ?_⟩
        refine ⟨fun _ _ F => gG F rfl rfl rfl rfl (arm_not rfl (F.f 25 rfl)).b, ?_⟩
        refine ⟨fun _ _ F => gR rfl rfl (arm_pick rfl (F.f 18 rfl) (fun h => by cases h) (fun _ => (F.f 26 rfl))).b, ?_⟩
        refine ⟨fun _ _ F => gR rfl rfl (arm_move (.inl rfl) (F.f 27 rfl)).b, ?_⟩
        refine ⟨fun _ _ F => gG F rfl rfl rfl rfl (arm_loadF rfl (F.k 5 (Value.pointer (some ⟨g5, 0, none⟩))) (V5.mono F.below)).b, ?_⟩
        refine ⟨fun _ _ F => gG F rfl rfl rfl rfl (arm_C1 rfl (enters Try.func39 rfl rfl) (F.f 29 rfl) (fun va w h1 => q_fNeg va x w h1 (hx.mono (by decide))) (fun _ _ h => ofQ h)).b, ?_⟩
        refine ⟨fun _ _ F => gG F rfl rfl rfl rfl (arm_loadF rfl (F.k 2 (Value.pointer (some ⟨w.heap.size, 0, none⟩))) (V0.mono F.below)).b, ?_⟩
        refine ⟨fun _ _ F => gG F rfl rfl rfl rfl (arm_C1 rfl (enters Try.func45 rfl rfl) (F.f 31 rfl) (fun va w h1 => q_rNeg va x w h1 (hx.mono (by decide))) (fun _ _ h => ofQ h)).b, ?_⟩
        refine ⟨fun _ _ F => gG F rfl rfl rfl rfl (arm_C2 rfl (enters Try.func16 rfl rfl) (F.f 30 rfl) (F.f 32 rfl) (fun va vb w h1 h2 => q_Same va vb (x.neg) (x.neg) w h1 h2 (hx.neg.mono (by decide)) (hx.neg.mono (by decide))) (fun _ _ h => by have h' : RetV _ _ _ _ := h; rw [Fq.same_refl (x.neg)] at h'; exact ofV h')).b, ?_⟩
        refine ⟨fun _ _ F => gG F rfl rfl rfl rfl (arm_not rfl (F.f 33 rfl)).b, ?_⟩
        refine ⟨fun _ _ F => gR rfl rfl (arm_pick rfl (F.f 28 rfl) (fun h => by cases h) (fun _ => (F.f 34 rfl))).b, ?_⟩
        exact trivial
      intro E' hE gp wp bp G Gs
      obtain rfl : E' = [] := by simpa [subs] using hE
      have e_35 : gp 35 = Value.bool false := G 35 80 _ (by simp) rfl
      clear G Gs hE
      simp only [lCoT5]
      simp only [qA, setD, qZ, qS, e_35]
      refine wpAny_done (by kernel_rfl) ?_ _
      go_wp2_with fail
      go_meet
      case rel => exact ⟨rfl, (V0.mono bp), (V1.mono bp), (V5.mono bp), (V6.mono bp), (V7.mono bp), (V9.mono bp), (hb1.trans (bp.mono hb1.size))⟩
    case rest =>
    clear V0 V1 V5 V6 V7 V9 hb1
    obtain ⟨rfl, V0, V1, V5, V6, V7, V9, hb1⟩ := hcut
    go_upto_region 10 with (fail)
    go_cut [4] (fun s_4 wx => s_4 = Value.bool true ∧ VarQ wx w.heap.size x ∧ VarQ wx (w.heap.size + 1) y ∧ VarQ wx g5 x ∧ VarQ wx g6 y ∧ VarQ wx g7 Fq.zero ∧ VarQ wx g9 Fq.zero ∧ Below w.heap.size w wx)
    case first =>
      refine tG Try.f10 10 (lCoT6 x y) [] 22 0 ?_ ?_
      · refine ⟨fun _ _ F => gR rfl rfl (arm_loadF rfl (F.k 5 (Value.pointer (some ⟨g5, 0, none⟩))) (V5.mono F.below)).b, ?_⟩
        refine ⟨fun _ _ F => gR rfl rfl (arm_loadF rfl (F.k 6 (Value.pointer (some ⟨g6, 0, none⟩))) (V6.mono F.below)).b, ?_⟩
        refine ⟨fun _ _ F => gR rfl rfl (arm_C2 rfl (enters Try.func36 rfl rfl) (F.f 0 rfl) (F.f 1 rfl) (fun va vb w h1 h2 => q_fCmp va vb x y w h1 h2 (hx.mono (by decide)) (hy.mono (by decide))) (fun _ _ h => ofV h)).b, ?_⟩
        refine ⟨fun _ _ F => gR rfl rfl (arm_loadF rfl (F.k 2 (Value.pointer (some ⟨w.heap.size, 0, none⟩))) (V0.mono F.below)).b, ?_⟩
        refine ⟨fun _ _ F => gR rfl rfl (arm_loadF rfl (F.k 3 (Value.pointer (some ⟨w.heap.size + 1, 0, none⟩))) (V1.mono F.below)).b, ?_⟩
        refine ⟨fun _ _ F => gR rfl rfl (arm_C2 rfl (enters Try.func31 rfl rfl) (F.f 3 rfl) (F.f 4 rfl) (fun va vb w h1 h2 => q_rCmp va vb x y w h1 h2 (hx.mono (by decide)) (hy.mono (by decide))) (fun _ _ h => ofV h)).b, ?_⟩
        refine ⟨fun _ _ F => gR rfl rfl (arm_bin rfl (F.f 2 rfl) (F.f 5 rfl) (fun _ => rfl) (fun w => run_eqJ _ _ w)).b, ?_⟩
        refine ⟨fun _ _ F => gR rfl rfl (arm_move (.inl rfl) (F.f 6 rfl)).b, ?_⟩
        refine ⟨fun _ _ F => gG F rfl rfl rfl rfl (arm_loadF rfl (F.k 5 (Value.pointer (some ⟨g5, 0, none⟩))) (V5.mono F.below)).b, ?_⟩
        refine ⟨fun _ _ F => gG F rfl rfl rfl rfl (arm_C1 rfl (enters Try.func35 rfl rfl) (F.f 8 rfl) (fun va w h1 => q_fSign va x w h1 (hx.mono (by decide))) (fun _ _ h => ofV h)).b, ?_⟩
        refine ⟨fun _ _ F => gG F rfl rfl rfl rfl (arm_loadF rfl (F.k 2 (Value.pointer (some ⟨w.heap.size, 0, none⟩))) (V0.mono F.below)).b, ?_⟩
        refine ⟨fun _ _ F => gG F rfl rfl rfl rfl (arm_C1 rfl (enters Try.func30 rfl rfl) (F.f 10 rfl) (fun va w h1 => q_rSign va x w h1 (hx.mono (by decide))) (fun _ _ h => ofV h)).b, ?_⟩
        refine ⟨fun _ _ F => gG F rfl rfl rfl rfl (arm_bin rfl (F.f 9 rfl) (F.f 11 rfl) (fun _ => rfl) (fun w => run_eqJ _ _ w)).b, ?_⟩
        refine ⟨fun _ _ F => gR rfl rfl (arm_pick rfl (F.f 7 rfl) (fun _ => (F.f 12 rfl)) (fun h => by cases h)).b, ?_⟩
        refine ⟨fun _ _ F => gR rfl rfl (arm_move (.inl rfl) (F.f 13 rfl)).b, ?_⟩
        refine ⟨fun _ _ F => gG F rfl rfl rfl rfl (arm_loadF rfl (F.k 5 (Value.pointer (some ⟨g5, 0, none⟩))) (V5.mono F.below)).b, ?_⟩
        refine ⟨fun _ _ F => gG F rfl rfl rfl rfl (arm_loadF rfl (F.k 2 (Value.pointer (some ⟨w.heap.size, 0, none⟩))) (V0.mono F.below)).b, ?_⟩
        refine ⟨fun _ _ F => gG F rfl rfl rfl rfl (arm_C2 rfl (enters Try.func16 rfl rfl) (F.f 15 rfl) (F.f 16 rfl) (fun va vb w h1 h2 => q_Same va vb x x w h1 h2 (hx.mono (by decide)) (hx.mono (by decide))) (fun _ _ h => by have h' : RetV _ _ _ _ := h; rw [Fq.same_refl x] at h'; exact ofV h')).b, ?_⟩
        refine ⟨fun _ _ F => gR rfl rfl (arm_pick rfl (F.f 14 rfl) (fun _ => (F.f 17 rfl)) (fun h => by cases h)).b, ?_⟩
        refine ⟨fun _ _ F => gR rfl rfl (arm_move (.inl rfl) (F.f 18 rfl)).b, ?_⟩
        refine ⟨fun _ _ F => gG F rfl rfl rfl rfl (arm_loadF rfl (F.k 6 (Value.pointer (some ⟨g6, 0, none⟩))) (V6.mono F.below)).b, ?_⟩
        refine ⟨fun _ _ F => gG F rfl rfl rfl rfl (arm_loadF rfl (F.k 3 (Value.pointer (some ⟨w.heap.size + 1, 0, none⟩))) (V1.mono F.below)).b, ?_⟩
        refine ⟨fun _ _ F => gG F rfl rfl rfl rfl (arm_C2 rfl (enters Try.func16 rfl rfl) (F.f 20 rfl) (F.f 21 rfl) (fun va vb w h1 h2 => q_Same va vb y y w h1 h2 (hy.mono (by decide)) (hy.mono (by decide))) (fun _ _ h => by have h' : RetV _ _ _ _ := h; rw [Fq.same_refl y] at h'; exact ofV h')).b, ?_⟩
        refine ⟨fun _ _ F => gR rfl rfl (arm_pick rfl (F.f 19 rfl) (fun _ => (F.f 22 rfl)) (fun h => by cases h)).b, ?_⟩
        refine ⟨fun _ _ F => gR rfl rfl (arm_move (.inl rfl) (F.f 23 rfl)).b, ?_⟩
        refine ⟨fun _ _ F => gG F rfl rfl rfl rfl (arm_C0 rfl (enters Try.func11 rfl rfl)  (fun w => c_awake2 w) (fun _ _ h => ofV h)).b, ?_⟩
        refine ⟨fun _ _ F => gR rfl rfl (arm_pick rfl (F.f 24 rfl) (fun _ => (F.f 25 rfl)) (fun h => by cases h)).b, ?_⟩
        refine ⟨fun _ _ F => gR rfl rfl (arm_move (.inr rfl) (F.f 26 rfl)).b, ?_⟩
        exact trivial
      intro E' hE gp wp bp G Gs
      obtain rfl : E' = [] := by simpa [subs] using hE
      have e_27 : gp 27 = Value.bool true := G 27 4 _ (by simp) rfl
      clear G Gs hE
      simp only [lCoT6]
      simp only [qA, setD, qZ, qS, e_27]
      refine wpAny_done (by kernel_rfl) ?_ _
      go_wp2_with fail
      go_meet
      case rel => exact ⟨rfl, (V0.mono bp), (V1.mono bp), (V5.mono bp), (V6.mono bp), (V7.mono bp), (V9.mono bp), (hb1.trans (bp.mono hb1.size))⟩
    case rest =>
    clear V0 V1 V5 V6 V7 V9 hb1
    obtain ⟨rfl, V0, V1, V5, V6, V7, V9, hb1⟩ := hcut
    go_wp2
    go_ret
    exact ⟨rfl, hb1⟩
  · have P0 := Lib.hid h0
    clear h0
    obtain ⟨a0, c0, b0, d0, rfl, m0, k0⟩ := boxF ix
    obtain ⟨a1, c1, b1, d1, rfl, m1, k1⟩ := boxF (iy.mono m0)
    rw [World.size_alloc ] at k1
    have n1 := m0.trans (m1.mono m0.size)
    clear ix iy
    go_enter Try.func10, Try.ntmps10
    go_upto_region 0 with (fail)
    go_cut [2, 3, 4] (fun s_2 s_3 s_4 wx => s_2 = Value.pointer (some ⟨w.heap.size, 0, none⟩) ∧ s_3 = Value.pointer (some ⟨w.heap.size + 1, 0, none⟩) ∧ s_4 = Value.bool false ∧ VarQ wx w.heap.size x ∧ VarQ wx (w.heap.size + 1) y ∧ Below w.heap.size w wx)
    case first =>
      go_wp2_with fail
      go_meet
      case rel => exact ⟨rfl, rfl, rfl, (k0.mono m1), k1, n1⟩
    case rest =>
    clear m0 k0 m1 k1 n1
    obtain ⟨rfl, rfl, rfl, V0, V1, hb1⟩ := hcut
    go_upto_region 1 with (fail)
    go_cut [18] (fun s_18 wx => s_18 = Value.bool false ∧ VarQ wx w.heap.size x ∧ VarQ wx (w.heap.size + 1) y ∧ Below w.heap.size w wx)
    case first =>
      refine tF Try.f10 1 (lCoT7 x y) [] 8 0 ?_ ?_
      · refine ⟨fun _ _ F => gR rfl rfl (arm_loadF rfl (F.k 2 (Value.pointer (some ⟨w.heap.size, 0, none⟩))) (V0.mono F.below)).b, ?_⟩
        refine ⟨fun _ _ F => gR rfl rfl (arm_C1 rfl (enters Try.func18 rfl rfl) (F.f 0 rfl) (fun va w h1 => q_fitQ va x w h1 hx ex) (fun _ _ h => ofV h)).b, ?_⟩
        refine ⟨fun _ _ F => gR rfl rfl (arm_not rfl (F.f 1 rfl)).b, ?_⟩
        refine ⟨fun _ _ F => gR rfl rfl (arm_move (.inl rfl) (F.f 2 rfl)).b, ?_⟩
        refine ⟨fun _ _ F => gG F rfl rfl rfl rfl (arm_loadF rfl (F.k 3 (Value.pointer (some ⟨w.heap.size + 1, 0, none⟩))) (V1.mono F.below)).b, ?_⟩
        refine ⟨fun _ _ F => gG F rfl rfl rfl rfl (arm_C1 rfl (enters Try.func18 rfl rfl) (F.f 4 rfl) (fun va w h1 => q_fitQ va y w h1 hy ey) (fun _ _ h => ofV h)).b, ?_⟩
        refine ⟨fun _ _ F => gG F rfl rfl rfl rfl (arm_not rfl (F.f 5 rfl)).b, ?_⟩
        refine ⟨fun _ _ F => gR rfl rfl (arm_pick rfl (F.f 3 rfl) (fun h => by cases h) (fun _ => (F.f 6 rfl))).b, ?_⟩
        exact trivial
      intro E' hE gp wp bp G Gs
      obtain rfl : E' = [] := by simpa [subs] using hE
      have e_7 : gp 7 = Value.bool false := G 7 18 _ (by simp) rfl
      clear G Gs hE
      simp only [lCoT7]
      simp only [qA, setD, qZ, qS, e_7]
      refine wpAny_done (by kernel_rfl) ?_ _
      go_wp2_with fail
      go_meet
      case rel => exact ⟨rfl, (V0.mono bp), (V1.mono bp), (hb1.trans (bp.mono hb1.size))⟩
    case rest =>
    clear V0 V1 hb1
    obtain ⟨rfl, V0, V1, hb1⟩ := hcut
    go_upto_region 3 with (fail)
    go_cut [5, 6] (fun s_5 s_6 wx => ∃ g5 g6, s_5 = Value.pointer (some ⟨g5, 0, none⟩) ∧ s_6 = Value.pointer (some ⟨g6, 0, none⟩) ∧ w.heap.size + 2 ≤ g5 ∧ w.heap.size + 2 ≤ g6 ∧ g5 ≠ g6 ∧ VarQ wx g5 x ∧ VarQ wx g6 y ∧ VarQ wx w.heap.size x ∧ VarQ wx (w.heap.size + 1) y ∧ Below w.heap.size w wx)
    case first =>
      obtain ⟨base, hbase0⟩ : ∃ b : Nat, Hid (b = wc.heap.size) := ⟨_, Lib.hid rfl⟩
      have hbase : base ≤ wc.heap.size := by rw [hbase0.out]; exact Nat.le_refl _
      have hbw : w.heap.size + 2 ≤ base := by have := hb1.size; have h1 := V1.lt; rw [hbase0.out]; omega
      have l_V0 : w.heap.size < base := by rw [hbase0.out]; exact V0.lt
      have l_V1 : w.heap.size + 1 < base := by rw [hbase0.out]; exact V1.lt
      refine wp_tabG Try.f10 3 (lCoT8 x y base) [] (fun i => i == 4 || i == 5) 5 2 (by kernel_rfl) (by kernel_rfl) (by kernel_rfl) (by kernel_rfl) (by kernel_rfl) ⟨fun h => (by cases h), ⟨fun h => (by cases h), ⟨fun h => (by cases h), ⟨fun h => (by cases h), ⟨fun _ w v h => Sp.varF_lt h, ⟨fun _ w v h => Sp.varF_lt h, trivial⟩⟩⟩⟩⟩⟩ ?_ ?_
      · refine ⟨fun _ _ F => gR rfl rfl (arm_loadF rfl (F.k 2 (Value.pointer (some ⟨w.heap.size, 0, none⟩))) (V0.mono F.below)).b, ?_⟩
        refine ⟨fun _ _ F => gR rfl rfl (arm_C1 rfl (enters Try.func41 rfl rfl) (F.f 0 rfl) (fun va w h1 => q_copied va x w h1 (hx.mono (by decide))) (fun _ _ h => ofQ h)).b, ?_⟩
        refine ⟨fun _ _ F => gR rfl rfl (arm_loadF rfl (F.k 3 (Value.pointer (some ⟨w.heap.size + 1, 0, none⟩))) (V1.mono F.below)).b, ?_⟩
        refine ⟨fun _ _ F => gR rfl rfl (arm_C1 rfl (enters Try.func41 rfl rfl) (F.f 2 rfl) (fun va w h1 => q_copied va y w h1 (hy.mono (by decide))) (fun _ _ h => ofQ h)).b, ?_⟩
        refine ⟨fun _ _ F => gR rfl rfl (arm_allocF rfl (Nat.le_trans hbase F.below.size)), ?_⟩
        refine ⟨fun _ _ F => gR rfl rfl (arm_allocF rfl (Nat.le_trans hbase F.below.size)), ?_⟩
        exact trivial
      intro E' hE gp wp bp G Gs
      obtain rfl : E' = [] := by simpa [subs] using hE
      obtain ⟨g5, e_4, lg_4, hv_4⟩ := G 4 5 _ (by simp) rfl
      obtain ⟨g6, e_5, lg_5, hv_5⟩ := G 5 6 _ (by simp) rfl
      have n_1 : (Sp.fq x).p wp (gp 1) := G 1 21 _ (by simp) rfl
      have n_3 : (Sp.fq y).p wp (gp 3) := G 3 23 _ (by simp) rfl
      have ne_4_5 : g5 ≠ g6 := by have h := Gs 4 5 rfl rfl (by simp) (by simp) rfl rfl (by decide); rw [e_4, e_5] at h; exact h
      clear G Gs hE
      simp only [lCoT8]
      simp only [qA, setD, qZ, qS, e_4, e_5]
      have T0 := hv_4
      refine wpAny_storeFr (j := 6) (by kernel_rfl) rfl rfl rfl rfl rfl n_1 T0.any ?_
      intro w0 u0 v0
      have O0 := T0.own
      have T1 := (hv_5.upd O0 u0 (by omega))
      refine wpAny_storeFr (j := 7) (by kernel_rfl) rfl rfl rfl rfl rfl (n_3.upd O0 u0) T1.any ?_
      intro w1 u1 v1
      have O1 := T1.own
      refine wpAny_done (by kernel_rfl) ?_ _
      go_wp2_with fail
      go_meet
      case rel => exact ⟨g5, g6, rfl, rfl, (by omega), (by omega), (by omega), (v0.upd O1 u1 (by omega)), v1, (((V0.mono bp).upd O0 u0 (by omega)).upd O1 u1 (by omega)), (((V1.mono bp).upd O0 u0 (by omega)).upd O1 u1 (by omega)), (Upd.below (Upd.below (hb1.trans (bp.mono hb1.size)) u0 (by omega)) u1 (by omega))⟩
    case rest =>
    clear V0 V1 hb1
    obtain ⟨g5, g6, rfl, rfl, lg5, lg6, d3_0, V5, V6, V0, V1, hb1⟩ := hcut
    go_upto_region 4 with (fail)
    go_cut [7, 8] (fun s_7 s_8 wx => ∃ g7, s_7 = Value.pointer (some ⟨g7, 0, none⟩) ∧ s_8 = Value.int IntKind.i64 0 ∧ w.heap.size + 2 ≤ g7 ∧ g5 < g7 ∧ g6 < g7 ∧ VarQ wx g7 (x.div y) ∧ VarQ wx w.heap.size x ∧ VarQ wx (w.heap.size + 1) y ∧ VarQ wx g5 x ∧ VarQ wx g6 y ∧ Below w.heap.size w wx)
    case first =>
      obtain ⟨base, hbase0⟩ : ∃ b : Nat, Hid (b = wc.heap.size) := ⟨_, Lib.hid rfl⟩
      have hbase : base ≤ wc.heap.size := by rw [hbase0.out]; exact Nat.le_refl _
      have hbw : w.heap.size + 2 ≤ base := by have := hb1.size; have h1 := V1.lt; rw [hbase0.out]; omega
      have l_V0 : w.heap.size < base := by rw [hbase0.out]; exact V0.lt
      have l_V1 : w.heap.size + 1 < base := by rw [hbase0.out]; exact V1.lt
      have l_V5 : g5 < base := by rw [hbase0.out]; exact V5.lt
      have l_V6 : g6 < base := by rw [hbase0.out]; exact V6.lt
      refine wp_tabGF Try.f10 4 (lCoT9 x y base) [5] (fun i => i == 6) 6 2 (by kernel_rfl) (by kernel_rfl) (by kernel_rfl) (by kernel_rfl) (by kernel_rfl) ⟨fun h => (by cases h), ⟨fun h => (by cases h), ⟨fun h => (by cases h), ⟨fun h => (by cases h), ⟨fun h => (by cases h), ⟨fun h => (by cases h), ⟨fun _ w v h => Sp.varF_lt h, trivial⟩⟩⟩⟩⟩⟩⟩ ?_ ?_
      · refine ⟨fun _ _ F => gR rfl rfl (arm_loadF rfl (F.k 5 (Value.pointer (some ⟨g5, 0, none⟩))) (V5.mono F.below)).b, ?_⟩
        refine ⟨fun _ _ F => gR rfl rfl (arm_loadF rfl (F.k 6 (Value.pointer (some ⟨g6, 0, none⟩))) (V6.mono F.below)).b, ?_⟩
        refine ⟨fun _ _ F => gR rfl rfl (arm_C2 rfl (enters Try.func40 rfl rfl) (F.f 0 rfl) (F.f 1 rfl) (fun va vb w h1 h2 => q_fDiv va vb x y w h1 h2 (hx.mono (by decide)) (hy.mono (by decide)) P0.out) (fun _ _ h => ofQE h)).b, ?_⟩
        refine ⟨fun _ _ F => gR rfl rfl (arm_move (.inl rfl) (F.f 2 rfl)).b, ?_⟩
        refine ⟨fun _ _ F => gR rfl rfl (arm_pair0 rfl (F.f 3 rfl)).b, ?_⟩
        refine ⟨fun _ _ F => gR rfl rfl (arm_pair1 rfl (F.f 3 rfl)).b, ?_⟩
        refine ⟨fun _ _ F => gR rfl rfl (arm_allocF rfl (Nat.le_trans hbase F.below.size)), ?_⟩
        exact trivial
      intro E' hE gp wp bp G Gs
      simp only [subs, List.map_cons, List.map_nil, List.nil_append, List.cons_append, List.mem_cons, List.not_mem_nil, or_false, List.append_nil] at hE
      rcases hE with rfl | rfl
      · obtain ⟨g7, e_6, lg_6, hv_6⟩ := G 6 7 _ (by simp) rfl
        have n_4 : (Sp.fq (x.div y)).p wp (gp 4) := G 4 28 _ (by simp) rfl
        have e_5 : gp 5 = Value.int IntKind.i64 0 := G 5 29 _ (by simp) rfl
        clear G Gs
        simp only [lCoT9]
        simp only [qA, setD, qZ, qS, e_6, e_5]
        have T0 := hv_6
        refine wpAny_storeFr (j := 7) (by kernel_rfl) rfl rfl rfl rfl rfl n_4 T0.any ?_
        intro w0 u0 v0
        have O0 := T0.own
        refine wpAny_takeD (i := 8) (d := some 8) (v := Value.int IntKind.i64 0) rfl rfl (by kernel_rfl) (by kernel_rfl) (by kernel_rfl) (fun _ _ _ h => h) (Or.inl ⟨by rfl, fun w => by rfl⟩) ?_
        try simp only [qP, qZ, qS]
        refine wpAny_done (by kernel_rfl) ?_ _
        go_wp2_with fail
        go_meet
        case rel => exact ⟨g7, rfl, rfl, (by omega), (by omega), (by omega), v0, ((V0.mono bp).upd O0 u0 (by omega)), ((V1.mono bp).upd O0 u0 (by omega)), ((V5.mono bp).upd O0 u0 (by omega)), ((V6.mono bp).upd O0 u0 (by omega)), (Upd.below (hb1.trans (bp.mono hb1.size)) u0 (by omega))⟩
      · obtain ⟨g7, e_6, lg_6, hv_6⟩ := G 6 7 _ (by simp) rfl
        obtain ⟨x_3_0, x_3_1, e_3, n_3_0, rfl⟩ := G 3 24 _ (by simp) rfl
        have n_4 : (Sp.fq (x.div y)).p wp (gp 4) := G 4 28 _ (by simp) rfl
        clear G Gs
        simp only [lCoT9]
        simp only [qA, setD, qZ, qS, e_6, e_3]
        refine wpAny_takeD (i := 5) (d := some 29) (v := Value.int IntKind.i64 0) rfl rfl (by kernel_rfl) (by kernel_rfl) (by kernel_rfl) (fun _ _ _ h => h) (Or.inl ⟨by rfl, fun w => by rfl⟩) ?_
        try simp only [qP, qZ, qS]
        have T0 := hv_6
        refine wpAny_storeFr (j := 7) (by kernel_rfl) rfl rfl rfl rfl rfl n_4 T0.any ?_
        intro w0 u0 v0
        have O0 := T0.own
        refine wpAny_takeD (i := 8) (d := some 8) (v := Value.int IntKind.i64 0) rfl rfl (by kernel_rfl) (by kernel_rfl) (by kernel_rfl) (fun _ _ _ h => h) (Or.inl ⟨by rfl, fun w => by rfl⟩) ?_
        try simp only [qP, qZ, qS]
        refine wpAny_done (by kernel_rfl) ?_ _
        go_wp2_with fail
        go_meet
        case rel => exact ⟨g7, rfl, rfl, (by omega), (by omega), (by omega), v0, ((V0.mono bp).upd O0 u0 (by omega)), ((V1.mono bp).upd O0 u0 (by omega)), ((V5.mono bp).upd O0 u0 (by omega)), ((V6.mono bp).upd O0 u0 (by omega)), (Upd.below (hb1.trans (bp.mono hb1.size)) u0 (by omega))⟩
    case rest =>
    clear V0 V1 V5 V6 hb1
    obtain ⟨g7, rfl, rfl, lg7, d4_0, d4_1, V7, V0, V1, V5, V6, hb1⟩ := hcut
    go_upto_region 5 with (fail)
    go_cut [9, 10] (fun s_9 s_10 wx => ∃ g9, s_9 = Value.pointer (some ⟨g9, 0, none⟩) ∧ s_10 = Value.int IntKind.i64 0 ∧ w.heap.size + 2 ≤ g9 ∧ g5 < g9 ∧ g6 < g9 ∧ g7 < g9 ∧ VarQ wx g9 (x.div y) ∧ VarQ wx w.heap.size x ∧ VarQ wx (w.heap.size + 1) y ∧ VarQ wx g5 x ∧ VarQ wx g6 y ∧ VarQ wx g7 (x.div y) ∧ Below w.heap.size w wx)
    case first =>
      obtain ⟨base, hbase0⟩ : ∃ b : Nat, Hid (b = wc.heap.size) := ⟨_, Lib.hid rfl⟩
      have hbase : base ≤ wc.heap.size := by rw [hbase0.out]; exact Nat.le_refl _
      have hbw : w.heap.size + 2 ≤ base := by have := hb1.size; have h1 := V1.lt; rw [hbase0.out]; omega
      have l_V0 : w.heap.size < base := by rw [hbase0.out]; exact V0.lt
      have l_V1 : w.heap.size + 1 < base := by rw [hbase0.out]; exact V1.lt
      have l_V5 : g5 < base := by rw [hbase0.out]; exact V5.lt
      have l_V6 : g6 < base := by rw [hbase0.out]; exact V6.lt
      have l_V7 : g7 < base := by rw [hbase0.out]; exact V7.lt
      refine wp_tabGF Try.f10 5 (lCoT10 x y base) [5] (fun i => i == 6) 6 2 (by kernel_rfl) (by kernel_rfl) (by kernel_rfl) (by kernel_rfl) (by kernel_rfl) ⟨fun h => (by cases h), ⟨fun h => (by cases h), ⟨fun h => (by cases h), ⟨fun h => (by cases h), ⟨fun h => (by cases h), ⟨fun h => (by cases h), ⟨fun _ w v h => Sp.varF_lt h, trivial⟩⟩⟩⟩⟩⟩⟩ ?_ ?_
      · refine ⟨fun _ _ F => gR rfl rfl (arm_loadF rfl (F.k 2 (Value.pointer (some ⟨w.heap.size, 0, none⟩))) (V0.mono F.below)).b, ?_⟩
        refine ⟨fun _ _ F => gR rfl rfl (arm_loadF rfl (F.k 3 (Value.pointer (some ⟨w.heap.size + 1, 0, none⟩))) (V1.mono F.below)).b, ?_⟩
        refine ⟨fun _ _ F => gR rfl rfl (arm_C2 rfl (enters Try.func42 rfl rfl) (F.f 0 rfl) (F.f 1 rfl) (fun va vb w h1 h2 => q_rDiv va vb x y w h1 h2 (hx.mono (by decide)) (hy.mono (by decide)) P0.out) (fun _ _ h => ofQE h)).b, ?_⟩
        refine ⟨fun _ _ F => gR rfl rfl (arm_move (.inl rfl) (F.f 2 rfl)).b, ?_⟩
        refine ⟨fun _ _ F => gR rfl rfl (arm_pair0 rfl (F.f 3 rfl)).b, ?_⟩
        refine ⟨fun _ _ F => gR rfl rfl (arm_pair1 rfl (F.f 3 rfl)).b, ?_⟩
        refine ⟨fun _ _ F => gR rfl rfl (arm_allocF rfl (Nat.le_trans hbase F.below.size)), ?_⟩
        exact trivial
      intro E' hE gp wp bp G Gs
      simp only [subs, List.map_cons, List.map_nil, List.nil_append, List.cons_append, List.mem_cons, List.not_mem_nil, or_false, List.append_nil] at hE
      rcases hE with rfl | rfl
      · obtain ⟨g9, e_6, lg_6, hv_6⟩ := G 6 9 _ (by simp) rfl
        have n_4 : (Sp.fq (x.div y)).p wp (gp 4) := G 4 34 _ (by simp) rfl
        have e_5 : gp 5 = Value.int IntKind.i64 0 := G 5 35 _ (by simp) rfl
        clear G Gs
        simp only [lCoT10]
        simp only [qA, setD, qZ, qS, e_6, e_5]
        have T0 := hv_6
        refine wpAny_storeFr (j := 7) (by kernel_rfl) rfl rfl rfl rfl rfl n_4 T0.any ?_
        intro w0 u0 v0
        have O0 := T0.own
        refine wpAny_takeD (i := 8) (d := some 10) (v := Value.int IntKind.i64 0) rfl rfl (by kernel_rfl) (by kernel_rfl) (by kernel_rfl) (fun _ _ _ h => h) (Or.inl ⟨by rfl, fun w => by rfl⟩) ?_
        try simp only [qP, qZ, qS]
        refine wpAny_done (by kernel_rfl) ?_ _
        go_wp2_with fail
        go_meet
        case rel => exact ⟨g9, rfl, rfl, (by omega), (by omega), (by omega), (by omega), v0, ((V0.mono bp).upd O0 u0 (by omega)), ((V1.mono bp).upd O0 u0 (by omega)), ((V5.mono bp).upd O0 u0 (by omega)), ((V6.mono bp).upd O0 u0 (by omega)), ((V7.mono bp).upd O0 u0 (by omega)), (Upd.below (hb1.trans (bp.mono hb1.size)) u0 (by omega))⟩
      · obtain ⟨g9, e_6, lg_6, hv_6⟩ := G 6 9 _ (by simp) rfl
        obtain ⟨x_3_0, x_3_1, e_3, n_3_0, rfl⟩ := G 3 30 _ (by simp) rfl
        have n_4 : (Sp.fq (x.div y)).p wp (gp 4) := G 4 34 _ (by simp) rfl
        clear G Gs
        simp only [lCoT10]
        simp only [qA, setD, qZ, qS, e_6, e_3]
        refine wpAny_takeD (i := 5) (d := some 35) (v := Value.int IntKind.i64 0) rfl rfl (by kernel_rfl) (by kernel_rfl) (by kernel_rfl) (fun _ _ _ h => h) (Or.inl ⟨by rfl, fun w => by rfl⟩) ?_
        try simp only [qP, qZ, qS]
        have T0 := hv_6
        refine wpAny_storeFr (j := 7) (by kernel_rfl) rfl rfl rfl rfl rfl n_4 T0.any ?_
        intro w0 u0 v0
        have O0 := T0.own
        refine wpAny_takeD (i := 8) (d := some 10) (v := Value.int IntKind.i64 0) rfl rfl (by kernel_rfl) (by kernel_rfl) (by kernel_rfl) (fun _ _ _ h => h) (Or.inl ⟨by rfl, fun w => by rfl⟩) ?_
        try simp only [qP, qZ, qS]
        refine wpAny_done (by kernel_rfl) ?_ _
        go_wp2_with fail
        go_meet
        case rel => exact ⟨g9, rfl, rfl, (by omega), (by omega), (by omega), (by omega), v0, ((V0.mono bp).upd O0 u0 (by omega)), ((V1.mono bp).upd O0 u0 (by omega)), ((V5.mono bp).upd O0 u0 (by omega)), ((V6.mono bp).upd O0 u0 (by omega)), ((V7.mono bp).upd O0 u0 (by omega)), (Upd.below (hb1.trans (bp.mono hb1.size)) u0 (by omega))⟩
    case rest =>
    clear V0 V1 V5 V6 V7 hb1
    obtain ⟨g9, rfl, rfl, lg9, d5_0, d5_1, d5_2, V9, V0, V1, V5, V6, V7, hb1⟩ := hcut
    go_upto_region 6 with (fail)
    go_cut [44] (fun s_44 wx => s_44 = Value.bool false ∧ VarQ wx w.heap.size x ∧ VarQ wx (w.heap.size + 1) y ∧ VarQ wx g5 x ∧ VarQ wx g6 y ∧ VarQ wx g7 (x.div y) ∧ VarQ wx g9 (x.div y) ∧ Below w.heap.size w wx)
    case first =>
      refine tF Try.f10 6 (lCoT11 x y) [] 7 0 ?_ ?_
      · refine ⟨fun _ _ F => gR rfl rfl (arm_move (.inl rfl) (F.k 8 (Value.int IntKind.i64 0))).b, ?_⟩
        refine ⟨fun _ _ F => gR rfl rfl (arm_move (.inl rfl) (F.k 10 (Value.int IntKind.i64 0))).b, ?_⟩
        refine ⟨fun _ _ F => gR rfl rfl (arm_bin rfl (F.f 0 rfl) (F.f 1 rfl) (fun _ => rfl) (fun _ => rfl)).b, ?_⟩
        refine ⟨fun _ _ F => gR rfl rfl (arm_move (.inl rfl) (F.f 2 rfl)).b, ?_⟩
        refine ⟨fun _ _ F => gG F rfl rfl rfl rfl (arm_loadF rfl (F.k 7 (Value.pointer (some ⟨g7, 0, none⟩))) (V7.mono F.below)).b, ?_⟩
        refine ⟨fun _ _ F => gG F rfl rfl rfl rfl (arm_loadF rfl (F.k 9 (Value.pointer (some ⟨g9, 0, none⟩))) (V9.mono F.below)).b, ?_⟩
        refine ⟨fun _ _ F => gG F rfl rfl rfl rfl (arm_C2 rfl (enters Try.func16 rfl rfl) (F.f 4 rfl) (F.f 5 rfl) (fun va vb w h1 h2 => q_Same va vb (x.div y) (x.div y) w h1 h2 ((hx.div hy P0.out).mono (by decide)) ((hx.div hy P0.out).mono (by decide))) (fun _ _ h => by have h' : RetV _ _ _ _ := h; rw [Fq.same_refl (x.div y)] at h'; exact ofV h')).b, ?_⟩
        refine ⟨fun _ _ F => gG F rfl rfl rfl rfl (arm_not rfl (F.f 6 rfl)).b, ?_⟩
        refine ⟨fun _ _ F => gR rfl rfl (arm_pick rfl (F.f 3 rfl) (fun h => by cases h) (fun _ => (F.f 7 rfl))).b, ?_⟩
        exact trivial
      intro E' hE gp wp bp G Gs
      obtain rfl : E' = [] := by simpa [subs] using hE
      have e_8 : gp 8 = Value.bool false := G 8 44 _ (by simp) rfl
      clear G Gs hE
      simp only [lCoT11]
      simp only [qA, setD, qZ, qS, e_8]
      refine wpAny_done (by kernel_rfl) ?_ _
      go_wp2_with fail
      go_meet
      case rel => exact ⟨rfl, (V0.mono bp), (V1.mono bp), (V5.mono bp), (V6.mono bp), (V7.mono bp), (V9.mono bp), (hb1.trans (bp.mono hb1.size))⟩
    case rest =>
    clear V0 V1 V5 V6 V7 V9 hb1
    obtain ⟨rfl, V0, V1, V5, V6, V7, V9, hb1⟩ := hcut
    go_upto_region 8 with (fail)
    go_cut [80] (fun s_80 wx => s_80 = Value.bool false ∧ VarQ wx w.heap.size x ∧ VarQ wx (w.heap.size + 1) y ∧ VarQ wx g5 x ∧ VarQ wx g6 y ∧ VarQ wx g7 (x.div y) ∧ VarQ wx g9 (x.div y) ∧ Below w.heap.size w wx)
    case first =>
      refine tG Try.f10 8 (lCoT12 x y) [] 26 0 ?_ ?_
      · refine ⟨fun _ _ F => gR rfl rfl (arm_loadF rfl (F.k 5 (Value.pointer (some ⟨g5, 0, none⟩))) (V5.mono F.below)).b, ?_⟩
        refine ⟨fun _ _ F => gR rfl rfl (arm_loadF rfl (F.k 6 (Value.pointer (some ⟨g6, 0, none⟩))) (V6.mono F.below)).b, ?_⟩
        refine ⟨fun _ _ F => gR rfl rfl (arm_C2 rfl (enters Try.func37 rfl rfl) (F.f 0 rfl) (F.f 1 rfl) (fun va vb w h1 h2 => q_fAdd va vb x y w h1 h2 (hx.mono (by decide)) (hy.mono (by decide))) (fun _ _ h => ofQ h)).b, ?_⟩
        refine ⟨fun _ _ F => gR rfl rfl (arm_loadF rfl (F.k 2 (Value.pointer (some ⟨w.heap.size, 0, none⟩))) (V0.mono F.below)).b, ?_⟩
        refine ⟨fun _ _ F => gR rfl rfl (arm_loadF rfl (F.k 3 (Value.pointer (some ⟨w.heap.size + 1, 0, none⟩))) (V1.mono F.below)).b, ?_⟩
        refine ⟨fun _ _ F => gR rfl rfl (arm_C2 rfl (enters Try.func43 rfl rfl) (F.f 3 rfl) (F.f 4 rfl) (fun va vb w h1 h2 => q_rAdd va vb x y w h1 h2 (hx.mono (by decide)) (hy.mono (by decide))) (fun _ _ h => ofQ h)).b, ?_⟩
        refine ⟨fun _ _ F => gR rfl rfl (arm_C2 rfl (enters Try.func16 rfl rfl) (F.f 2 rfl) (F.f 5 rfl) (fun va vb w h1 h2 => q_Same va vb (x.add y) (x.add y) w h1 h2 ((hx.add hy).mono (by decide)) ((hx.add hy).mono (by decide))) (fun _ _ h => by have h' : RetV _ _ _ _ := h; rw [Fq.same_refl (x.add y)] at h'; exact ofV h')).b, ?_⟩
        refine ⟨fun _ _ F => gR rfl rfl (arm_not rfl (F.f 6 rfl)).b, ?_⟩
        refine ⟨fun _ _ F => gR rfl rfl (arm_move (.inl rfl) (F.f 7 rfl)).b, ?_⟩
        refine ⟨fun _ _ F => gG F rfl rfl rfl rfl (arm_loadF rfl (F.k 5 (Value.pointer (some ⟨g5, 0, none⟩))) (V5.mono F.below)).b, ?_⟩
        refine ⟨fun _ _ F => gG F rfl rfl rfl rfl (arm_loadF rfl (F.k 6 (Value.pointer (some ⟨g6, 0, none⟩))) (V6.mono F.below)).b, ?_⟩
        refine ⟨fun _ _ F => gG F rfl rfl rfl rfl (arm_C2 rfl (enters Try.func34 rfl rfl) (F.f 9 rfl) (F.f 10 rfl) (fun va vb w h1 h2 => q_fSub va vb x y w h1 h2 (hx.mono (by decide)) (hy.mono (by decide))) (fun _ _ h => ofQ h)).b, ?_⟩
        refine ⟨fun _ _ F => gG F rfl rfl rfl rfl (arm_loadF rfl (F.k 2 (Value.pointer (some ⟨w.heap.size, 0, none⟩))) (V0.mono F.below)).b, ?_⟩
        refine ⟨fun _ _ F => gG F rfl rfl rfl rfl (arm_loadF rfl (F.k 3 (Value.pointer (some ⟨w.heap.size + 1, 0, none⟩))) (V1.mono F.below)).b, ?_⟩
        refine ⟨fun _ _ F => gG F rfl rfl rfl rfl (arm_C2 rfl (enters Try.func29 rfl rfl) (F.f 12 rfl) (F.f 13 rfl) (fun va vb w h1 h2 => q_rSub va vb x y w h1 h2 (hx.mono (by decide)) (hy.mono (by decide))) (fun _ _ h => ofQ h)).b, ?_⟩
        refine ⟨fun _ _ F => gG F rfl rfl rfl rfl (arm_C2 rfl (enters Try.func16 rfl rfl) (F.f 11 rfl) (F.f 14 rfl) (fun va vb w h1 h2 => q_Same va vb (x.sub y) (x.sub y) w h1 h2 ((hx.sub hy).mono (by decide)) ((hx.sub hy).mono (by decide))) (fun _ _ h => by have h' : RetV _ _ _ _ := h; rw [Fq.same_refl (x.sub y)] at h'; exact ofV h')).b, ?_⟩
        refine ⟨fun _ _ F => gG F rfl rfl rfl rfl (arm_not rfl (F.f 15 rfl)).b, ?_⟩
        refine ⟨fun _ _ F => gR rfl rfl (arm_pick rfl (F.f 8 rfl) (fun h => by cases h) (fun _ => (F.f 16 rfl))).b, ?_⟩
        refine ⟨fun _ _ F => gR rfl rfl (arm_move (.inl rfl) (F.f 17 rfl)).b, ?_⟩
        refine ⟨fun _ _ F => gG F rfl rfl rfl rfl (arm_loadF rfl (F.k 5 (Value.pointer (some ⟨g5, 0, none⟩))) (V5.mono F.below)).b, ?_⟩
        refine ⟨fun _ _ F => gG F rfl rfl rfl rfl (arm_loadF rfl (F.k 6 (Value.pointer (some ⟨g6, 0, none⟩))) (V6.mono F.below)).b, ?_⟩
        refine ⟨fun _ _ F => gG F rfl rfl rfl rfl (arm_C2 rfl (enters Try.func38 rfl rfl) (F.f 19 rfl) (F.f 20 rfl) (fun va vb w h1 h2 => q_fMul va vb x y w h1 h2 (hx.mono (by decide)) (hy.mono (by decide))) (fun _ _ h => ofQ h)).b, ?_⟩
        refine ⟨fun _ _ F => gG F rfl rfl rfl rfl (arm_loadF rfl (F.k 2 (Value.pointer (some ⟨w.heap.size, 0, none⟩))) (V0.mono F.below)).b, ?_⟩
        refine ⟨fun _ _ F => gG F rfl rfl rfl rfl (arm_loadF rfl (F.k 3 (Value.pointer (some ⟨w.heap.size + 1, 0, none⟩))) (V1.mono F.below)).b, ?_⟩
        refine ⟨fun _ _ F => gG F rfl rfl rfl rfl (arm_C2 rfl (enters Try.func44 rfl rfl) (F.f 22 rfl) (F.f 23 rfl) (fun va vb w h1 h2 => q_rMul va vb x y w h1 h2 (hx.mono (by decide)) (hy.mono (by decide))) (fun _ _ h => ofQ h)).b, ?_⟩
        refine ⟨fun _ _ F => gG F rfl rfl rfl rfl (arm_C2 rfl (enters Try.func16 rfl rfl) (F.f 21 rfl) (F.f 24 rfl) (fun va vb w h1 h2 => q_Same va vb (x.mul y) (x.mul y) w h1 h2 ((hx.mul hy).mono (by decide)) ((hx.mul hy).mono (by decide))) (fun _ _ h => by have h' : RetV _ _ _ _ := h; rw [Fq.same_refl (x.mul y)] at h'; exact ofV h')).b, ?_⟩
        refine ⟨fun _ _ F => gG F rfl rfl rfl rfl (arm_not rfl (F.f 25 rfl)).b, ?_⟩
        refine ⟨fun _ _ F => gR rfl rfl (arm_pick rfl (F.f 18 rfl) (fun h => by cases h) (fun _ => (F.f 26 rfl))).b, ?_⟩
        refine ⟨fun _ _ F => gR rfl rfl (arm_move (.inl rfl) (F.f 27 rfl)).b, ?_⟩
        refine ⟨fun _ _ F => gG F rfl rfl rfl rfl (arm_loadF rfl (F.k 5 (Value.pointer (some ⟨g5, 0, none⟩))) (V5.mono F.below)).b, ?_⟩
        refine ⟨fun _ _ F => gG F rfl rfl rfl rfl (arm_C1 rfl (enters Try.func39 rfl rfl) (F.f 29 rfl) (fun va w h1 => q_fNeg va x w h1 (hx.mono (by decide))) (fun _ _ h => ofQ h)).b, ?_⟩
        refine ⟨fun _ _ F => gG F rfl rfl rfl rfl (arm_loadF rfl (F.k 2 (Value.pointer (some ⟨w.heap.size, 0, none⟩))) (V0.mono F.below)).b, ?_⟩
        refine ⟨fun _ _ F => gG F rfl rfl rfl rfl (arm_C1 rfl (enters Try.func45 rfl rfl) (F.f 31 rfl) (fun va w h1 => q_rNeg va x w h1 (hx.mono (by decide))) (fun _ _ h => ofQ h)).b, ?_⟩
        refine ⟨fun _ _ F => gG F rfl rfl rfl rfl (arm_C2 rfl (enters Try.func16 rfl rfl) (F.f 30 rfl) (F.f 32 rfl) (fun va vb w h1 h2 => q_Same va vb (x.neg) (x.neg) w h1 h2 (hx.neg.mono (by decide)) (hx.neg.mono (by decide))) (fun _ _ h => by have h' : RetV _ _ _ _ := h; rw [Fq.same_refl (x.neg)] at h'; exact ofV h')).b, ?_⟩
        refine ⟨fun _ _ F => gG F rfl rfl rfl rfl (arm_not rfl (F.f 33 rfl)).b, ?_⟩
        refine ⟨fun _ _ F => gR rfl rfl (arm_pick rfl (F.f 28 rfl) (fun h => by cases h) (fun _ => (F.f 34 rfl))).b, ?_⟩
        exact trivial
      intro E' hE gp wp bp G Gs
      obtain rfl : E' = [] := by simpa [subs] using hE
      have e_35 : gp 35 = Value.bool false := G 35 80 _ (by simp) rfl
      clear G Gs hE
      simp only [lCoT12]
      simp only [qA, setD, qZ, qS, e_35]
      refine wpAny_done (by kernel_rfl) ?_ _
      go_wp2_with fail
      go_meet
      case rel => exact ⟨rfl, (V0.mono bp), (V1.mono bp), (V5.mono bp), (V6.mono bp), (V7.mono bp), (V9.mono bp), (hb1.trans (bp.mono hb1.size))⟩
    case rest =>
    clear V0 V1 V5 V6 V7 V9 hb1
    obtain ⟨rfl, V0, V1, V5, V6, V7, V9, hb1⟩ := hcut
    go_upto_region 10 with (fail)
    go_cut [4] (fun s_4 wx => s_4 = Value.bool true ∧ VarQ wx w.heap.size x ∧ VarQ wx (w.heap.size + 1) y ∧ VarQ wx g5 x ∧ VarQ wx g6 y ∧ VarQ wx g7 (x.div y) ∧ VarQ wx g9 (x.div y) ∧ Below w.heap.size w wx)
    case first =>
      refine tG Try.f10 10 (lCoT13 x y) [] 22 0 ?_ ?_
      · refine ⟨fun _ _ F => gR rfl rfl (arm_loadF rfl (F.k 5 (Value.pointer (some ⟨g5, 0, none⟩))) (V5.mono F.below)).b, ?_⟩
        refine ⟨fun _ _ F => gR rfl rfl (arm_loadF rfl (F.k 6 (Value.pointer (some ⟨g6, 0, none⟩))) (V6.mono F.below)).b, ?_⟩
        refine ⟨fun _ _ F => gR rfl rfl (arm_C2 rfl (enters Try.func36 rfl rfl) (F.f 0 rfl) (F.f 1 rfl) (fun va vb w h1 h2 => q_fCmp va vb x y w h1 h2 (hx.mono (by decide)) (hy.mono (by decide))) (fun _ _ h => ofV h)).b, ?_⟩
        refine ⟨fun _ _ F => gR rfl rfl (arm_loadF rfl (F.k 2 (Value.pointer (some ⟨w.heap.size, 0, none⟩))) (V0.mono F.below)).b, ?_⟩
        refine ⟨fun _ _ F => gR rfl rfl (arm_loadF rfl (F.k 3 (Value.pointer (some ⟨w.heap.size + 1, 0, none⟩))) (V1.mono F.below)).b, ?_⟩
        refine ⟨fun _ _ F => gR rfl rfl (arm_C2 rfl (enters Try.func31 rfl rfl) (F.f 3 rfl) (F.f 4 rfl) (fun va vb w h1 h2 => q_rCmp va vb x y w h1 h2 (hx.mono (by decide)) (hy.mono (by decide))) (fun _ _ h => ofV h)).b, ?_⟩
        refine ⟨fun _ _ F => gR rfl rfl (arm_bin rfl (F.f 2 rfl) (F.f 5 rfl) (fun _ => rfl) (fun w => run_eqJ _ _ w)).b, ?_⟩
        refine ⟨fun _ _ F => gR rfl rfl (arm_move (.inl rfl) (F.f 6 rfl)).b, ?_⟩
        refine ⟨fun _ _ F => gG F rfl rfl rfl rfl (arm_loadF rfl (F.k 5 (Value.pointer (some ⟨g5, 0, none⟩))) (V5.mono F.below)).b, ?_⟩
        refine ⟨fun _ _ F => gG F rfl rfl rfl rfl (arm_C1 rfl (enters Try.func35 rfl rfl) (F.f 8 rfl) (fun va w h1 => q_fSign va x w h1 (hx.mono (by decide))) (fun _ _ h => ofV h)).b, ?_⟩
        refine ⟨fun _ _ F => gG F rfl rfl rfl rfl (arm_loadF rfl (F.k 2 (Value.pointer (some ⟨w.heap.size, 0, none⟩))) (V0.mono F.below)).b, ?_⟩
        refine ⟨fun _ _ F => gG F rfl rfl rfl rfl (arm_C1 rfl (enters Try.func30 rfl rfl) (F.f 10 rfl) (fun va w h1 => q_rSign va x w h1 (hx.mono (by decide))) (fun _ _ h => ofV h)).b, ?_⟩
        refine ⟨fun _ _ F => gG F rfl rfl rfl rfl (arm_bin rfl (F.f 9 rfl) (F.f 11 rfl) (fun _ => rfl) (fun w => run_eqJ _ _ w)).b, ?_⟩
        refine ⟨fun _ _ F => gR rfl rfl (arm_pick rfl (F.f 7 rfl) (fun _ => (F.f 12 rfl)) (fun h => by cases h)).b, ?_⟩
        refine ⟨fun _ _ F => gR rfl rfl (arm_move (.inl rfl) (F.f 13 rfl)).b, ?_⟩
        refine ⟨fun _ _ F => gG F rfl rfl rfl rfl (arm_loadF rfl (F.k 5 (Value.pointer (some ⟨g5, 0, none⟩))) (V5.mono F.below)).b, ?_⟩
        refine ⟨fun _ _ F => gG F rfl rfl rfl rfl (arm_loadF rfl (F.k 2 (Value.pointer (some ⟨w.heap.size, 0, none⟩))) (V0.mono F.below)).b, ?_⟩
        refine ⟨fun _ _ F => gG F rfl rfl rfl rfl (arm_C2 rfl (enters Try.func16 rfl rfl) (F.f 15 rfl) (F.f 16 rfl) (fun va vb w h1 h2 => q_Same va vb x x w h1 h2 (hx.mono (by decide)) (hx.mono (by decide))) (fun _ _ h => by have h' : RetV _ _ _ _ := h; rw [Fq.same_refl x] at h'; exact ofV h')).b, ?_⟩
        refine ⟨fun _ _ F => gR rfl rfl (arm_pick rfl (F.f 14 rfl) (fun _ => (F.f 17 rfl)) (fun h => by cases h)).b, ?_⟩
        refine ⟨fun _ _ F => gR rfl rfl (arm_move (.inl rfl) (F.f 18 rfl)).b, ?_⟩
        refine ⟨fun _ _ F => gG F rfl rfl rfl rfl (arm_loadF rfl (F.k 6 (Value.pointer (some ⟨g6, 0, none⟩))) (V6.mono F.below)).b, ?_⟩
        refine ⟨fun _ _ F => gG F rfl rfl rfl rfl (arm_loadF rfl (F.k 3 (Value.pointer (some ⟨w.heap.size + 1, 0, none⟩))) (V1.mono F.below)).b, ?_⟩
        refine ⟨fun _ _ F => gG F rfl rfl rfl rfl (arm_C2 rfl (enters Try.func16 rfl rfl) (F.f 20 rfl) (F.f 21 rfl) (fun va vb w h1 h2 => q_Same va vb y y w h1 h2 (hy.mono (by decide)) (hy.mono (by decide))) (fun _ _ h => by have h' : RetV _ _ _ _ := h; rw [Fq.same_refl y] at h'; exact ofV h')).b, ?_⟩
        refine ⟨fun _ _ F => gR rfl rfl (arm_pick rfl (F.f 19 rfl) (fun _ => (F.f 22 rfl)) (fun h => by cases h)).b, ?_⟩
        refine ⟨fun _ _ F => gR rfl rfl (arm_move (.inl rfl) (F.f 23 rfl)).b, ?_⟩
        refine ⟨fun _ _ F => gG F rfl rfl rfl rfl (arm_C0 rfl (enters Try.func11 rfl rfl)  (fun w => c_awake2 w) (fun _ _ h => ofV h)).b, ?_⟩
        refine ⟨fun _ _ F => gR rfl rfl (arm_pick rfl (F.f 24 rfl) (fun _ => (F.f 25 rfl)) (fun h => by cases h)).b, ?_⟩
        refine ⟨fun _ _ F => gR rfl rfl (arm_move (.inr rfl) (F.f 26 rfl)).b, ?_⟩
        exact trivial
      intro E' hE gp wp bp G Gs
      obtain rfl : E' = [] := by simpa [subs] using hE
      have e_27 : gp 27 = Value.bool true := G 27 4 _ (by simp) rfl
      clear G Gs hE
      simp only [lCoT13]
      simp only [qA, setD, qZ, qS, e_27]
      refine wpAny_done (by kernel_rfl) ?_ _
      go_wp2_with fail
      go_meet
      case rel => exact ⟨rfl, (V0.mono bp), (V1.mono bp), (V5.mono bp), (V6.mono bp), (V7.mono bp), (V9.mono bp), (hb1.trans (bp.mono hb1.size))⟩
    case rest =>
    clear V0 V1 V5 V6 V7 V9 hb1
    obtain ⟨rfl, V0, V1, V5, V6, V7, V9, hb1⟩ := hcut
    go_wp2
    go_ret
    exact ⟨rfl, hb1⟩
def lCoUT0 (sx : Bool) (Lx : Nat) (px : Nat) (Nx : Nat) (qx : Nat) (sy : Bool) (Ly : Nat) (py : Nat) (Ny : Nat) (qy : Nat) : List (Nat × Tmp × Sp) :=
   [(0, 11, .frR sx Lx px Nx qx),
    (1, 12, .val (Value.bool true)),
    (2, 13, .val (Value.bool false)),
    (3, 14, .val (Value.bool false)),
    (4, 15, .frR sy Ly py Ny qy),
    (5, 16, .val (Value.bool false)),
    (6, 17, .val (Value.bool true)),
    (7, 18, .val (Value.bool true))]
def lCoUT1  : List (Nat × Tmp × Sp) :=
   [(0, 19, .val (Value.bool true)),
    (1, 4, .val (Value.bool true))]
def lCoUT2 (sx : Bool) (Lx : Nat) (px : Nat) (Nx : Nat) (qx : Nat) : List (Nat × Tmp × Sp) :=
   [(0, 11, .frR sx Lx px Nx qx),
    (1, 12, .val (Value.bool false)),
    (2, 13, .val (Value.bool true)),
    (3, 14, .val (Value.bool true)),
    (4, 15, .val undef),
    (5, 16, .val undef),
    (6, 17, .val undef),
    (7, 18, .val (Value.bool true))]
def lCoUT3  : List (Nat × Tmp × Sp) :=
   [(0, 19, .val (Value.bool true)),
    (1, 4, .val (Value.bool true))]
set_option maxHeartbeats 4000000 in
theorem c_lCoU (vx : Value) (sx : Bool) (Lx px Nx qx : Nat) (vy : Value) (sy : Bool) (Ly py Ny qy : Nat) (w : World) (ix : IsFR w vx sx Lx px Nx qx) (iy : IsFR w vy sy Ly py Ny qy) (hn : ¬(FitP sx Lx px Nx qx ∧ FitP sy Ly py Ny qy)) :
    Calls Try.prog 10 #[vx, vy] w fun e w' => RetV w (.bool true) e w' := by
  by_cases fx : FitP sx Lx px Nx qx
  · have fy : ¬ FitP sy Ly py Ny qy := fun h9 => hn ⟨fx, h9⟩
    clear hn
    obtain ⟨a0, c0, b0, d0, rfl, m0, k0⟩ := boxR ix
    obtain ⟨a1, c1, b1, d1, rfl, m1, k1⟩ := boxR (iy.mono m0)
    rw [World.size_alloc ] at k1
    have n1 := m0.trans (m1.mono m0.size)
    clear ix iy
    go_enter Try.func10, Try.ntmps10
    go_upto_region 0 with (fail)
    go_cut [2, 3, 4] (fun s_2 s_3 s_4 wx => s_2 = Value.pointer (some ⟨w.heap.size, 0, none⟩) ∧ s_3 = Value.pointer (some ⟨w.heap.size + 1, 0, none⟩) ∧ s_4 = Value.bool false ∧ VarFR wx w.heap.size sx Lx px Nx qx ∧ VarFR wx (w.heap.size + 1) sy Ly py Ny qy ∧ Below w.heap.size w wx)
    case first =>
      go_wp2_with fail
      go_meet
      case rel => exact ⟨rfl, rfl, rfl, (k0.mono m1), k1, n1⟩
    case rest =>
    clear m0 k0 m1 k1 n1
    obtain ⟨rfl, rfl, rfl, V0, V1, hb1⟩ := hcut
    go_upto_region 1 with (fail)
    go_cut [18] (fun s_18 wx => s_18 = Value.bool true ∧ VarFR wx w.heap.size sx Lx px Nx qx ∧ VarFR wx (w.heap.size + 1) sy Ly py Ny qy ∧ Below w.heap.size w wx)
    case first =>
      refine tF Try.f10 1 (lCoUT0 sx Lx px Nx qx sy Ly py Ny qy) [] 8 0 ?_ ?_
      · refine ⟨fun _ _ F => gR rfl rfl (arm_loadFR rfl (F.k 2 (Value.pointer (some ⟨w.heap.size, 0, none⟩))) (V0.mono F.below)).b, ?_⟩
        refine ⟨fun _ _ F => gR rfl rfl (arm_C1 rfl (enters Try.func18 rfl rfl) (F.f 0 rfl) (fun va w h1 => q_fitT va sx Lx px Nx qx w h1 fx) (fun _ _ h => ofV h)).b, ?_⟩
        refine ⟨fun _ _ F => gR rfl rfl (arm_not rfl (F.f 1 rfl)).b, ?_⟩
        refine ⟨fun _ _ F => gR rfl rfl (arm_move (.inl rfl) (F.f 2 rfl)).b, ?_⟩
        refine ⟨fun _ _ F => gG F rfl rfl rfl rfl (arm_loadFR rfl (F.k 3 (Value.pointer (some ⟨w.heap.size + 1, 0, none⟩))) (V1.mono F.below)).b, ?_⟩
        refine ⟨fun _ _ F => gG F rfl rfl rfl rfl (arm_C1 rfl (enters Try.func18 rfl rfl) (F.f 4 rfl) (fun va w h1 => q_fitF va sy Ly py Ny qy w h1 fy) (fun _ _ h => ofV h)).b, ?_⟩
        refine ⟨fun _ _ F => gG F rfl rfl rfl rfl (arm_not rfl (F.f 5 rfl)).b, ?_⟩
        refine ⟨fun _ _ F => gR rfl rfl (arm_pick rfl (F.f 3 rfl) (fun h => by cases h) (fun _ => (F.f 6 rfl))).b, ?_⟩
        exact trivial
      intro E' hE gp wp bp G Gs
      obtain rfl : E' = [] := by simpa [subs] using hE
      have e_7 : gp 7 = Value.bool true := G 7 18 _ (by simp) rfl
      clear G Gs hE
      simp only [lCoUT0]
      simp only [qA, setD, qZ, qS, e_7]
      refine wpAny_done (by kernel_rfl) ?_ _
      go_wp2_with fail
      go_meet
      case rel => exact ⟨rfl, (V0.mono bp), (V1.mono bp), (hb1.trans (bp.mono hb1.size))⟩
    case rest =>
    clear V0 V1 hb1
    obtain ⟨rfl, V0, V1, hb1⟩ := hcut
    go_upto_region 2 with (fail)
    go_cut [4] (fun s_4 wx => s_4 = Value.bool true ∧ VarFR wx w.heap.size sx Lx px Nx qx ∧ VarFR wx (w.heap.size + 1) sy Ly py Ny qy ∧ Below w.heap.size w wx)
    case first =>
      refine tF Try.f10 2 (lCoUT1 ) [] 2 0 ?_ ?_
      · refine ⟨fun _ _ F => gR rfl rfl (arm_C0 rfl (enters Try.func11 rfl rfl)  (fun w => c_awake2 w) (fun _ _ h => ofV h)).b, ?_⟩
        refine ⟨fun _ _ F => gR rfl rfl (arm_move (.inr rfl) (F.f 0 rfl)).b, ?_⟩
        exact trivial
      intro E' hE gp wp bp G Gs
      obtain rfl : E' = [] := by simpa [subs] using hE
      have e_1 : gp 1 = Value.bool true := G 1 4 _ (by simp) rfl
      clear G Gs hE
      simp only [lCoUT1]
      simp only [qA, setD, qZ, qS, e_1]
      refine wpAny_done (by kernel_rfl) ?_ _
      go_wp2_with fail
      go_meet
      case rel => exact ⟨rfl, (V0.mono bp), (V1.mono bp), (hb1.trans (bp.mono hb1.size))⟩
    case rest =>
    clear V0 V1 hb1
    obtain ⟨rfl, V0, V1, hb1⟩ := hcut
    go_wp2
    go_ret
    exact ⟨rfl, hb1⟩
  · clear hn
    obtain ⟨a0, c0, b0, d0, rfl, m0, k0⟩ := boxR ix
    obtain ⟨a1, c1, b1, d1, rfl, m1, k1⟩ := boxR (iy.mono m0)
    rw [World.size_alloc ] at k1
    have n1 := m0.trans (m1.mono m0.size)
    clear ix iy
    go_enter Try.func10, Try.ntmps10
    go_upto_region 0 with (fail)
    go_cut [2, 3, 4] (fun s_2 s_3 s_4 wx => s_2 = Value.pointer (some ⟨w.heap.size, 0, none⟩) ∧ s_3 = Value.pointer (some ⟨w.heap.size + 1, 0, none⟩) ∧ s_4 = Value.bool false ∧ VarFR wx w.heap.size sx Lx px Nx qx ∧ VarFR wx (w.heap.size + 1) sy Ly py Ny qy ∧ Below w.heap.size w wx)
    case first =>
      go_wp2_with fail
      go_meet
      case rel => exact ⟨rfl, rfl, rfl, (k0.mono m1), k1, n1⟩
    case rest =>
    clear m0 k0 m1 k1 n1
    obtain ⟨rfl, rfl, rfl, V0, V1, hb1⟩ := hcut
    go_upto_region 1 with (fail)
    go_cut [18] (fun s_18 wx => s_18 = Value.bool true ∧ VarFR wx w.heap.size sx Lx px Nx qx ∧ VarFR wx (w.heap.size + 1) sy Ly py Ny qy ∧ Below w.heap.size w wx)
    case first =>
      refine tF Try.f10 1 (lCoUT2 sx Lx px Nx qx) [] 8 0 ?_ ?_
      · refine ⟨fun _ _ F => gR rfl rfl (arm_loadFR rfl (F.k 2 (Value.pointer (some ⟨w.heap.size, 0, none⟩))) (V0.mono F.below)).b, ?_⟩
        refine ⟨fun _ _ F => gR rfl rfl (arm_C1 rfl (enters Try.func18 rfl rfl) (F.f 0 rfl) (fun va w h1 => q_fitF va sx Lx px Nx qx w h1 fx) (fun _ _ h => ofV h)).b, ?_⟩
        refine ⟨fun _ _ F => gR rfl rfl (arm_not rfl (F.f 1 rfl)).b, ?_⟩
        refine ⟨fun _ _ F => gR rfl rfl (arm_move (.inl rfl) (F.f 2 rfl)).b, ?_⟩
        refine ⟨fun _ _ F => gS F rfl rfl rfl rfl rfl rfl, ?_⟩
        refine ⟨fun _ _ F => gS F rfl rfl rfl rfl rfl rfl, ?_⟩
        refine ⟨fun _ _ F => gS F rfl rfl rfl rfl rfl rfl, ?_⟩
        refine ⟨fun _ _ F => gR rfl rfl (arm_pick rfl (F.f 3 rfl) (fun _ => Is.const) (fun h => by cases h)).b, ?_⟩
        exact trivial
      intro E' hE gp wp bp G Gs
      obtain rfl : E' = [] := by simpa [subs] using hE
      have e_7 : gp 7 = Value.bool true := G 7 18 _ (by simp) rfl
      clear G Gs hE
      simp only [lCoUT2]
      simp only [qA, setD, qZ, qS, e_7]
      refine wpAny_done (by kernel_rfl) ?_ _
      go_wp2_with fail
      go_meet
      case rel => exact ⟨rfl, (V0.mono bp), (V1.mono bp), (hb1.trans (bp.mono hb1.size))⟩
    case rest =>
    clear V0 V1 hb1
    obtain ⟨rfl, V0, V1, hb1⟩ := hcut
    go_upto_region 2 with (fail)
    go_cut [4] (fun s_4 wx => s_4 = Value.bool true ∧ VarFR wx w.heap.size sx Lx px Nx qx ∧ VarFR wx (w.heap.size + 1) sy Ly py Ny qy ∧ Below w.heap.size w wx)
    case first =>
      refine tF Try.f10 2 (lCoUT3 ) [] 2 0 ?_ ?_
      · refine ⟨fun _ _ F => gR rfl rfl (arm_C0 rfl (enters Try.func11 rfl rfl)  (fun w => c_awake2 w) (fun _ _ h => ofV h)).b, ?_⟩
        refine ⟨fun _ _ F => gR rfl rfl (arm_move (.inr rfl) (F.f 0 rfl)).b, ?_⟩
        exact trivial
      intro E' hE gp wp bp G Gs
      obtain rfl : E' = [] := by simpa [subs] using hE
      have e_1 : gp 1 = Value.bool true := G 1 4 _ (by simp) rfl
      clear G Gs hE
      simp only [lCoUT3]
      simp only [qA, setD, qZ, qS, e_1]
      refine wpAny_done (by kernel_rfl) ?_ _
      go_wp2_with fail
      go_meet
      case rel => exact ⟨rfl, (V0.mono bp), (V1.mono bp), (hb1.trans (bp.mono hb1.size))⟩
    case rest =>
    clear V0 V1 hb1
    obtain ⟨rfl, V0, V1, hb1⟩ := hcut
    go_wp2
    go_ret
    exact ⟨rfl, hb1⟩
theorem c_FractionComputes (vx : Value) (sx : Bool) (Lx px Nx qx : Nat) (vy : Value) (sy : Bool) (Ly py Ny qy : Nat) (w : World) (ix : IsFR w vx sx Lx px Nx qx) (iy : IsFR w vy sy Ly py Ny qy) :
    Calls Try.prog 10 #[vx, vy] w fun e w' => RetV w (.bool true) e w' := by
  by_cases hn : FitP sx Lx px Nx qx ∧ FitP sy Ly py Ny qy
  · obtain ⟨fx, fy⟩ := hn
    obtain ⟨x, jx, hx, ex⟩ := FitP.split fx ix
    obtain ⟨y, jy, hy, ey⟩ := FitP.split fy iy
    exact c_lCoT vx vy x y w jx jy hx ex hy ey
  · exact c_lCoU vx sx Lx px Nx qx vy sy Ly py Ny qy w ix iy hn
end Go.Proofs.Ytldnimohnbjfaaa
