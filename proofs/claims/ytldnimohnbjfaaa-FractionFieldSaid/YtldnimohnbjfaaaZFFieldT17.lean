/- The law FractionField. -/
import Derived.Test.YtldnimohnbjfaaaP16
namespace Go.Proofs.Ytldnimohnbjfaaa
set_option linter.unusedSimpArgs false
set_option linter.unusedVariables false
set_option maxRecDepth 100000
open Go.RowKit
def lFiT0 (x : Fq) (y : Fq) (z : Fq) : List (Nat × Tmp × Sp) :=
   [(0, 11, .fq x),
    (1, 12, .val (Value.bool true)),
    (2, 13, .val (Value.bool false)),
    (3, 14, .val (Value.bool false)),
    (4, 15, .fq y),
    (5, 16, .val (Value.bool true)),
    (6, 17, .val (Value.bool false)),
    (7, 18, .val (Value.bool false)),
    (8, 19, .val (Value.bool false)),
    (9, 20, .fq z),
    (10, 21, .val (Value.bool true)),
    (11, 22, .val (Value.bool false)),
    (12, 23, .val (Value.bool false))]
def lFiT1 (x : Fq) (y : Fq) (base : Nat) : List (Nat × Tmp × Sp) :=
   [(0, 25, .fq x),
    (1, 26, .fq y),
    (2, 27, .fq (x.add y)),
    (3, 28, .fq x),
    (4, 29, .fq y),
    (5, 30, .fq (x.mul y)),
    (6, 7, .varF base),
    (7, 8, .varF base)]
def lFiT2 (x : Fq) (y : Fq) : List (Nat × Tmp × Sp) :=
   [(0, 31, .fq (x.add y)),
    (1, 32, .val (Value.bool true)),
    (2, 33, .val (Value.bool false)),
    (3, 34, .val (Value.bool false)),
    (4, 35, .fq (x.mul y)),
    (5, 36, .val (Value.bool true)),
    (6, 37, .val (Value.bool false)),
    (7, 38, .val (Value.bool false)),
    (8, 39, .val (Value.bool false)),
    (9, 40, .fq (x.add y)),
    (10, 41, .fq y),
    (11, 42, .fq x),
    (12, 43, .fq (y.add x)),
    (13, 44, .val (Value.bool true)),
    (14, 45, .val (Value.bool false)),
    (15, 46, .val (Value.bool false)),
    (16, 47, .val (Value.bool false)),
    (17, 48, .fq (x.mul y)),
    (18, 49, .fq y),
    (19, 50, .fq x),
    (20, 51, .fq (y.mul x)),
    (21, 52, .val (Value.bool true)),
    (22, 53, .val (Value.bool false)),
    (23, 54, .val (Value.bool false))]
def lFiT3 (x : Fq) (y : Fq) (z : Fq) : List (Nat × Tmp × Sp) :=
   [(0, 55, .fq (x.add y)),
    (1, 56, .fq z),
    (2, 57, .fq ((x.add y).add z)),
    (3, 58, .fq x),
    (4, 59, .fq y),
    (5, 60, .fq z),
    (6, 61, .fq (y.add z)),
    (7, 62, .fq (x.add (y.add z))),
    (8, 63, .val (Value.bool true)),
    (9, 64, .val (Value.bool false)),
    (10, 65, .val (Value.bool false)),
    (11, 66, .fq (x.mul y)),
    (12, 67, .fq z),
    (13, 68, .fq ((x.mul y).mul z)),
    (14, 69, .fq x),
    (15, 70, .fq y),
    (16, 71, .fq z),
    (17, 72, .fq (y.mul z)),
    (18, 73, .fq (x.mul (y.mul z))),
    (19, 74, .val (Value.bool true)),
    (20, 75, .val (Value.bool false)),
    (21, 76, .val (Value.bool false))]
def lFiT4 (x : Fq) (y : Fq) (z : Fq) : List (Nat × Tmp × Sp) :=
   [(0, 77, .fq (x.add y)),
    (1, 78, .fq z),
    (2, 79, .fq ((x.add y).mul z)),
    (3, 80, .fq x),
    (4, 81, .fq z),
    (5, 82, .fq (x.mul z)),
    (6, 83, .fq y),
    (7, 84, .fq z),
    (8, 85, .fq (y.mul z)),
    (9, 86, .fq ((x.mul z).add (y.mul z))),
    (10, 87, .val (Value.bool true)),
    (11, 88, .val (Value.bool false)),
    (12, 89, .val (Value.bool false)),
    (13, 90, .fq (x.add y)),
    (14, 91, .fq y),
    (15, 92, .fq ((x.add y).sub y)),
    (16, 93, .fq x),
    (17, 94, .val (Value.bool true)),
    (18, 95, .val (Value.bool false)),
    (19, 96, .val (Value.bool false))]
def lFiT5 (x : Fq) : List (Nat × Tmp × Sp) :=
   [(0, 97, .fq x),
    (1, 98, .fq x),
    (2, 99, .fq (x.neg)),
    (3, 100, .fq (x.add (x.neg))),
    (4, 101, .fq (Fq.ofInt 0)),
    (5, 102, .val (Value.bool true)),
    (6, 103, .val (Value.bool false)),
    (7, 104, .val (Value.bool false)),
    (8, 105, .fq x),
    (9, 106, .fq (Fq.ofInt 1)),
    (10, 107, .fq (x.mul (Fq.ofInt 1))),
    (11, 108, .fq x),
    (12, 109, .val (Value.bool true)),
    (13, 110, .val (Value.bool false)),
    (14, 111, .val (Value.bool false))]
def lFiT6 (x : Fq) (y : Fq) (base : Nat) : List (Nat × Tmp × Sp) :=
   [(0, 113, .fq (x.mul y)),
    (1, 114, .fq y),
    (2, 115, .pair (.fq Fq.zero) (.val (Value.int IntKind.i64 8))),
    (3, 112, .pair (.fq Fq.zero) (.val (Value.int IntKind.i64 8))),
    (4, 116, .fq Fq.zero),
    (5, 117, .val (Value.int IntKind.i64 8)),
    (6, 9, .varF base)]
def lFiT7 (y : Fq) : List (Nat × Tmp × Sp) :=
   [(0, 118, .fq y),
    (1, 119, .val (Value.int IntKind.i64 0)),
    (2, 120, .val (Value.bool true))]
def lFiT8  : List (Nat × Tmp × Sp) :=
   [(0, 121, .val (Value.int IntKind.i64 8)),
    (1, 122, .val (Value.bool true)),
    (2, 123, .val (Value.bool true)),
    (3, 124, .val (Value.bool true)),
    (4, 125, .val (Value.bool true)),
    (5, 6, .val (Value.bool true))]
def lFiT9 (x : Fq) (y : Fq) (z : Fq) : List (Nat × Tmp × Sp) :=
   [(0, 11, .fq x),
    (1, 12, .val (Value.bool true)),
    (2, 13, .val (Value.bool false)),
    (3, 14, .val (Value.bool false)),
    (4, 15, .fq y),
    (5, 16, .val (Value.bool true)),
    (6, 17, .val (Value.bool false)),
    (7, 18, .val (Value.bool false)),
    (8, 19, .val (Value.bool false)),
    (9, 20, .fq z),
    (10, 21, .val (Value.bool true)),
    (11, 22, .val (Value.bool false)),
    (12, 23, .val (Value.bool false))]
def lFiT10 (x : Fq) (y : Fq) (base : Nat) : List (Nat × Tmp × Sp) :=
   [(0, 25, .fq x),
    (1, 26, .fq y),
    (2, 27, .fq (x.add y)),
    (3, 28, .fq x),
    (4, 29, .fq y),
    (5, 30, .fq (x.mul y)),
    (6, 7, .varF base),
    (7, 8, .varF base)]
def lFiT11 (x : Fq) (y : Fq) : List (Nat × Tmp × Sp) :=
   [(0, 31, .fq (x.add y)),
    (1, 32, .val (Value.bool true)),
    (2, 33, .val (Value.bool false)),
    (3, 34, .val (Value.bool false)),
    (4, 35, .fq (x.mul y)),
    (5, 36, .val (Value.bool true)),
    (6, 37, .val (Value.bool false)),
    (7, 38, .val (Value.bool false)),
    (8, 39, .val (Value.bool false)),
    (9, 40, .fq (x.add y)),
    (10, 41, .fq y),
    (11, 42, .fq x),
    (12, 43, .fq (y.add x)),
    (13, 44, .val (Value.bool true)),
    (14, 45, .val (Value.bool false)),
    (15, 46, .val (Value.bool false)),
    (16, 47, .val (Value.bool false)),
    (17, 48, .fq (x.mul y)),
    (18, 49, .fq y),
    (19, 50, .fq x),
    (20, 51, .fq (y.mul x)),
    (21, 52, .val (Value.bool true)),
    (22, 53, .val (Value.bool false)),
    (23, 54, .val (Value.bool false))]
def lFiT12 (x : Fq) (y : Fq) (z : Fq) : List (Nat × Tmp × Sp) :=
   [(0, 55, .fq (x.add y)),
    (1, 56, .fq z),
    (2, 57, .fq ((x.add y).add z)),
    (3, 58, .fq x),
    (4, 59, .fq y),
    (5, 60, .fq z),
    (6, 61, .fq (y.add z)),
    (7, 62, .fq (x.add (y.add z))),
    (8, 63, .val (Value.bool true)),
    (9, 64, .val (Value.bool false)),
    (10, 65, .val (Value.bool false)),
    (11, 66, .fq (x.mul y)),
    (12, 67, .fq z),
    (13, 68, .fq ((x.mul y).mul z)),
    (14, 69, .fq x),
    (15, 70, .fq y),
    (16, 71, .fq z),
    (17, 72, .fq (y.mul z)),
    (18, 73, .fq (x.mul (y.mul z))),
    (19, 74, .val (Value.bool true)),
    (20, 75, .val (Value.bool false)),
    (21, 76, .val (Value.bool false))]
def lFiT13 (x : Fq) (y : Fq) (z : Fq) : List (Nat × Tmp × Sp) :=
   [(0, 77, .fq (x.add y)),
    (1, 78, .fq z),
    (2, 79, .fq ((x.add y).mul z)),
    (3, 80, .fq x),
    (4, 81, .fq z),
    (5, 82, .fq (x.mul z)),
    (6, 83, .fq y),
    (7, 84, .fq z),
    (8, 85, .fq (y.mul z)),
    (9, 86, .fq ((x.mul z).add (y.mul z))),
    (10, 87, .val (Value.bool true)),
    (11, 88, .val (Value.bool false)),
    (12, 89, .val (Value.bool false)),
    (13, 90, .fq (x.add y)),
    (14, 91, .fq y),
    (15, 92, .fq ((x.add y).sub y)),
    (16, 93, .fq x),
    (17, 94, .val (Value.bool true)),
    (18, 95, .val (Value.bool false)),
    (19, 96, .val (Value.bool false))]
def lFiT14 (x : Fq) : List (Nat × Tmp × Sp) :=
   [(0, 97, .fq x),
    (1, 98, .fq x),
    (2, 99, .fq (x.neg)),
    (3, 100, .fq (x.add (x.neg))),
    (4, 101, .fq (Fq.ofInt 0)),
    (5, 102, .val (Value.bool true)),
    (6, 103, .val (Value.bool false)),
    (7, 104, .val (Value.bool false)),
    (8, 105, .fq x),
    (9, 106, .fq (Fq.ofInt 1)),
    (10, 107, .fq (x.mul (Fq.ofInt 1))),
    (11, 108, .fq x),
    (12, 109, .val (Value.bool true)),
    (13, 110, .val (Value.bool false)),
    (14, 111, .val (Value.bool false))]
def lFiT15 (x : Fq) (y : Fq) (base : Nat) : List (Nat × Tmp × Sp) :=
   [(0, 113, .fq (x.mul y)),
    (1, 114, .fq y),
    (2, 115, .pair (.fq ((x.mul y).div y)) (.val (Value.int IntKind.i64 0))),
    (3, 112, .pair (.fq ((x.mul y).div y)) (.val (Value.int IntKind.i64 0))),
    (4, 116, .fq ((x.mul y).div y)),
    (5, 117, .val (Value.int IntKind.i64 0)),
    (6, 9, .varF base)]
def lFiT16 (y : Fq) (k : Int) : List (Nat × Tmp × Sp) :=
   [(0, 118, .fq y),
    (1, 119, .val (Value.int IntKind.i64 k)),
    (2, 120, .val (Value.bool false))]
def lFiT17 (x : Fq) (y : Fq) : List (Nat × Tmp × Sp) :=
   [(0, 126, .val (Value.int IntKind.i64 0)),
    (1, 127, .val (Value.bool true)),
    (2, 128, .val (Value.bool true)),
    (3, 129, .fq ((x.mul y).div y)),
    (4, 130, .fq x),
    (5, 131, .val (Value.bool true)),
    (6, 132, .val (Value.bool true)),
    (7, 133, .val (Value.bool true)),
    (8, 134, .val (Value.bool true)),
    (9, 135, .val (Value.bool true)),
    (10, 6, .val (Value.bool true))]
set_option maxHeartbeats 4000000 in
theorem c_lFiT (vx vy vz : Value) (x y z : Fq) (w : World) (ix : IsQ w vx x) (iy : IsQ w vy y) (iz : IsQ w vz z) (hx : x.ok 12) (ex : x.valid = true) (hy : y.ok 12) (ey : y.valid = true) (hz : z.ok 12) (ez : z.valid = true) :
    Calls Try.prog 9 #[vx, vy, vz] w fun e w' => RetV w (.bool true) e w' := by
  have S0 : Hid ((x.add y).same (y.add x) = true) := Lib.hid (same_of (f_addComm ex ey))
  have S1 : Hid ((x.mul y).same (y.mul x) = true) := Lib.hid (same_of (f_mulComm ex ey))
  have S2 : Hid (((x.add y).add z).same (x.add (y.add z)) = true) := Lib.hid (same_of (f_addAssoc ex ey ez))
  have S3 : Hid (((x.mul y).mul z).same (x.mul (y.mul z)) = true) := Lib.hid (same_of (f_mulAssoc ex ey ez))
  have S4 : Hid (((x.add y).mul z).same ((x.mul z).add (y.mul z)) = true) := Lib.hid (same_of (f_distrib ex ey ez))
  have S5 : Hid (((x.add y).sub y).same x = true) := Lib.hid (same_of (f_subAdd ex ey))
  have S6 : Hid ((x.add (x.neg)).same (Fq.ofInt 0) = true) := Lib.hid (same_of (f_addNeg ex))
  have S7 : Hid ((x.mul (Fq.ofInt 1)).same x = true) := Lib.hid (same_of (f_mulOne ex))
  by_cases h0 : y.p = 0
  · have g0 : Hid (y.sgn = 0) := Lib.hid (by unfold Fq.sgn; rw [if_pos h0])
    have P0 := Lib.hid h0
    clear h0
    obtain ⟨a0, c0, b0, d0, rfl, m0, k0⟩ := boxF ix
    obtain ⟨a1, c1, b1, d1, rfl, m1, k1⟩ := boxF (iy.mono m0)
    rw [World.size_alloc ] at k1
    have n1 := m0.trans (m1.mono m0.size)
    obtain ⟨a2, c2, b2, d2, rfl, m2, k2⟩ := boxF (iz.mono n1)
    rw [World.size_alloc, World.size_alloc ] at k2
    have n2 := n1.trans (m2.mono n1.size)
    clear ix iy iz
    go_enter Try.func9, Try.ntmps9
    go_upto_region 0 with (fail)
    go_cut [3, 4, 5, 6] (fun s_3 s_4 s_5 s_6 wx => s_3 = Value.pointer (some ⟨w.heap.size, 0, none⟩) ∧ s_4 = Value.pointer (some ⟨w.heap.size + 1, 0, none⟩) ∧ s_5 = Value.pointer (some ⟨w.heap.size + 2, 0, none⟩) ∧ s_6 = Value.bool false ∧ VarQ wx w.heap.size x ∧ VarQ wx (w.heap.size + 1) y ∧ VarQ wx (w.heap.size + 2) z ∧ Below w.heap.size w wx)
    case first =>
      go_wp2_with fail
      go_meet
      case rel => exact ⟨rfl, rfl, rfl, rfl, ((k0.mono m1).mono m2), (k1.mono m2), k2, n2⟩
    case rest =>
    clear m0 k0 m1 k1 m2 k2 n1 n2
    obtain ⟨rfl, rfl, rfl, rfl, V0, V1, V2, hb1⟩ := hcut
    go_upto_region 1 with (fail)
    go_cut [23] (fun s_23 wx => s_23 = Value.bool false ∧ VarQ wx w.heap.size x ∧ VarQ wx (w.heap.size + 1) y ∧ VarQ wx (w.heap.size + 2) z ∧ Below w.heap.size w wx)
    case first =>
      refine tF Try.f9 1 (lFiT0 x y z) [] 13 0 ?_ ?_
      · refine ⟨fun _ _ F => gR rfl rfl (arm_loadF rfl (F.k 3 (Value.pointer (some ⟨w.heap.size, 0, none⟩))) (V0.mono F.below)).b, ?_⟩
        refine ⟨fun _ _ F => gR rfl rfl (arm_C1 rfl (enters Try.func18 rfl rfl) (F.f 0 rfl) (fun va w h1 => q_fitQ va x w h1 hx ex) (fun _ _ h => ofV h)).b, ?_⟩
        refine ⟨fun _ _ F => gR rfl rfl (arm_not rfl (F.f 1 rfl)).b, ?_⟩
        refine ⟨fun _ _ F => gR rfl rfl (arm_move (.inl rfl) (F.f 2 rfl)).b, ?_⟩
        refine ⟨fun _ _ F => gG F rfl rfl rfl rfl (arm_loadF rfl (F.k 4 (Value.pointer (some ⟨w.heap.size + 1, 0, none⟩))) (V1.mono F.below)).b, ?_⟩
        refine ⟨fun _ _ F => gG F rfl rfl rfl rfl (arm_C1 rfl (enters Try.func18 rfl rfl) (F.f 4 rfl) (fun va w h1 => q_fitQ va y w h1 hy ey) (fun _ _ h => ofV h)).b, ?_⟩
        refine ⟨fun _ _ F => gG F rfl rfl rfl rfl (arm_not rfl (F.f 5 rfl)).b, ?_⟩
        refine ⟨fun _ _ F => gR rfl rfl (arm_pick rfl (F.f 3 rfl) (fun h => by cases h) (fun _ => (F.f 6 rfl))).b, ?_⟩
        refine ⟨fun _ _ F => gR rfl rfl (arm_move (.inl rfl) (F.f 7 rfl)).b, ?_⟩
        refine ⟨fun _ _ F => gG F rfl rfl rfl rfl (arm_loadF rfl (F.k 5 (Value.pointer (some ⟨w.heap.size + 2, 0, none⟩))) (V2.mono F.below)).b, ?_⟩
        refine ⟨fun _ _ F => gG F rfl rfl rfl rfl (arm_C1 rfl (enters Try.func18 rfl rfl) (F.f 9 rfl) (fun va w h1 => q_fitQ va z w h1 hz ez) (fun _ _ h => ofV h)).b, ?_⟩
        refine ⟨fun _ _ F => gG F rfl rfl rfl rfl (arm_not rfl (F.f 10 rfl)).b, ?_⟩
        refine ⟨fun _ _ F => gR rfl rfl (arm_pick rfl (F.f 8 rfl) (fun h => by cases h) (fun _ => (F.f 11 rfl))).b, ?_⟩
        exact trivial
      intro E' hE gp wp bp G Gs
      obtain rfl : E' = [] := by simpa [subs] using hE
      have e_12 : gp 12 = Value.bool false := G 12 23 _ (by simp) rfl
      clear G Gs hE
      simp only [lFiT0]
      simp only [qA, setD, qZ, qS, e_12]
      refine wpAny_done (by kernel_rfl) ?_ _
      go_wp2_with fail
      go_meet
      case rel => exact ⟨rfl, (V0.mono bp), (V1.mono bp), (V2.mono bp), (hb1.trans (bp.mono hb1.size))⟩
    case rest =>
    clear V0 V1 V2 hb1
    obtain ⟨rfl, V0, V1, V2, hb1⟩ := hcut
    go_upto_region 3 with (fail)
    go_cut [7, 8] (fun s_7 s_8 wx => ∃ g7 g8, s_7 = Value.pointer (some ⟨g7, 0, none⟩) ∧ s_8 = Value.pointer (some ⟨g8, 0, none⟩) ∧ w.heap.size + 3 ≤ g7 ∧ w.heap.size + 3 ≤ g8 ∧ g7 ≠ g8 ∧ VarQ wx g7 (x.add y) ∧ VarQ wx g8 (x.mul y) ∧ VarQ wx w.heap.size x ∧ VarQ wx (w.heap.size + 1) y ∧ VarQ wx (w.heap.size + 2) z ∧ Below w.heap.size w wx)
    case first =>
      obtain ⟨base, hbase0⟩ : ∃ b : Nat, Hid (b = wc.heap.size) := ⟨_, Lib.hid rfl⟩
      have hbase : base ≤ wc.heap.size := by rw [hbase0.out]; exact Nat.le_refl _
      have hbw : w.heap.size + 3 ≤ base := by have := hb1.size; have h1 := V2.lt; rw [hbase0.out]; omega
      have l_V0 : w.heap.size < base := by rw [hbase0.out]; exact V0.lt
      have l_V1 : w.heap.size + 1 < base := by rw [hbase0.out]; exact V1.lt
      have l_V2 : w.heap.size + 2 < base := by rw [hbase0.out]; exact V2.lt
      refine wp_tabG Try.f9 3 (lFiT1 x y base) [] (fun i => i == 6 || i == 7) 5 2 (by kernel_rfl) (by kernel_rfl) (by kernel_rfl) (by kernel_rfl) (by kernel_rfl) ⟨fun h => (by cases h), ⟨fun h => (by cases h), ⟨fun h => (by cases h), ⟨fun h => (by cases h), ⟨fun h => (by cases h), ⟨fun h => (by cases h), ⟨fun _ w v h => Sp.varF_lt h, ⟨fun _ w v h => Sp.varF_lt h, trivial⟩⟩⟩⟩⟩⟩⟩⟩ ?_ ?_
      · refine ⟨fun _ _ F => gR rfl rfl (arm_loadF rfl (F.k 3 (Value.pointer (some ⟨w.heap.size, 0, none⟩))) (V0.mono F.below)).b, ?_⟩
        refine ⟨fun _ _ F => gR rfl rfl (arm_loadF rfl (F.k 4 (Value.pointer (some ⟨w.heap.size + 1, 0, none⟩))) (V1.mono F.below)).b, ?_⟩
        refine ⟨fun _ _ F => gR rfl rfl (arm_C2 rfl (enters Try.func37 rfl rfl) (F.f 0 rfl) (F.f 1 rfl) (fun va vb w h1 h2 => q_fAdd va vb x y w h1 h2 (hx.mono (by decide)) (hy.mono (by decide))) (fun _ _ h => ofQ h)).b, ?_⟩
        refine ⟨fun _ _ F => gR rfl rfl (arm_loadF rfl (F.k 3 (Value.pointer (some ⟨w.heap.size, 0, none⟩))) (V0.mono F.below)).b, ?_⟩
        refine ⟨fun _ _ F => gR rfl rfl (arm_loadF rfl (F.k 4 (Value.pointer (some ⟨w.heap.size + 1, 0, none⟩))) (V1.mono F.below)).b, ?_⟩
        refine ⟨fun _ _ F => gR rfl rfl (arm_C2 rfl (enters Try.func38 rfl rfl) (F.f 3 rfl) (F.f 4 rfl) (fun va vb w h1 h2 => q_fMul va vb x y w h1 h2 (hx.mono (by decide)) (hy.mono (by decide))) (fun _ _ h => ofQ h)).b, ?_⟩
        refine ⟨fun _ _ F => gR rfl rfl (arm_allocF rfl (Nat.le_trans hbase F.below.size)), ?_⟩
        refine ⟨fun _ _ F => gR rfl rfl (arm_allocF rfl (Nat.le_trans hbase F.below.size)), ?_⟩
        exact trivial
      intro E' hE gp wp bp G Gs
      obtain rfl : E' = [] := by simpa [subs] using hE
      obtain ⟨g7, e_6, lg_6, hv_6⟩ := G 6 7 _ (by simp) rfl
      obtain ⟨g8, e_7, lg_7, hv_7⟩ := G 7 8 _ (by simp) rfl
      have n_2 : (Sp.fq (x.add y)).p wp (gp 2) := G 2 27 _ (by simp) rfl
      have n_5 : (Sp.fq (x.mul y)).p wp (gp 5) := G 5 30 _ (by simp) rfl
      have ne_6_7 : g7 ≠ g8 := by have h := Gs 6 7 rfl rfl (by simp) (by simp) rfl rfl (by decide); rw [e_6, e_7] at h; exact h
      clear G Gs hE
      simp only [lFiT1]
      simp only [qA, setD, qZ, qS, e_6, e_7]
      have T0 := hv_6
      refine wpAny_storeFr (j := 8) (by kernel_rfl) rfl rfl rfl rfl rfl n_2 T0.any ?_
      intro w0 u0 v0
      have O0 := T0.own
      have T1 := (hv_7.upd O0 u0 (by omega))
      refine wpAny_storeFr (j := 9) (by kernel_rfl) rfl rfl rfl rfl rfl (n_5.upd O0 u0) T1.any ?_
      intro w1 u1 v1
      have O1 := T1.own
      refine wpAny_done (by kernel_rfl) ?_ _
      go_wp2_with fail
      go_meet
      case rel => exact ⟨g7, g8, rfl, rfl, (by omega), (by omega), (by omega), (v0.upd O1 u1 (by omega)), v1, (((V0.mono bp).upd O0 u0 (by omega)).upd O1 u1 (by omega)), (((V1.mono bp).upd O0 u0 (by omega)).upd O1 u1 (by omega)), (((V2.mono bp).upd O0 u0 (by omega)).upd O1 u1 (by omega)), (Upd.below (Upd.below (hb1.trans (bp.mono hb1.size)) u0 (by omega)) u1 (by omega))⟩
    case rest =>
    clear V0 V1 V2 hb1
    obtain ⟨g7, g8, rfl, rfl, lg7, lg8, d3_0, V7, V8, V0, V1, V2, hb1⟩ := hcut
    go_upto_region 4 with (fail)
    go_cut [54] (fun s_54 wx => s_54 = Value.bool false ∧ VarQ wx w.heap.size x ∧ VarQ wx (w.heap.size + 1) y ∧ VarQ wx (w.heap.size + 2) z ∧ VarQ wx g7 (x.add y) ∧ VarQ wx g8 (x.mul y) ∧ Below w.heap.size w wx)
    case first =>
      refine tG Try.f9 4 (lFiT2 x y) [] 20 0 ?_ ?_
      · refine ⟨fun _ _ F => gR rfl rfl (arm_loadF rfl (F.k 7 (Value.pointer (some ⟨g7, 0, none⟩))) (V7.mono F.below)).b, ?_⟩
        refine ⟨fun _ _ F => gR rfl rfl (arm_C1 rfl (enters Try.func13 rfl rfl) (F.f 0 rfl) (fun va w h1 => q_rValid va (x.add y) w h1 ((hx.add hy).mono (by decide)).p ((hx.add hy).mono (by decide)).q) (fun _ _ h => by have h' : RetV _ _ _ _ := h; rw [(add_valid ex ey)] at h'; exact ofV h')).b, ?_⟩
        refine ⟨fun _ _ F => gR rfl rfl (arm_not rfl (F.f 1 rfl)).b, ?_⟩
        refine ⟨fun _ _ F => gR rfl rfl (arm_move (.inl rfl) (F.f 2 rfl)).b, ?_⟩
        refine ⟨fun _ _ F => gG F rfl rfl rfl rfl (arm_loadF rfl (F.k 8 (Value.pointer (some ⟨g8, 0, none⟩))) (V8.mono F.below)).b, ?_⟩
        refine ⟨fun _ _ F => gG F rfl rfl rfl rfl (arm_C1 rfl (enters Try.func13 rfl rfl) (F.f 4 rfl) (fun va w h1 => q_rValid va (x.mul y) w h1 ((hx.mul hy).mono (by decide)).p ((hx.mul hy).mono (by decide)).q) (fun _ _ h => by have h' : RetV _ _ _ _ := h; rw [(mul_valid ex ey)] at h'; exact ofV h')).b, ?_⟩
        refine ⟨fun _ _ F => gG F rfl rfl rfl rfl (arm_not rfl (F.f 5 rfl)).b, ?_⟩
        refine ⟨fun _ _ F => gR rfl rfl (arm_pick rfl (F.f 3 rfl) (fun h => by cases h) (fun _ => (F.f 6 rfl))).b, ?_⟩
        refine ⟨fun _ _ F => gR rfl rfl (arm_move (.inl rfl) (F.f 7 rfl)).b, ?_⟩
        refine ⟨fun _ _ F => gG F rfl rfl rfl rfl (arm_loadF rfl (F.k 7 (Value.pointer (some ⟨g7, 0, none⟩))) (V7.mono F.below)).b, ?_⟩
        refine ⟨fun _ _ F => gG F rfl rfl rfl rfl (arm_loadF rfl (F.k 4 (Value.pointer (some ⟨w.heap.size + 1, 0, none⟩))) (V1.mono F.below)).b, ?_⟩
        refine ⟨fun _ _ F => gG F rfl rfl rfl rfl (arm_loadF rfl (F.k 3 (Value.pointer (some ⟨w.heap.size, 0, none⟩))) (V0.mono F.below)).b, ?_⟩
        refine ⟨fun _ _ F => gG F rfl rfl rfl rfl (arm_C2 rfl (enters Try.func37 rfl rfl) (F.f 10 rfl) (F.f 11 rfl) (fun va vb w h1 h2 => q_fAdd va vb y x w h1 h2 (hy.mono (by decide)) (hx.mono (by decide))) (fun _ _ h => ofQ h)).b, ?_⟩
        refine ⟨fun _ _ F => gG F rfl rfl rfl rfl (arm_C2 rfl (enters Try.func16 rfl rfl) (F.f 9 rfl) (F.f 12 rfl) (fun va vb w h1 h2 => q_Same va vb (x.add y) (y.add x) w h1 h2 ((hx.add hy).mono (by decide)) ((hy.add hx).mono (by decide))) (fun _ _ h => by have h' : RetV _ _ _ _ := h; rw [S0.out] at h'; exact ofV h')).b, ?_⟩
        refine ⟨fun _ _ F => gG F rfl rfl rfl rfl (arm_not rfl (F.f 13 rfl)).b, ?_⟩
        refine ⟨fun _ _ F => gR rfl rfl (arm_pick rfl (F.f 8 rfl) (fun h => by cases h) (fun _ => (F.f 14 rfl))).b, ?_⟩
        refine ⟨fun _ _ F => gR rfl rfl (arm_move (.inl rfl) (F.f 15 rfl)).b, ?_⟩
        refine ⟨fun _ _ F => gG F rfl rfl rfl rfl (arm_loadF rfl (F.k 8 (Value.pointer (some ⟨g8, 0, none⟩))) (V8.mono F.below)).b, ?_⟩
        refine ⟨fun _ _ F => gG F rfl rfl rfl rfl (arm_loadF rfl (F.k 4 (Value.pointer (some ⟨w.heap.size + 1, 0, none⟩))) (V1.mono F.below)).b, ?_⟩
        refine ⟨fun _ _ F => gG F rfl rfl rfl rfl (arm_loadF rfl (F.k 3 (Value.pointer (some ⟨w.heap.size, 0, none⟩))) (V0.mono F.below)).b, ?_⟩
        refine ⟨fun _ _ F => gG F rfl rfl rfl rfl (arm_C2 rfl (enters Try.func38 rfl rfl) (F.f 18 rfl) (F.f 19 rfl) (fun va vb w h1 h2 => q_fMul va vb y x w h1 h2 (hy.mono (by decide)) (hx.mono (by decide))) (fun _ _ h => ofQ h)).b, ?_⟩
        refine ⟨fun _ _ F => gG F rfl rfl rfl rfl (arm_C2 rfl (enters Try.func16 rfl rfl) (F.f 17 rfl) (F.f 20 rfl) (fun va vb w h1 h2 => q_Same va vb (x.mul y) (y.mul x) w h1 h2 ((hx.mul hy).mono (by decide)) ((hy.mul hx).mono (by decide))) (fun _ _ h => by have h' : RetV _ _ _ _ := h; rw [S1.out] at h'; exact ofV h')).b, ?_⟩
        refine ⟨fun _ _ F => gG F rfl rfl rfl rfl (arm_not rfl (F.f 21 rfl)).b, ?_⟩
        refine ⟨fun _ _ F => gR rfl rfl (arm_pick rfl (F.f 16 rfl) (fun h => by cases h) (fun _ => (F.f 22 rfl))).b, ?_⟩
        exact trivial
      intro E' hE gp wp bp G Gs
      obtain rfl : E' = [] := by simpa [subs] using hE
      have e_23 : gp 23 = Value.bool false := G 23 54 _ (by simp) rfl
      clear G Gs hE
      simp only [lFiT2]
      simp only [qA, setD, qZ, qS, e_23]
      refine wpAny_done (by kernel_rfl) ?_ _
      go_wp2_with fail
      go_meet
      case rel => exact ⟨rfl, (V0.mono bp), (V1.mono bp), (V2.mono bp), (V7.mono bp), (V8.mono bp), (hb1.trans (bp.mono hb1.size))⟩
    case rest =>
    clear V0 V1 V2 V7 V8 hb1
    obtain ⟨rfl, V0, V1, V2, V7, V8, hb1⟩ := hcut
    go_upto_region 6 with (fail)
    go_cut [76] (fun s_76 wx => s_76 = Value.bool false ∧ VarQ wx w.heap.size x ∧ VarQ wx (w.heap.size + 1) y ∧ VarQ wx (w.heap.size + 2) z ∧ VarQ wx g7 (x.add y) ∧ VarQ wx g8 (x.mul y) ∧ Below w.heap.size w wx)
    case first =>
      refine tG Try.f9 6 (lFiT3 x y z) [] 14 0 ?_ ?_
      · refine ⟨fun _ _ F => gR rfl rfl (arm_loadF rfl (F.k 7 (Value.pointer (some ⟨g7, 0, none⟩))) (V7.mono F.below)).b, ?_⟩
        refine ⟨fun _ _ F => gR rfl rfl (arm_loadF rfl (F.k 5 (Value.pointer (some ⟨w.heap.size + 2, 0, none⟩))) (V2.mono F.below)).b, ?_⟩
        refine ⟨fun _ _ F => gR rfl rfl (arm_C2 rfl (enters Try.func37 rfl rfl) (F.f 0 rfl) (F.f 1 rfl) (fun va vb w h1 h2 => q_fAdd va vb (x.add y) z w h1 h2 ((hx.add hy).mono (by decide)) (hz.mono (by decide))) (fun _ _ h => ofQ h)).b, ?_⟩
        refine ⟨fun _ _ F => gR rfl rfl (arm_loadF rfl (F.k 3 (Value.pointer (some ⟨w.heap.size, 0, none⟩))) (V0.mono F.below)).b, ?_⟩
        refine ⟨fun _ _ F => gR rfl rfl (arm_loadF rfl (F.k 4 (Value.pointer (some ⟨w.heap.size + 1, 0, none⟩))) (V1.mono F.below)).b, ?_⟩
        refine ⟨fun _ _ F => gR rfl rfl (arm_loadF rfl (F.k 5 (Value.pointer (some ⟨w.heap.size + 2, 0, none⟩))) (V2.mono F.below)).b, ?_⟩
        refine ⟨fun _ _ F => gR rfl rfl (arm_C2 rfl (enters Try.func37 rfl rfl) (F.f 4 rfl) (F.f 5 rfl) (fun va vb w h1 h2 => q_fAdd va vb y z w h1 h2 (hy.mono (by decide)) (hz.mono (by decide))) (fun _ _ h => ofQ h)).b, ?_⟩
        refine ⟨fun _ _ F => gR rfl rfl (arm_C2 rfl (enters Try.func37 rfl rfl) (F.f 3 rfl) (F.f 6 rfl) (fun va vb w h1 h2 => q_fAdd va vb x (y.add z) w h1 h2 (hx.mono (by decide)) ((hy.add hz).mono (by decide))) (fun _ _ h => ofQ h)).b, ?_⟩
        refine ⟨fun _ _ F => gR rfl rfl (arm_C2 rfl (enters Try.func16 rfl rfl) (F.f 2 rfl) (F.f 7 rfl) (fun va vb w h1 h2 => q_Same va vb ((x.add y).add z) (x.add (y.add z)) w h1 h2 (((hx.add hy).add hz).mono (by decide)) ((hx.add (hy.add hz)).mono (by decide))) (fun _ _ h => by have h' : RetV _ _ _ _ := h; rw [S2.out] at h'; exact ofV h')).b, ?_⟩
        refine ⟨fun _ _ F => gR rfl rfl (arm_not rfl (F.f 8 rfl)).b, ?_⟩
        refine ⟨fun _ _ F => gR rfl rfl (arm_move (.inl rfl) (F.f 9 rfl)).b, ?_⟩
        refine ⟨fun _ _ F => gG F rfl rfl rfl rfl (arm_loadF rfl (F.k 8 (Value.pointer (some ⟨g8, 0, none⟩))) (V8.mono F.below)).b, ?_⟩
        refine ⟨fun _ _ F => gG F rfl rfl rfl rfl (arm_loadF rfl (F.k 5 (Value.pointer (some ⟨w.heap.size + 2, 0, none⟩))) (V2.mono F.below)).b, ?_⟩
        refine ⟨fun _ _ F => gG F rfl rfl rfl rfl (arm_C2 rfl (enters Try.func38 rfl rfl) (F.f 11 rfl) (F.f 12 rfl) (fun va vb w h1 h2 => q_fMul va vb (x.mul y) z w h1 h2 ((hx.mul hy).mono (by decide)) (hz.mono (by decide))) (fun _ _ h => ofQ h)).b, ?_⟩
        refine ⟨fun _ _ F => gG F rfl rfl rfl rfl (arm_loadF rfl (F.k 3 (Value.pointer (some ⟨w.heap.size, 0, none⟩))) (V0.mono F.below)).b, ?_⟩
        refine ⟨fun _ _ F => gG F rfl rfl rfl rfl (arm_loadF rfl (F.k 4 (Value.pointer (some ⟨w.heap.size + 1, 0, none⟩))) (V1.mono F.below)).b, ?_⟩
        refine ⟨fun _ _ F => gG F rfl rfl rfl rfl (arm_loadF rfl (F.k 5 (Value.pointer (some ⟨w.heap.size + 2, 0, none⟩))) (V2.mono F.below)).b, ?_⟩
        refine ⟨fun _ _ F => gG F rfl rfl rfl rfl (arm_C2 rfl (enters Try.func38 rfl rfl) (F.f 15 rfl) (F.f 16 rfl) (fun va vb w h1 h2 => q_fMul va vb y z w h1 h2 (hy.mono (by decide)) (hz.mono (by decide))) (fun _ _ h => ofQ h)).b, ?_⟩
        refine ⟨fun _ _ F => gG F rfl rfl rfl rfl (arm_C2 rfl (enters Try.func38 rfl rfl) (F.f 14 rfl) (F.f 17 rfl) (fun va vb w h1 h2 => q_fMul va vb x (y.mul z) w h1 h2 (hx.mono (by decide)) ((hy.mul hz).mono (by decide))) (fun _ _ h => ofQ h)).b, ?_⟩
        refine ⟨fun _ _ F => gG F rfl rfl rfl rfl (arm_C2 rfl (enters Try.func16 rfl rfl) (F.f 13 rfl) (F.f 18 rfl) (fun va vb w h1 h2 => q_Same va vb ((x.mul y).mul z) (x.mul (y.mul z)) w h1 h2 (((hx.mul hy).mul hz).mono (by decide)) ((hx.mul (hy.mul hz)).mono (by decide))) (fun _ _ h => by have h' : RetV _ _ _ _ := h; rw [S3.out] at h'; exact ofV h')).b, ?_⟩
        refine ⟨fun _ _ F => gG F rfl rfl rfl rfl (arm_not rfl (F.f 19 rfl)).b, ?_⟩
        refine ⟨fun _ _ F => gR rfl rfl (arm_pick rfl (F.f 10 rfl) (fun h => by cases h) (fun _ => (F.f 20 rfl))).b, ?_⟩
        exact trivial
      intro E' hE gp wp bp G Gs
      obtain rfl : E' = [] := by simpa [subs] using hE
      have e_21 : gp 21 = Value.bool false := G 21 76 _ (by simp) rfl
      clear G Gs hE
      simp only [lFiT3]
      simp only [qA, setD, qZ, qS, e_21]
      refine wpAny_done (by kernel_rfl) ?_ _
      go_wp2_with fail
      go_meet
      case rel => exact ⟨rfl, (V0.mono bp), (V1.mono bp), (V2.mono bp), (V7.mono bp), (V8.mono bp), (hb1.trans (bp.mono hb1.size))⟩
    case rest =>
    clear V0 V1 V2 V7 V8 hb1
    obtain ⟨rfl, V0, V1, V2, V7, V8, hb1⟩ := hcut
    go_upto_region 8 with (fail)
    go_cut [96] (fun s_96 wx => s_96 = Value.bool false ∧ VarQ wx w.heap.size x ∧ VarQ wx (w.heap.size + 1) y ∧ VarQ wx (w.heap.size + 2) z ∧ VarQ wx g7 (x.add y) ∧ VarQ wx g8 (x.mul y) ∧ Below w.heap.size w wx)
    case first =>
      refine tG Try.f9 8 (lFiT4 x y z) [] 13 0 ?_ ?_
      · refine ⟨fun _ _ F => gR rfl rfl (arm_loadF rfl (F.k 7 (Value.pointer (some ⟨g7, 0, none⟩))) (V7.mono F.below)).b, ?_⟩
        refine ⟨fun _ _ F => gR rfl rfl (arm_loadF rfl (F.k 5 (Value.pointer (some ⟨w.heap.size + 2, 0, none⟩))) (V2.mono F.below)).b, ?_⟩
        refine ⟨fun _ _ F => gR rfl rfl (arm_C2 rfl (enters Try.func38 rfl rfl) (F.f 0 rfl) (F.f 1 rfl) (fun va vb w h1 h2 => q_fMul va vb (x.add y) z w h1 h2 ((hx.add hy).mono (by decide)) (hz.mono (by decide))) (fun _ _ h => ofQ h)).b, ?_⟩
        refine ⟨fun _ _ F => gR rfl rfl (arm_loadF rfl (F.k 3 (Value.pointer (some ⟨w.heap.size, 0, none⟩))) (V0.mono F.below)).b, ?_⟩
        refine ⟨fun _ _ F => gR rfl rfl (arm_loadF rfl (F.k 5 (Value.pointer (some ⟨w.heap.size + 2, 0, none⟩))) (V2.mono F.below)).b, ?_⟩
        refine ⟨fun _ _ F => gR rfl rfl (arm_C2 rfl (enters Try.func38 rfl rfl) (F.f 3 rfl) (F.f 4 rfl) (fun va vb w h1 h2 => q_fMul va vb x z w h1 h2 (hx.mono (by decide)) (hz.mono (by decide))) (fun _ _ h => ofQ h)).b, ?_⟩
        refine ⟨fun _ _ F => gR rfl rfl (arm_loadF rfl (F.k 4 (Value.pointer (some ⟨w.heap.size + 1, 0, none⟩))) (V1.mono F.below)).b, ?_⟩
        refine ⟨fun _ _ F => gR rfl rfl (arm_loadF rfl (F.k 5 (Value.pointer (some ⟨w.heap.size + 2, 0, none⟩))) (V2.mono F.below)).b, ?_⟩
        refine ⟨fun _ _ F => gR rfl rfl (arm_C2 rfl (enters Try.func38 rfl rfl) (F.f 6 rfl) (F.f 7 rfl) (fun va vb w h1 h2 => q_fMul va vb y z w h1 h2 (hy.mono (by decide)) (hz.mono (by decide))) (fun _ _ h => ofQ h)).b, ?_⟩
        refine ⟨fun _ _ F => gR rfl rfl (arm_C2 rfl (enters Try.func37 rfl rfl) (F.f 5 rfl) (F.f 8 rfl) (fun va vb w h1 h2 => q_fAdd va vb (x.mul z) (y.mul z) w h1 h2 ((hx.mul hz).mono (by decide)) ((hy.mul hz).mono (by decide))) (fun _ _ h => ofQ h)).b, ?_⟩
        refine ⟨fun _ _ F => gR rfl rfl (arm_C2 rfl (enters Try.func16 rfl rfl) (F.f 2 rfl) (F.f 9 rfl) (fun va vb w h1 h2 => q_Same va vb ((x.add y).mul z) ((x.mul z).add (y.mul z)) w h1 h2 (((hx.add hy).mul hz).mono (by decide)) (((hx.mul hz).add (hy.mul hz)).mono (by decide))) (fun _ _ h => by have h' : RetV _ _ _ _ := h; rw [S4.out] at h'; exact ofV h')).b, ?_⟩
        refine ⟨fun _ _ F => gR rfl rfl (arm_not rfl (F.f 10 rfl)).b, ?_⟩
        refine ⟨fun _ _ F => gR rfl rfl (arm_move (.inl rfl) (F.f 11 rfl)).b, ?_⟩
        refine ⟨fun _ _ F => gG F rfl rfl rfl rfl (arm_loadF rfl (F.k 7 (Value.pointer (some ⟨g7, 0, none⟩))) (V7.mono F.below)).b, ?_⟩
        refine ⟨fun _ _ F => gG F rfl rfl rfl rfl (arm_loadF rfl (F.k 4 (Value.pointer (some ⟨w.heap.size + 1, 0, none⟩))) (V1.mono F.below)).b, ?_⟩
        refine ⟨fun _ _ F => gG F rfl rfl rfl rfl (arm_C2 rfl (enters Try.func34 rfl rfl) (F.f 13 rfl) (F.f 14 rfl) (fun va vb w h1 h2 => q_fSub va vb (x.add y) y w h1 h2 ((hx.add hy).mono (by decide)) (hy.mono (by decide))) (fun _ _ h => ofQ h)).b, ?_⟩
        refine ⟨fun _ _ F => gG F rfl rfl rfl rfl (arm_loadF rfl (F.k 3 (Value.pointer (some ⟨w.heap.size, 0, none⟩))) (V0.mono F.below)).b, ?_⟩
        refine ⟨fun _ _ F => gG F rfl rfl rfl rfl (arm_C2 rfl (enters Try.func16 rfl rfl) (F.f 15 rfl) (F.f 16 rfl) (fun va vb w h1 h2 => q_Same va vb ((x.add y).sub y) x w h1 h2 (((hx.add hy).sub hy).mono (by decide)) (hx.mono (by decide))) (fun _ _ h => by have h' : RetV _ _ _ _ := h; rw [S5.out] at h'; exact ofV h')).b, ?_⟩
        refine ⟨fun _ _ F => gG F rfl rfl rfl rfl (arm_not rfl (F.f 17 rfl)).b, ?_⟩
        refine ⟨fun _ _ F => gR rfl rfl (arm_pick rfl (F.f 12 rfl) (fun h => by cases h) (fun _ => (F.f 18 rfl))).b, ?_⟩
        exact trivial
      intro E' hE gp wp bp G Gs
      obtain rfl : E' = [] := by simpa [subs] using hE
      have e_19 : gp 19 = Value.bool false := G 19 96 _ (by simp) rfl
      clear G Gs hE
      simp only [lFiT4]
      simp only [qA, setD, qZ, qS, e_19]
      refine wpAny_done (by kernel_rfl) ?_ _
      go_wp2_with fail
      go_meet
      case rel => exact ⟨rfl, (V0.mono bp), (V1.mono bp), (V2.mono bp), (V7.mono bp), (V8.mono bp), (hb1.trans (bp.mono hb1.size))⟩
    case rest =>
    clear V0 V1 V2 V7 V8 hb1
    obtain ⟨rfl, V0, V1, V2, V7, V8, hb1⟩ := hcut
    go_upto_region 10 with (fail)
    go_cut [111] (fun s_111 wx => s_111 = Value.bool false ∧ VarQ wx w.heap.size x ∧ VarQ wx (w.heap.size + 1) y ∧ VarQ wx (w.heap.size + 2) z ∧ VarQ wx g7 (x.add y) ∧ VarQ wx g8 (x.mul y) ∧ Below w.heap.size w wx)
    case first =>
      refine tG Try.f9 10 (lFiT5 x) [] 12 0 ?_ ?_
      · refine ⟨fun _ _ F => gR rfl rfl (arm_loadF rfl (F.k 3 (Value.pointer (some ⟨w.heap.size, 0, none⟩))) (V0.mono F.below)).b, ?_⟩
        refine ⟨fun _ _ F => gR rfl rfl (arm_loadF rfl (F.k 3 (Value.pointer (some ⟨w.heap.size, 0, none⟩))) (V0.mono F.below)).b, ?_⟩
        refine ⟨fun _ _ F => gR rfl rfl (arm_C1 rfl (enters Try.func39 rfl rfl) (F.f 1 rfl) (fun va w h1 => q_fNeg va x w h1 (hx.mono (by decide))) (fun _ _ h => ofQ h)).b, ?_⟩
        refine ⟨fun _ _ F => gR rfl rfl (arm_C2 rfl (enters Try.func37 rfl rfl) (F.f 0 rfl) (F.f 2 rfl) (fun va vb w h1 h2 => q_fAdd va vb x (x.neg) w h1 h2 (hx.mono (by decide)) (hx.neg.mono (by decide))) (fun _ _ h => ofQ h)).b, ?_⟩
        refine ⟨fun _ _ F => gR rfl rfl (arm_C1 rfl (enters Try.func23 rfl rfl) Is.const (fun va w h1 => by have e_va : va = _ := h1; subst e_va; exact q_rInt 0 w (by decide) (by decide)) (fun _ _ h => ofQ h)).b, ?_⟩
        refine ⟨fun _ _ F => gR rfl rfl (arm_C2 rfl (enters Try.func16 rfl rfl) (F.f 3 rfl) (F.f 4 rfl) (fun va vb w h1 h2 => q_Same va vb (x.add (x.neg)) (Fq.ofInt 0) w h1 h2 ((hx.add hx.neg).mono (by decide)) ((ok_int (by decide) (by decide)).mono (by decide))) (fun _ _ h => by have h' : RetV _ _ _ _ := h; rw [S6.out] at h'; exact ofV h')).b, ?_⟩
        refine ⟨fun _ _ F => gR rfl rfl (arm_not rfl (F.f 5 rfl)).b, ?_⟩
        refine ⟨fun _ _ F => gR rfl rfl (arm_move (.inl rfl) (F.f 6 rfl)).b, ?_⟩
        refine ⟨fun _ _ F => gG F rfl rfl rfl rfl (arm_loadF rfl (F.k 3 (Value.pointer (some ⟨w.heap.size, 0, none⟩))) (V0.mono F.below)).b, ?_⟩
        refine ⟨fun _ _ F => gG F rfl rfl rfl rfl (arm_C1 rfl (enters Try.func23 rfl rfl) Is.const (fun va w h1 => by have e_va : va = _ := h1; subst e_va; exact q_rInt 1 w (by decide) (by decide)) (fun _ _ h => ofQ h)).b, ?_⟩
        refine ⟨fun _ _ F => gG F rfl rfl rfl rfl (arm_C2 rfl (enters Try.func38 rfl rfl) (F.f 8 rfl) (F.f 9 rfl) (fun va vb w h1 h2 => q_fMul va vb x (Fq.ofInt 1) w h1 h2 (hx.mono (by decide)) ((ok_int (by decide) (by decide)).mono (by decide))) (fun _ _ h => ofQ h)).b, ?_⟩
        refine ⟨fun _ _ F => gG F rfl rfl rfl rfl (arm_loadF rfl (F.k 3 (Value.pointer (some ⟨w.heap.size, 0, none⟩))) (V0.mono F.below)).b, ?_⟩
        refine ⟨fun _ _ F => gG F rfl rfl rfl rfl (arm_C2 rfl (enters Try.func16 rfl rfl) (F.f 10 rfl) (F.f 11 rfl) (fun va vb w h1 h2 => q_Same va vb (x.mul (Fq.ofInt 1)) x w h1 h2 ((hx.mul (ok_int (by decide) (by decide))).mono (by decide)) (hx.mono (by decide))) (fun _ _ h => by have h' : RetV _ _ _ _ := h; rw [S7.out] at h'; exact ofV h')).b, ?_⟩
        refine ⟨fun _ _ F => gG F rfl rfl rfl rfl (arm_not rfl (F.f 12 rfl)).b, ?_⟩
        refine ⟨fun _ _ F => gR rfl rfl (arm_pick rfl (F.f 7 rfl) (fun h => by cases h) (fun _ => (F.f 13 rfl))).b, ?_⟩
        exact trivial
      intro E' hE gp wp bp G Gs
      obtain rfl : E' = [] := by simpa [subs] using hE
      have e_14 : gp 14 = Value.bool false := G 14 111 _ (by simp) rfl
      clear G Gs hE
      simp only [lFiT5]
      simp only [qA, setD, qZ, qS, e_14]
      refine wpAny_done (by kernel_rfl) ?_ _
      go_wp2_with fail
      go_meet
      case rel => exact ⟨rfl, (V0.mono bp), (V1.mono bp), (V2.mono bp), (V7.mono bp), (V8.mono bp), (hb1.trans (bp.mono hb1.size))⟩
    case rest =>
    clear V0 V1 V2 V7 V8 hb1
    obtain ⟨rfl, V0, V1, V2, V7, V8, hb1⟩ := hcut
    go_upto_region 12 with (fail)
    go_cut [9, 10] (fun s_9 s_10 wx => ∃ g9, s_9 = Value.pointer (some ⟨g9, 0, none⟩) ∧ s_10 = Value.int IntKind.i64 8 ∧ w.heap.size + 3 ≤ g9 ∧ g7 < g9 ∧ g8 < g9 ∧ VarQ wx g9 Fq.zero ∧ VarQ wx w.heap.size x ∧ VarQ wx (w.heap.size + 1) y ∧ VarQ wx (w.heap.size + 2) z ∧ VarQ wx g7 (x.add y) ∧ VarQ wx g8 (x.mul y) ∧ Below w.heap.size w wx)
    case first =>
      obtain ⟨base, hbase0⟩ : ∃ b : Nat, Hid (b = wc.heap.size) := ⟨_, Lib.hid rfl⟩
      have hbase : base ≤ wc.heap.size := by rw [hbase0.out]; exact Nat.le_refl _
      have hbw : w.heap.size + 3 ≤ base := by have := hb1.size; have h1 := V2.lt; rw [hbase0.out]; omega
      have l_V0 : w.heap.size < base := by rw [hbase0.out]; exact V0.lt
      have l_V1 : w.heap.size + 1 < base := by rw [hbase0.out]; exact V1.lt
      have l_V2 : w.heap.size + 2 < base := by rw [hbase0.out]; exact V2.lt
      have l_V7 : g7 < base := by rw [hbase0.out]; exact V7.lt
      have l_V8 : g8 < base := by rw [hbase0.out]; exact V8.lt
      refine wp_tabGF Try.f9 12 (lFiT6 x y base) [5] (fun i => i == 6) 6 2 (by kernel_rfl) (by kernel_rfl) (by kernel_rfl) (by kernel_rfl) (by kernel_rfl) ⟨fun h => (by cases h), ⟨fun h => (by cases h), ⟨fun h => (by cases h), ⟨fun h => (by cases h), ⟨fun h => (by cases h), ⟨fun h => (by cases h), ⟨fun _ w v h => Sp.varF_lt h, trivial⟩⟩⟩⟩⟩⟩⟩ ?_ ?_
      · refine ⟨fun _ _ F => gR rfl rfl (arm_loadF rfl (F.k 8 (Value.pointer (some ⟨g8, 0, none⟩))) (V8.mono F.below)).b, ?_⟩
        refine ⟨fun _ _ F => gR rfl rfl (arm_loadF rfl (F.k 4 (Value.pointer (some ⟨w.heap.size + 1, 0, none⟩))) (V1.mono F.below)).b, ?_⟩
        refine ⟨fun _ _ F => gR rfl rfl (arm_C2 rfl (enters Try.func40 rfl rfl) (F.f 0 rfl) (F.f 1 rfl) (fun va vb w h1 h2 => q_fDiv0 va vb (x.mul y) y w h1 h2 ((hx.mul hy).mono (by decide)) (hy.mono (by decide)) P0.out) (fun _ _ h => ofQE h)).b, ?_⟩
        refine ⟨fun _ _ F => gR rfl rfl (arm_move (.inl rfl) (F.f 2 rfl)).b, ?_⟩
        refine ⟨fun _ _ F => gR rfl rfl (arm_pair0 rfl (F.f 3 rfl)).b, ?_⟩
        refine ⟨fun _ _ F => gR rfl rfl (arm_pair1 rfl (F.f 3 rfl)).b, ?_⟩
        refine ⟨fun _ _ F => gR rfl rfl (arm_allocF rfl (Nat.le_trans hbase F.below.size)), ?_⟩
        exact trivial
      intro E' hE gp wp bp G Gs
      simp only [subs, List.map_cons, List.map_nil, List.nil_append, List.cons_append, List.mem_cons, List.not_mem_nil, or_false, List.append_nil] at hE
      rcases hE with rfl | rfl
      · obtain ⟨g9, e_6, lg_6, hv_6⟩ := G 6 9 _ (by simp) rfl
        have n_4 : (Sp.fq Fq.zero).p wp (gp 4) := G 4 116 _ (by simp) rfl
        have e_5 : gp 5 = Value.int IntKind.i64 8 := G 5 117 _ (by simp) rfl
        clear G Gs
        simp only [lFiT6]
        simp only [qA, setD, qZ, qS, e_6, e_5]
        have T0 := hv_6
        refine wpAny_storeFr (j := 7) (by kernel_rfl) rfl rfl rfl rfl rfl n_4 T0.any ?_
        intro w0 u0 v0
        have O0 := T0.own
        refine wpAny_takeD (i := 8) (d := some 10) (v := Value.int IntKind.i64 8) rfl rfl (by kernel_rfl) (by kernel_rfl) (by kernel_rfl) (fun _ _ _ h => h) (Or.inl ⟨by rfl, fun w => by rfl⟩) ?_
        try simp only [qP, qZ, qS]
        refine wpAny_done (by kernel_rfl) ?_ _
        go_wp2_with fail
        go_meet
        case rel => exact ⟨g9, rfl, rfl, (by omega), (by omega), (by omega), v0, ((V0.mono bp).upd O0 u0 (by omega)), ((V1.mono bp).upd O0 u0 (by omega)), ((V2.mono bp).upd O0 u0 (by omega)), ((V7.mono bp).upd O0 u0 (by omega)), ((V8.mono bp).upd O0 u0 (by omega)), (Upd.below (hb1.trans (bp.mono hb1.size)) u0 (by omega))⟩
      · obtain ⟨g9, e_6, lg_6, hv_6⟩ := G 6 9 _ (by simp) rfl
        obtain ⟨x_3_0, x_3_1, e_3, n_3_0, rfl⟩ := G 3 112 _ (by simp) rfl
        have n_4 : (Sp.fq Fq.zero).p wp (gp 4) := G 4 116 _ (by simp) rfl
        clear G Gs
        simp only [lFiT6]
        simp only [qA, setD, qZ, qS, e_6, e_3]
        refine wpAny_takeD (i := 5) (d := some 117) (v := Value.int IntKind.i64 8) rfl rfl (by kernel_rfl) (by kernel_rfl) (by kernel_rfl) (fun _ _ _ h => h) (Or.inl ⟨by rfl, fun w => by rfl⟩) ?_
        try simp only [qP, qZ, qS]
        have T0 := hv_6
        refine wpAny_storeFr (j := 7) (by kernel_rfl) rfl rfl rfl rfl rfl n_4 T0.any ?_
        intro w0 u0 v0
        have O0 := T0.own
        refine wpAny_takeD (i := 8) (d := some 10) (v := Value.int IntKind.i64 8) rfl rfl (by kernel_rfl) (by kernel_rfl) (by kernel_rfl) (fun _ _ _ h => h) (Or.inl ⟨by rfl, fun w => by rfl⟩) ?_
        try simp only [qP, qZ, qS]
        refine wpAny_done (by kernel_rfl) ?_ _
        go_wp2_with fail
        go_meet
        case rel => exact ⟨g9, rfl, rfl, (by omega), (by omega), (by omega), v0, ((V0.mono bp).upd O0 u0 (by omega)), ((V1.mono bp).upd O0 u0 (by omega)), ((V2.mono bp).upd O0 u0 (by omega)), ((V7.mono bp).upd O0 u0 (by omega)), ((V8.mono bp).upd O0 u0 (by omega)), (Upd.below (hb1.trans (bp.mono hb1.size)) u0 (by omega))⟩
    case rest =>
    clear V0 V1 V2 V7 V8 hb1
    obtain ⟨g9, rfl, rfl, lg9, d12_0, d12_1, V9, V0, V1, V2, V7, V8, hb1⟩ := hcut
    go_upto_region 13 with (fail)
    go_cut [120] (fun s_120 wx => s_120 = Value.bool true ∧ VarQ wx w.heap.size x ∧ VarQ wx (w.heap.size + 1) y ∧ VarQ wx (w.heap.size + 2) z ∧ VarQ wx g7 (x.add y) ∧ VarQ wx g8 (x.mul y) ∧ VarQ wx g9 Fq.zero ∧ Below w.heap.size w wx)
    case first =>
      refine tF Try.f9 13 (lFiT7 y) [] 3 0 ?_ ?_
      · refine ⟨fun _ _ F => gR rfl rfl (arm_loadF rfl (F.k 4 (Value.pointer (some ⟨w.heap.size + 1, 0, none⟩))) (V1.mono F.below)).b, ?_⟩
        refine ⟨fun _ _ F => gR rfl rfl (arm_C1 rfl (enters Try.func35 rfl rfl) (F.f 0 rfl) (fun va w h1 => q_fSign va y w h1 (hy.mono (by decide))) (fun _ _ h => by have h' : RetV _ _ _ _ := h; rw [g0.out] at h'; exact ofV h')).b, ?_⟩
        refine ⟨fun _ _ F => gR rfl rfl (arm_bin rfl (F.f 1 rfl) Is.const (fun _ => rfl) (fun _ => rfl)).b, ?_⟩
        exact trivial
      intro E' hE gp wp bp G Gs
      obtain rfl : E' = [] := by simpa [subs] using hE
      have e_2 : gp 2 = Value.bool true := G 2 120 _ (by simp) rfl
      clear G Gs hE
      simp only [lFiT7]
      simp only [qA, setD, qZ, qS, e_2]
      refine wpAny_done (by kernel_rfl) ?_ _
      go_wp2_with fail
      go_meet
      case rel => exact ⟨rfl, (V0.mono bp), (V1.mono bp), (V2.mono bp), (V7.mono bp), (V8.mono bp), (V9.mono bp), (hb1.trans (bp.mono hb1.size))⟩
    case rest =>
    clear V0 V1 V2 V7 V8 V9 hb1
    obtain ⟨rfl, V0, V1, V2, V7, V8, V9, hb1⟩ := hcut
    go_upto_region 14 with (fail)
    go_cut [6] (fun s_6 wx => s_6 = Value.bool true ∧ VarQ wx w.heap.size x ∧ VarQ wx (w.heap.size + 1) y ∧ VarQ wx (w.heap.size + 2) z ∧ VarQ wx g7 (x.add y) ∧ VarQ wx g8 (x.mul y) ∧ VarQ wx g9 Fq.zero ∧ Below w.heap.size w wx)
    case first =>
      refine tF Try.f9 14 (lFiT8 ) [] 6 0 ?_ ?_
      · refine ⟨fun _ _ F => gR rfl rfl (arm_move (.inl rfl) (F.k 10 (Value.int IntKind.i64 8))).b, ?_⟩
        refine ⟨fun _ _ F => gR rfl rfl (arm_bin rfl (F.f 0 rfl) Is.const (fun _ => rfl) (fun _ => rfl)).b, ?_⟩
        refine ⟨fun _ _ F => gR rfl rfl (arm_move (.inl rfl) (F.f 1 rfl)).b, ?_⟩
        refine ⟨fun _ _ F => gG F rfl rfl rfl rfl (arm_C0 rfl (enters Try.func11 rfl rfl)  (fun w => c_awake2 w) (fun _ _ h => ofV h)).b, ?_⟩
        refine ⟨fun _ _ F => gR rfl rfl (arm_pick rfl (F.f 2 rfl) (fun _ => (F.f 3 rfl)) (fun h => by cases h)).b, ?_⟩
        refine ⟨fun _ _ F => gR rfl rfl (arm_move (.inr rfl) (F.f 4 rfl)).b, ?_⟩
        exact trivial
      intro E' hE gp wp bp G Gs
      obtain rfl : E' = [] := by simpa [subs] using hE
      have e_5 : gp 5 = Value.bool true := G 5 6 _ (by simp) rfl
      clear G Gs hE
      simp only [lFiT8]
      simp only [qA, setD, qZ, qS, e_5]
      refine wpAny_done (by kernel_rfl) ?_ _
      go_wp2_with fail
      go_meet
      case rel => exact ⟨rfl, (V0.mono bp), (V1.mono bp), (V2.mono bp), (V7.mono bp), (V8.mono bp), (V9.mono bp), (hb1.trans (bp.mono hb1.size))⟩
    case rest =>
    clear V0 V1 V2 V7 V8 V9 hb1
    obtain ⟨rfl, V0, V1, V2, V7, V8, V9, hb1⟩ := hcut
    go_wp2
    go_ret
    exact ⟨rfl, hb1⟩
  · have g0 : y.sgn ≠ 0 := by unfold Fq.sgn; rw [if_neg h0]; split <;> decide
    obtain ⟨k, hk⟩ : ∃ k, Hid (y.sgn = k) := ⟨_, Lib.hid rfl⟩
    have G0 : Hid (false = (k == 0)) := Lib.hid (by rw [← hk.out]; symm; simpa using g0)
    have P0 := Lib.hid h0
    have S9 : Hid (((x.mul y).div y).same x = true) := Lib.hid (same_of (f_divMul ex ey h0))
    clear h0 g0
    obtain ⟨a0, c0, b0, d0, rfl, m0, k0⟩ := boxF ix
    obtain ⟨a1, c1, b1, d1, rfl, m1, k1⟩ := boxF (iy.mono m0)
    rw [World.size_alloc ] at k1
    have n1 := m0.trans (m1.mono m0.size)
    obtain ⟨a2, c2, b2, d2, rfl, m2, k2⟩ := boxF (iz.mono n1)
    rw [World.size_alloc, World.size_alloc ] at k2
    have n2 := n1.trans (m2.mono n1.size)
    clear ix iy iz
    go_enter Try.func9, Try.ntmps9
    go_upto_region 0 with (fail)
    go_cut [3, 4, 5, 6] (fun s_3 s_4 s_5 s_6 wx => s_3 = Value.pointer (some ⟨w.heap.size, 0, none⟩) ∧ s_4 = Value.pointer (some ⟨w.heap.size + 1, 0, none⟩) ∧ s_5 = Value.pointer (some ⟨w.heap.size + 2, 0, none⟩) ∧ s_6 = Value.bool false ∧ VarQ wx w.heap.size x ∧ VarQ wx (w.heap.size + 1) y ∧ VarQ wx (w.heap.size + 2) z ∧ Below w.heap.size w wx)
    case first =>
      go_wp2_with fail
      go_meet
      case rel => exact ⟨rfl, rfl, rfl, rfl, ((k0.mono m1).mono m2), (k1.mono m2), k2, n2⟩
    case rest =>
    clear m0 k0 m1 k1 m2 k2 n1 n2
    obtain ⟨rfl, rfl, rfl, rfl, V0, V1, V2, hb1⟩ := hcut
    go_upto_region 1 with (fail)
    go_cut [23] (fun s_23 wx => s_23 = Value.bool false ∧ VarQ wx w.heap.size x ∧ VarQ wx (w.heap.size + 1) y ∧ VarQ wx (w.heap.size + 2) z ∧ Below w.heap.size w wx)
    case first =>
      refine tF Try.f9 1 (lFiT9 x y z) [] 13 0 ?_ ?_
      · refine ⟨fun _ _ F => gR rfl rfl (arm_loadF rfl (F.k 3 (Value.pointer (some ⟨w.heap.size, 0, none⟩))) (V0.mono F.below)).b, ?_⟩
        refine ⟨fun _ _ F => gR rfl rfl (arm_C1 rfl (enters Try.func18 rfl rfl) (F.f 0 rfl) (fun va w h1 => q_fitQ va x w h1 hx ex) (fun _ _ h => ofV h)).b, ?_⟩
        refine ⟨fun _ _ F => gR rfl rfl (arm_not rfl (F.f 1 rfl)).b, ?_⟩
        refine ⟨fun _ _ F => gR rfl rfl (arm_move (.inl rfl) (F.f 2 rfl)).b, ?_⟩
        refine ⟨fun _ _ F => gG F rfl rfl rfl rfl (arm_loadF rfl (F.k 4 (Value.pointer (some ⟨w.heap.size + 1, 0, none⟩))) (V1.mono F.below)).b, ?_⟩
        refine ⟨fun _ _ F => gG F rfl rfl rfl rfl (arm_C1 rfl (enters Try.func18 rfl rfl) (F.f 4 rfl) (fun va w h1 => q_fitQ va y w h1 hy ey) (fun _ _ h => ofV h)).b, ?_⟩
        refine ⟨fun _ _ F => gG F rfl rfl rfl rfl (arm_not rfl (F.f 5 rfl)).b, ?_⟩
        refine ⟨fun _ _ F => gR rfl rfl (arm_pick rfl (F.f 3 rfl) (fun h => by cases h) (fun _ => (F.f 6 rfl))).b, ?_⟩
        refine ⟨fun _ _ F => gR rfl rfl (arm_move (.inl rfl) (F.f 7 rfl)).b, ?_⟩
        refine ⟨fun _ _ F => gG F rfl rfl rfl rfl (arm_loadF rfl (F.k 5 (Value.pointer (some ⟨w.heap.size + 2, 0, none⟩))) (V2.mono F.below)).b, ?_⟩
        refine ⟨fun _ _ F => gG F rfl rfl rfl rfl (arm_C1 rfl (enters Try.func18 rfl rfl) (F.f 9 rfl) (fun va w h1 => q_fitQ va z w h1 hz ez) (fun _ _ h => ofV h)).b, ?_⟩
        refine ⟨fun _ _ F => gG F rfl rfl rfl rfl (arm_not rfl (F.f 10 rfl)).b, ?_⟩
        refine ⟨fun _ _ F => gR rfl rfl (arm_pick rfl (F.f 8 rfl) (fun h => by cases h) (fun _ => (F.f 11 rfl))).b, ?_⟩
        exact trivial
      intro E' hE gp wp bp G Gs
      obtain rfl : E' = [] := by simpa [subs] using hE
      have e_12 : gp 12 = Value.bool false := G 12 23 _ (by simp) rfl
      clear G Gs hE
      simp only [lFiT9]
      simp only [qA, setD, qZ, qS, e_12]
      refine wpAny_done (by kernel_rfl) ?_ _
      go_wp2_with fail
      go_meet
      case rel => exact ⟨rfl, (V0.mono bp), (V1.mono bp), (V2.mono bp), (hb1.trans (bp.mono hb1.size))⟩
    case rest =>
    clear V0 V1 V2 hb1
    obtain ⟨rfl, V0, V1, V2, hb1⟩ := hcut
    go_upto_region 3 with (fail)
    go_cut [7, 8] (fun s_7 s_8 wx => ∃ g7 g8, s_7 = Value.pointer (some ⟨g7, 0, none⟩) ∧ s_8 = Value.pointer (some ⟨g8, 0, none⟩) ∧ w.heap.size + 3 ≤ g7 ∧ w.heap.size + 3 ≤ g8 ∧ g7 ≠ g8 ∧ VarQ wx g7 (x.add y) ∧ VarQ wx g8 (x.mul y) ∧ VarQ wx w.heap.size x ∧ VarQ wx (w.heap.size + 1) y ∧ VarQ wx (w.heap.size + 2) z ∧ Below w.heap.size w wx)
    case first =>
      obtain ⟨base, hbase0⟩ : ∃ b : Nat, Hid (b = wc.heap.size) := ⟨_, Lib.hid rfl⟩
      have hbase : base ≤ wc.heap.size := by rw [hbase0.out]; exact Nat.le_refl _
      have hbw : w.heap.size + 3 ≤ base := by have := hb1.size; have h1 := V2.lt; rw [hbase0.out]; omega
      have l_V0 : w.heap.size < base := by rw [hbase0.out]; exact V0.lt
      have l_V1 : w.heap.size + 1 < base := by rw [hbase0.out]; exact V1.lt
      have l_V2 : w.heap.size + 2 < base := by rw [hbase0.out]; exact V2.lt
      refine wp_tabG Try.f9 3 (lFiT10 x y base) [] (fun i => i == 6 || i == 7) 5 2 (by kernel_rfl) (by kernel_rfl) (by kernel_rfl) (by kernel_rfl) (by kernel_rfl) ⟨fun h => (by cases h), ⟨fun h => (by cases h), ⟨fun h => (by cases h), ⟨fun h => (by cases h), ⟨fun h => (by cases h), ⟨fun h => (by cases h), ⟨fun _ w v h => Sp.varF_lt h, ⟨fun _ w v h => Sp.varF_lt h, trivial⟩⟩⟩⟩⟩⟩⟩⟩ ?_ ?_
      · refine ⟨fun _ _ F => gR rfl rfl (arm_loadF rfl (F.k 3 (Value.pointer (some ⟨w.heap.size, 0, none⟩))) (V0.mono F.below)).b, ?_⟩
        refine ⟨fun _ _ F => gR rfl rfl (arm_loadF rfl (F.k 4 (Value.pointer (some ⟨w.heap.size + 1, 0, none⟩))) (V1.mono F.below)).b, ?_⟩
        refine ⟨fun _ _ F => gR rfl rfl (arm_C2 rfl (enters Try.func37 rfl rfl) (F.f 0 rfl) (F.f 1 rfl) (fun va vb w h1 h2 => q_fAdd va vb x y w h1 h2 (hx.mono (by decide)) (hy.mono (by decide))) (fun _ _ h => ofQ h)).b, ?_⟩
        refine ⟨fun _ _ F => gR rfl rfl (arm_loadF rfl (F.k 3 (Value.pointer (some ⟨w.heap.size, 0, none⟩))) (V0.mono F.below)).b, ?_⟩
        refine ⟨fun _ _ F => gR rfl rfl (arm_loadF rfl (F.k 4 (Value.pointer (some ⟨w.heap.size + 1, 0, none⟩))) (V1.mono F.below)).b, ?_⟩
        refine ⟨fun _ _ F => gR rfl rfl (arm_C2 rfl (enters Try.func38 rfl rfl) (F.f 3 rfl) (F.f 4 rfl) (fun va vb w h1 h2 => q_fMul va vb x y w h1 h2 (hx.mono (by decide)) (hy.mono (by decide))) (fun _ _ h => ofQ h)).b, ?_⟩
        refine ⟨fun _ _ F => gR rfl rfl (arm_allocF rfl (Nat.le_trans hbase F.below.size)), ?_⟩
        refine ⟨fun _ _ F => gR rfl rfl (arm_allocF rfl (Nat.le_trans hbase F.below.size)), ?_⟩
        exact trivial
      intro E' hE gp wp bp G Gs
      obtain rfl : E' = [] := by simpa [subs] using hE
      obtain ⟨g7, e_6, lg_6, hv_6⟩ := G 6 7 _ (by simp) rfl
      obtain ⟨g8, e_7, lg_7, hv_7⟩ := G 7 8 _ (by simp) rfl
      have n_2 : (Sp.fq (x.add y)).p wp (gp 2) := G 2 27 _ (by simp) rfl
      have n_5 : (Sp.fq (x.mul y)).p wp (gp 5) := G 5 30 _ (by simp) rfl
      have ne_6_7 : g7 ≠ g8 := by have h := Gs 6 7 rfl rfl (by simp) (by simp) rfl rfl (by decide); rw [e_6, e_7] at h; exact h
      clear G Gs hE
      simp only [lFiT10]
      simp only [qA, setD, qZ, qS, e_6, e_7]
      have T0 := hv_6
      refine wpAny_storeFr (j := 8) (by kernel_rfl) rfl rfl rfl rfl rfl n_2 T0.any ?_
      intro w0 u0 v0
      have O0 := T0.own
      have T1 := (hv_7.upd O0 u0 (by omega))
      refine wpAny_storeFr (j := 9) (by kernel_rfl) rfl rfl rfl rfl rfl (n_5.upd O0 u0) T1.any ?_
      intro w1 u1 v1
      have O1 := T1.own
      refine wpAny_done (by kernel_rfl) ?_ _
      go_wp2_with fail
      go_meet
      case rel => exact ⟨g7, g8, rfl, rfl, (by omega), (by omega), (by omega), (v0.upd O1 u1 (by omega)), v1, (((V0.mono bp).upd O0 u0 (by omega)).upd O1 u1 (by omega)), (((V1.mono bp).upd O0 u0 (by omega)).upd O1 u1 (by omega)), (((V2.mono bp).upd O0 u0 (by omega)).upd O1 u1 (by omega)), (Upd.below (Upd.below (hb1.trans (bp.mono hb1.size)) u0 (by omega)) u1 (by omega))⟩
    case rest =>
    clear V0 V1 V2 hb1
    obtain ⟨g7, g8, rfl, rfl, lg7, lg8, d3_0, V7, V8, V0, V1, V2, hb1⟩ := hcut
    go_upto_region 4 with (fail)
    go_cut [54] (fun s_54 wx => s_54 = Value.bool false ∧ VarQ wx w.heap.size x ∧ VarQ wx (w.heap.size + 1) y ∧ VarQ wx (w.heap.size + 2) z ∧ VarQ wx g7 (x.add y) ∧ VarQ wx g8 (x.mul y) ∧ Below w.heap.size w wx)
    case first =>
      refine tG Try.f9 4 (lFiT11 x y) [] 20 0 ?_ ?_
      · refine ⟨fun _ _ F => gR rfl rfl (arm_loadF rfl (F.k 7 (Value.pointer (some ⟨g7, 0, none⟩))) (V7.mono F.below)).b, ?_⟩
        refine ⟨fun _ _ F => gR rfl rfl (arm_C1 rfl (enters Try.func13 rfl rfl) (F.f 0 rfl) (fun va w h1 => q_rValid va (x.add y) w h1 ((hx.add hy).mono (by decide)).p ((hx.add hy).mono (by decide)).q) (fun _ _ h => by have h' : RetV _ _ _ _ := h; rw [(add_valid ex ey)] at h'; exact ofV h')).b, ?_⟩
        refine ⟨fun _ _ F => gR rfl rfl (arm_not rfl (F.f 1 rfl)).b, ?_⟩
        refine ⟨fun _ _ F => gR rfl rfl (arm_move (.inl rfl) (F.f 2 rfl)).b, ?_⟩
        refine ⟨fun _ _ F => gG F rfl rfl rfl rfl (arm_loadF rfl (F.k 8 (Value.pointer (some ⟨g8, 0, none⟩))) (V8.mono F.below)).b, ?_⟩
        refine ⟨fun _ _ F => gG F rfl rfl rfl rfl (arm_C1 rfl (enters Try.func13 rfl rfl) (F.f 4 rfl) (fun va w h1 => q_rValid va (x.mul y) w h1 ((hx.mul hy).mono (by decide)).p ((hx.mul hy).mono (by decide)).q) (fun _ _ h => by have h' : RetV _ _ _ _ := h; rw [(mul_valid ex ey)] at h'; exact ofV h')).b, ?_⟩
        refine ⟨fun _ _ F => gG F rfl rfl rfl rfl (arm_not rfl (F.f 5 rfl)).b, ?_⟩
        refine ⟨fun _ _ F => gR rfl rfl (arm_pick rfl (F.f 3 rfl) (fun h => by cases h) (fun _ => (F.f 6 rfl))).b, ?_⟩
        refine ⟨fun _ _ F => gR rfl rfl (arm_move (.inl rfl) (F.f 7 rfl)).b, ?_⟩
        refine ⟨fun _ _ F => gG F rfl rfl rfl rfl (arm_loadF rfl (F.k 7 (Value.pointer (some ⟨g7, 0, none⟩))) (V7.mono F.below)).b, ?_⟩
        refine ⟨fun _ _ F => gG F rfl rfl rfl rfl (arm_loadF rfl (F.k 4 (Value.pointer (some ⟨w.heap.size + 1, 0, none⟩))) (V1.mono F.below)).b, ?_⟩
        refine ⟨fun _ _ F => gG F rfl rfl rfl rfl (arm_loadF rfl (F.k 3 (Value.pointer (some ⟨w.heap.size, 0, none⟩))) (V0.mono F.below)).b, ?_⟩
        refine ⟨fun _ _ F => gG F rfl rfl rfl rfl (arm_C2 rfl (enters Try.func37 rfl rfl) (F.f 10 rfl) (F.f 11 rfl) (fun va vb w h1 h2 => q_fAdd va vb y x w h1 h2 (hy.mono (by decide)) (hx.mono (by decide))) (fun _ _ h => ofQ h)).b, ?_⟩
        refine ⟨fun _ _ F => gG F rfl rfl rfl rfl (arm_C2 rfl (enters Try.func16 rfl rfl) (F.f 9 rfl) (F.f 12 rfl) (fun va vb w h1 h2 => q_Same va vb (x.add y) (y.add x) w h1 h2 ((hx.add hy).mono (by decide)) ((hy.add hx).mono (by decide))) (fun _ _ h => by have h' : RetV _ _ _ _ := h; rw [S0.out] at h'; exact ofV h')).b, ?_⟩
        refine ⟨fun _ _ F => gG F rfl rfl rfl rfl (arm_not rfl (F.f 13 rfl)).b, ?_⟩
        refine ⟨fun _ _ F => gR rfl rfl (arm_pick rfl (F.f 8 rfl) (fun h => by cases h) (fun _ => (F.f 14 rfl))).b, ?_⟩
        refine ⟨fun _ _ F => gR rfl rfl (arm_move (.inl rfl) (F.f 15 rfl)).b, ?_⟩
        refine ⟨fun _ _ F => gG F rfl rfl rfl rfl (arm_loadF rfl (F.k 8 (Value.pointer (some ⟨g8, 0, none⟩))) (V8.mono F.below)).b, ?_⟩
        refine ⟨fun _ _ F => gG F rfl rfl rfl rfl (arm_loadF rfl (F.k 4 (Value.pointer (some ⟨w.heap.size + 1, 0, none⟩))) (V1.mono F.below)).b, ?_⟩
        refine ⟨fun _ _ F => gG F rfl rfl rfl rfl (arm_loadF rfl (F.k 3 (Value.pointer (some ⟨w.heap.size, 0, none⟩))) (V0.mono F.below)).b, ?_⟩
        refine ⟨fun _ _ F => gG F rfl rfl rfl rfl (arm_C2 rfl (enters Try.func38 rfl rfl) (F.f 18 rfl) (F.f 19 rfl) (fun va vb w h1 h2 => q_fMul va vb y x w h1 h2 (hy.mono (by decide)) (hx.mono (by decide))) (fun _ _ h => ofQ h)).b, ?_⟩
        refine ⟨fun _ _ F => gG F rfl rfl rfl rfl (arm_C2 rfl (enters Try.func16 rfl rfl) (F.f 17 rfl) (F.f 20 rfl) (fun va vb w h1 h2 => q_Same va vb (x.mul y) (y.mul x) w h1 h2 ((hx.mul hy).mono (by decide)) ((hy.mul hx).mono (by decide))) (fun _ _ h => by have h' : RetV _ _ _ _ := h; rw [S1.out] at h'; exact ofV h')).b, ?_⟩
        refine ⟨fun _ _ F => gG F rfl rfl rfl rfl (arm_not rfl (F.f 21 rfl)).b, ?_⟩
        refine ⟨fun _ _ F => gR rfl rfl (arm_pick rfl (F.f 16 rfl) (fun h => by cases h) (fun _ => (F.f 22 rfl))).b, ?_⟩
        exact trivial
      intro E' hE gp wp bp G Gs
      obtain rfl : E' = [] := by simpa [subs] using hE
      have e_23 : gp 23 = Value.bool false := G 23 54 _ (by simp) rfl
      clear G Gs hE
      simp only [lFiT11]
      simp only [qA, setD, qZ, qS, e_23]
      refine wpAny_done (by kernel_rfl) ?_ _
      go_wp2_with fail
      go_meet
      case rel => exact ⟨rfl, (V0.mono bp), (V1.mono bp), (V2.mono bp), (V7.mono bp), (V8.mono bp), (hb1.trans (bp.mono hb1.size))⟩
    case rest =>
    clear V0 V1 V2 V7 V8 hb1
    obtain ⟨rfl, V0, V1, V2, V7, V8, hb1⟩ := hcut
    go_upto_region 6 with (fail)
    go_cut [76] (fun s_76 wx => s_76 = Value.bool false ∧ VarQ wx w.heap.size x ∧ VarQ wx (w.heap.size + 1) y ∧ VarQ wx (w.heap.size + 2) z ∧ VarQ wx g7 (x.add y) ∧ VarQ wx g8 (x.mul y) ∧ Below w.heap.size w wx)
    case first =>
      refine tG Try.f9 6 (lFiT12 x y z) [] 14 0 ?_ ?_
      · refine ⟨fun _ _ F => gR rfl rfl (arm_loadF rfl (F.k 7 (Value.pointer (some ⟨g7, 0, none⟩))) (V7.mono F.below)).b, ?_⟩
        refine ⟨fun _ _ F => gR rfl rfl (arm_loadF rfl (F.k 5 (Value.pointer (some ⟨w.heap.size + 2, 0, none⟩))) (V2.mono F.below)).b, ?_⟩
        refine ⟨fun _ _ F => gR rfl rfl (arm_C2 rfl (enters Try.func37 rfl rfl) (F.f 0 rfl) (F.f 1 rfl) (fun va vb w h1 h2 => q_fAdd va vb (x.add y) z w h1 h2 ((hx.add hy).mono (by decide)) (hz.mono (by decide))) (fun _ _ h => ofQ h)).b, ?_⟩
        refine ⟨fun _ _ F => gR rfl rfl (arm_loadF rfl (F.k 3 (Value.pointer (some ⟨w.heap.size, 0, none⟩))) (V0.mono F.below)).b, ?_⟩
        refine ⟨fun _ _ F => gR rfl rfl (arm_loadF rfl (F.k 4 (Value.pointer (some ⟨w.heap.size + 1, 0, none⟩))) (V1.mono F.below)).b, ?_⟩
        refine ⟨fun _ _ F => gR rfl rfl (arm_loadF rfl (F.k 5 (Value.pointer (some ⟨w.heap.size + 2, 0, none⟩))) (V2.mono F.below)).b, ?_⟩
        refine ⟨fun _ _ F => gR rfl rfl (arm_C2 rfl (enters Try.func37 rfl rfl) (F.f 4 rfl) (F.f 5 rfl) (fun va vb w h1 h2 => q_fAdd va vb y z w h1 h2 (hy.mono (by decide)) (hz.mono (by decide))) (fun _ _ h => ofQ h)).b, ?_⟩
        refine ⟨fun _ _ F => gR rfl rfl (arm_C2 rfl (enters Try.func37 rfl rfl) (F.f 3 rfl) (F.f 6 rfl) (fun va vb w h1 h2 => q_fAdd va vb x (y.add z) w h1 h2 (hx.mono (by decide)) ((hy.add hz).mono (by decide))) (fun _ _ h => ofQ h)).b, ?_⟩
        refine ⟨fun _ _ F => gR rfl rfl (arm_C2 rfl (enters Try.func16 rfl rfl) (F.f 2 rfl) (F.f 7 rfl) (fun va vb w h1 h2 => q_Same va vb ((x.add y).add z) (x.add (y.add z)) w h1 h2 (((hx.add hy).add hz).mono (by decide)) ((hx.add (hy.add hz)).mono (by decide))) (fun _ _ h => by have h' : RetV _ _ _ _ := h; rw [S2.out] at h'; exact ofV h')).b, ?_⟩
        refine ⟨fun _ _ F => gR rfl rfl (arm_not rfl (F.f 8 rfl)).b, ?_⟩
        refine ⟨fun _ _ F => gR rfl rfl (arm_move (.inl rfl) (F.f 9 rfl)).b, ?_⟩
        refine ⟨fun _ _ F => gG F rfl rfl rfl rfl (arm_loadF rfl (F.k 8 (Value.pointer (some ⟨g8, 0, none⟩))) (V8.mono F.below)).b, ?_⟩
        refine ⟨fun _ _ F => gG F rfl rfl rfl rfl (arm_loadF rfl (F.k 5 (Value.pointer (some ⟨w.heap.size + 2, 0, none⟩))) (V2.mono F.below)).b, ?_⟩
        refine ⟨fun _ _ F => gG F rfl rfl rfl rfl (arm_C2 rfl (enters Try.func38 rfl rfl) (F.f 11 rfl) (F.f 12 rfl) (fun va vb w h1 h2 => q_fMul va vb (x.mul y) z w h1 h2 ((hx.mul hy).mono (by decide)) (hz.mono (by decide))) (fun _ _ h => ofQ h)).b, ?_⟩
        refine ⟨fun _ _ F => gG F rfl rfl rfl rfl (arm_loadF rfl (F.k 3 (Value.pointer (some ⟨w.heap.size, 0, none⟩))) (V0.mono F.below)).b, ?_⟩
        refine ⟨fun _ _ F => gG F rfl rfl rfl rfl (arm_loadF rfl (F.k 4 (Value.pointer (some ⟨w.heap.size + 1, 0, none⟩))) (V1.mono F.below)).b, ?_⟩
        refine ⟨fun _ _ F => gG F rfl rfl rfl rfl (arm_loadF rfl (F.k 5 (Value.pointer (some ⟨w.heap.size + 2, 0, none⟩))) (V2.mono F.below)).b, ?_⟩
        refine ⟨fun _ _ F => gG F rfl rfl rfl rfl (arm_C2 rfl (enters Try.func38 rfl rfl) (F.f 15 rfl) (F.f 16 rfl) (fun va vb w h1 h2 => q_fMul va vb y z w h1 h2 (hy.mono (by decide)) (hz.mono (by decide))) (fun _ _ h => ofQ h)).b, ?_⟩
        refine ⟨fun _ _ F => gG F rfl rfl rfl rfl (arm_C2 rfl (enters Try.func38 rfl rfl) (F.f 14 rfl) (F.f 17 rfl) (fun va vb w h1 h2 => q_fMul va vb x (y.mul z) w h1 h2 (hx.mono (by decide)) ((hy.mul hz).mono (by decide))) (fun _ _ h => ofQ h)).b, ?_⟩
        refine ⟨fun _ _ F => gG F rfl rfl rfl rfl (arm_C2 rfl (enters Try.func16 rfl rfl) (F.f 13 rfl) (F.f 18 rfl) (fun va vb w h1 h2 => q_Same va vb ((x.mul y).mul z) (x.mul (y.mul z)) w h1 h2 (((hx.mul hy).mul hz).mono (by decide)) ((hx.mul (hy.mul hz)).mono (by decide))) (fun _ _ h => by have h' : RetV _ _ _ _ := h; rw [S3.out] at h'; exact ofV h')).b, ?_⟩
        refine ⟨fun _ _ F => gG F rfl rfl rfl rfl (arm_not rfl (F.f 19 rfl)).b, ?_⟩
        refine ⟨fun _ _ F => gR rfl rfl (arm_pick rfl (F.f 10 rfl) (fun h => by cases h) (fun _ => (F.f 20 rfl))).b, ?_⟩
        exact trivial
      intro E' hE gp wp bp G Gs
      obtain rfl : E' = [] := by simpa [subs] using hE
      have e_21 : gp 21 = Value.bool false := G 21 76 _ (by simp) rfl
      clear G Gs hE
      simp only [lFiT12]
      simp only [qA, setD, qZ, qS, e_21]
      refine wpAny_done (by kernel_rfl) ?_ _
      go_wp2_with fail
      go_meet
      case rel => exact ⟨rfl, (V0.mono bp), (V1.mono bp), (V2.mono bp), (V7.mono bp), (V8.mono bp), (hb1.trans (bp.mono hb1.size))⟩
    case rest =>
    clear V0 V1 V2 V7 V8 hb1
    obtain ⟨rfl, V0, V1, V2, V7, V8, hb1⟩ := hcut
    go_upto_region 8 with (fail)
    go_cut [96] (fun s_96 wx => s_96 = Value.bool false ∧ VarQ wx w.heap.size x ∧ VarQ wx (w.heap.size + 1) y ∧ VarQ wx (w.heap.size + 2) z ∧ VarQ wx g7 (x.add y) ∧ VarQ wx g8 (x.mul y) ∧ Below w.heap.size w wx)
    case first =>
      refine tG Try.f9 8 (lFiT13 x y z) [] 13 0 ?_ ?_
      · refine ⟨fun _ _ F => gR rfl rfl (arm_loadF rfl (F.k 7 (Value.pointer (some ⟨g7, 0, none⟩))) (V7.mono F.below)).b, ?_⟩
        refine ⟨fun _ _ F => gR rfl rfl (arm_loadF rfl (F.k 5 (Value.pointer (some ⟨w.heap.size + 2, 0, none⟩))) (V2.mono F.below)).b, ?_⟩
        refine ⟨fun _ _ F => gR rfl rfl (arm_C2 rfl (enters Try.func38 rfl rfl) (F.f 0 rfl) (F.f 1 rfl) (fun va vb w h1 h2 => q_fMul va vb (x.add y) z w h1 h2 ((hx.add hy).mono (by decide)) (hz.mono (by decide))) (fun _ _ h => ofQ h)).b, ?_⟩
        refine ⟨fun _ _ F => gR rfl rfl (arm_loadF rfl (F.k 3 (Value.pointer (some ⟨w.heap.size, 0, none⟩))) (V0.mono F.below)).b, ?_⟩
        refine ⟨fun _ _ F => gR rfl rfl (arm_loadF rfl (F.k 5 (Value.pointer (some ⟨w.heap.size + 2, 0, none⟩))) (V2.mono F.below)).b, ?_⟩
        refine ⟨fun _ _ F => gR rfl rfl (arm_C2 rfl (enters Try.func38 rfl rfl) (F.f 3 rfl) (F.f 4 rfl) (fun va vb w h1 h2 => q_fMul va vb x z w h1 h2 (hx.mono (by decide)) (hz.mono (by decide))) (fun _ _ h => ofQ h)).b, ?_⟩
        refine ⟨fun _ _ F => gR rfl rfl (arm_loadF rfl (F.k 4 (Value.pointer (some ⟨w.heap.size + 1, 0, none⟩))) (V1.mono F.below)).b, ?_⟩
        refine ⟨fun _ _ F => gR rfl rfl (arm_loadF rfl (F.k 5 (Value.pointer (some ⟨w.heap.size + 2, 0, none⟩))) (V2.mono F.below)).b, ?_⟩
        refine ⟨fun _ _ F => gR rfl rfl (arm_C2 rfl (enters Try.func38 rfl rfl) (F.f 6 rfl) (F.f 7 rfl) (fun va vb w h1 h2 => q_fMul va vb y z w h1 h2 (hy.mono (by decide)) (hz.mono (by decide))) (fun _ _ h => ofQ h)).b, ?_⟩
        refine ⟨fun _ _ F => gR rfl rfl (arm_C2 rfl (enters Try.func37 rfl rfl) (F.f 5 rfl) (F.f 8 rfl) (fun va vb w h1 h2 => q_fAdd va vb (x.mul z) (y.mul z) w h1 h2 ((hx.mul hz).mono (by decide)) ((hy.mul hz).mono (by decide))) (fun _ _ h => ofQ h)).b, ?_⟩
        refine ⟨fun _ _ F => gR rfl rfl (arm_C2 rfl (enters Try.func16 rfl rfl) (F.f 2 rfl) (F.f 9 rfl) (fun va vb w h1 h2 => q_Same va vb ((x.add y).mul z) ((x.mul z).add (y.mul z)) w h1 h2 (((hx.add hy).mul hz).mono (by decide)) (((hx.mul hz).add (hy.mul hz)).mono (by decide))) (fun _ _ h => by have h' : RetV _ _ _ _ := h; rw [S4.out] at h'; exact ofV h')).b, ?_⟩
        refine ⟨fun _ _ F => gR rfl rfl (arm_not rfl (F.f 10 rfl)).b, ?_⟩
        refine ⟨fun _ _ F => gR rfl rfl (arm_move (.inl rfl) (F.f 11 rfl)).b, ?_⟩
        refine ⟨fun _ _ F => gG F rfl rfl rfl rfl (arm_loadF rfl (F.k 7 (Value.pointer (some ⟨g7, 0, none⟩))) (V7.mono F.below)).b, ?_⟩
        refine ⟨fun _ _ F => gG F rfl rfl rfl rfl (arm_loadF rfl (F.k 4 (Value.pointer (some ⟨w.heap.size + 1, 0, none⟩))) (V1.mono F.below)).b, ?_⟩
        refine ⟨fun _ _ F => gG F rfl rfl rfl rfl (arm_C2 rfl (enters Try.func34 rfl rfl) (F.f 13 rfl) (F.f 14 rfl) (fun va vb w h1 h2 => q_fSub va vb (x.add y) y w h1 h2 ((hx.add hy).mono (by decide)) (hy.mono (by decide))) (fun _ _ h => ofQ h)).b, ?_⟩
        refine ⟨fun _ _ F => gG F rfl rfl rfl rfl (arm_loadF rfl (F.k 3 (Value.pointer (some ⟨w.heap.size, 0, none⟩))) (V0.mono F.below)).b, ?_⟩
        refine ⟨fun _ _ F => gG F rfl rfl rfl rfl (arm_C2 rfl (enters Try.func16 rfl rfl) (F.f 15 rfl) (F.f 16 rfl) (fun va vb w h1 h2 => q_Same va vb ((x.add y).sub y) x w h1 h2 (((hx.add hy).sub hy).mono (by decide)) (hx.mono (by decide))) (fun _ _ h => by have h' : RetV _ _ _ _ := h; rw [S5.out] at h'; exact ofV h')).b, ?_⟩
        refine ⟨fun _ _ F => gG F rfl rfl rfl rfl (arm_not rfl (F.f 17 rfl)).b, ?_⟩
        refine ⟨fun _ _ F => gR rfl rfl (arm_pick rfl (F.f 12 rfl) (fun h => by cases h) (fun _ => (F.f 18 rfl))).b, ?_⟩
        exact trivial
      intro E' hE gp wp bp G Gs
      obtain rfl : E' = [] := by simpa [subs] using hE
      have e_19 : gp 19 = Value.bool false := G 19 96 _ (by simp) rfl
      clear G Gs hE
      simp only [lFiT13]
      simp only [qA, setD, qZ, qS, e_19]
      refine wpAny_done (by kernel_rfl) ?_ _
      go_wp2_with fail
      go_meet
      case rel => exact ⟨rfl, (V0.mono bp), (V1.mono bp), (V2.mono bp), (V7.mono bp), (V8.mono bp), (hb1.trans (bp.mono hb1.size))⟩
    case rest =>
    clear V0 V1 V2 V7 V8 hb1
    obtain ⟨rfl, V0, V1, V2, V7, V8, hb1⟩ := hcut
    go_upto_region 10 with (fail)
    go_cut [111] (fun s_111 wx => s_111 = Value.bool false ∧ VarQ wx w.heap.size x ∧ VarQ wx (w.heap.size + 1) y ∧ VarQ wx (w.heap.size + 2) z ∧ VarQ wx g7 (x.add y) ∧ VarQ wx g8 (x.mul y) ∧ Below w.heap.size w wx)
    case first =>
      refine tG Try.f9 10 (lFiT14 x) [] 12 0 ?_ ?_
      · refine ⟨fun _ _ F => gR rfl rfl (arm_loadF rfl (F.k 3 (Value.pointer (some ⟨w.heap.size, 0, none⟩))) (V0.mono F.below)).b, ?_⟩
        refine ⟨fun _ _ F => gR rfl rfl (arm_loadF rfl (F.k 3 (Value.pointer (some ⟨w.heap.size, 0, none⟩))) (V0.mono F.below)).b, ?_⟩
        refine ⟨fun _ _ F => gR rfl rfl (arm_C1 rfl (enters Try.func39 rfl rfl) (F.f 1 rfl) (fun va w h1 => q_fNeg va x w h1 (hx.mono (by decide))) (fun _ _ h => ofQ h)).b, ?_⟩
        refine ⟨fun _ _ F => gR rfl rfl (arm_C2 rfl (enters Try.func37 rfl rfl) (F.f 0 rfl) (F.f 2 rfl) (fun va vb w h1 h2 => q_fAdd va vb x (x.neg) w h1 h2 (hx.mono (by decide)) (hx.neg.mono (by decide))) (fun _ _ h => ofQ h)).b, ?_⟩
        refine ⟨fun _ _ F => gR rfl rfl (arm_C1 rfl (enters Try.func23 rfl rfl) Is.const (fun va w h1 => by have e_va : va = _ := h1; subst e_va; exact q_rInt 0 w (by decide) (by decide)) (fun _ _ h => ofQ h)).b, ?_⟩
        refine ⟨fun _ _ F => gR rfl rfl (arm_C2 rfl (enters Try.func16 rfl rfl) (F.f 3 rfl) (F.f 4 rfl) (fun va vb w h1 h2 => q_Same va vb (x.add (x.neg)) (Fq.ofInt 0) w h1 h2 ((hx.add hx.neg).mono (by decide)) ((ok_int (by decide) (by decide)).mono (by decide))) (fun _ _ h => by have h' : RetV _ _ _ _ := h; rw [S6.out] at h'; exact ofV h')).b, ?_⟩
        refine ⟨fun _ _ F => gR rfl rfl (arm_not rfl (F.f 5 rfl)).b, ?_⟩
        refine ⟨fun _ _ F => gR rfl rfl (arm_move (.inl rfl) (F.f 6 rfl)).b, ?_⟩
        refine ⟨fun _ _ F => gG F rfl rfl rfl rfl (arm_loadF rfl (F.k 3 (Value.pointer (some ⟨w.heap.size, 0, none⟩))) (V0.mono F.below)).b, ?_⟩
        refine ⟨fun _ _ F => gG F rfl rfl rfl rfl (arm_C1 rfl (enters Try.func23 rfl rfl) Is.const (fun va w h1 => by have e_va : va = _ := h1; subst e_va; exact q_rInt 1 w (by decide) (by decide)) (fun _ _ h => ofQ h)).b, ?_⟩
        refine ⟨fun _ _ F => gG F rfl rfl rfl rfl (arm_C2 rfl (enters Try.func38 rfl rfl) (F.f 8 rfl) (F.f 9 rfl) (fun va vb w h1 h2 => q_fMul va vb x (Fq.ofInt 1) w h1 h2 (hx.mono (by decide)) ((ok_int (by decide) (by decide)).mono (by decide))) (fun _ _ h => ofQ h)).b, ?_⟩
        refine ⟨fun _ _ F => gG F rfl rfl rfl rfl (arm_loadF rfl (F.k 3 (Value.pointer (some ⟨w.heap.size, 0, none⟩))) (V0.mono F.below)).b, ?_⟩
        refine ⟨fun _ _ F => gG F rfl rfl rfl rfl (arm_C2 rfl (enters Try.func16 rfl rfl) (F.f 10 rfl) (F.f 11 rfl) (fun va vb w h1 h2 => q_Same va vb (x.mul (Fq.ofInt 1)) x w h1 h2 ((hx.mul (ok_int (by decide) (by decide))).mono (by decide)) (hx.mono (by decide))) (fun _ _ h => by have h' : RetV _ _ _ _ := h; rw [S7.out] at h'; exact ofV h')).b, ?_⟩
        refine ⟨fun _ _ F => gG F rfl rfl rfl rfl (arm_not rfl (F.f 12 rfl)).b, ?_⟩
        refine ⟨fun _ _ F => gR rfl rfl (arm_pick rfl (F.f 7 rfl) (fun h => by cases h) (fun _ => (F.f 13 rfl))).b, ?_⟩
        exact trivial
      intro E' hE gp wp bp G Gs
      obtain rfl : E' = [] := by simpa [subs] using hE
      have e_14 : gp 14 = Value.bool false := G 14 111 _ (by simp) rfl
      clear G Gs hE
      simp only [lFiT14]
      simp only [qA, setD, qZ, qS, e_14]
      refine wpAny_done (by kernel_rfl) ?_ _
      go_wp2_with fail
      go_meet
      case rel => exact ⟨rfl, (V0.mono bp), (V1.mono bp), (V2.mono bp), (V7.mono bp), (V8.mono bp), (hb1.trans (bp.mono hb1.size))⟩
    case rest =>
    clear V0 V1 V2 V7 V8 hb1
    obtain ⟨rfl, V0, V1, V2, V7, V8, hb1⟩ := hcut
    go_upto_region 12 with (fail)
    go_cut [9, 10] (fun s_9 s_10 wx => ∃ g9, s_9 = Value.pointer (some ⟨g9, 0, none⟩) ∧ s_10 = Value.int IntKind.i64 0 ∧ w.heap.size + 3 ≤ g9 ∧ g7 < g9 ∧ g8 < g9 ∧ VarQ wx g9 ((x.mul y).div y) ∧ VarQ wx w.heap.size x ∧ VarQ wx (w.heap.size + 1) y ∧ VarQ wx (w.heap.size + 2) z ∧ VarQ wx g7 (x.add y) ∧ VarQ wx g8 (x.mul y) ∧ Below w.heap.size w wx)
    case first =>
      obtain ⟨base, hbase0⟩ : ∃ b : Nat, Hid (b = wc.heap.size) := ⟨_, Lib.hid rfl⟩
      have hbase : base ≤ wc.heap.size := by rw [hbase0.out]; exact Nat.le_refl _
      have hbw : w.heap.size + 3 ≤ base := by have := hb1.size; have h1 := V2.lt; rw [hbase0.out]; omega
      have l_V0 : w.heap.size < base := by rw [hbase0.out]; exact V0.lt
      have l_V1 : w.heap.size + 1 < base := by rw [hbase0.out]; exact V1.lt
      have l_V2 : w.heap.size + 2 < base := by rw [hbase0.out]; exact V2.lt
      have l_V7 : g7 < base := by rw [hbase0.out]; exact V7.lt
      have l_V8 : g8 < base := by rw [hbase0.out]; exact V8.lt
      refine wp_tabGF Try.f9 12 (lFiT15 x y base) [5] (fun i => i == 6) 6 2 (by kernel_rfl) (by kernel_rfl) (by kernel_rfl) (by kernel_rfl) (by kernel_rfl) ⟨fun h => (by cases h), ⟨fun h => (by cases h), ⟨fun h => (by cases h), ⟨fun h => (by cases h), ⟨fun h => (by cases h), ⟨fun h => (by cases h), ⟨fun _ w v h => Sp.varF_lt h, trivial⟩⟩⟩⟩⟩⟩⟩ ?_ ?_
      · refine ⟨fun _ _ F => gR rfl rfl (arm_loadF rfl (F.k 8 (Value.pointer (some ⟨g8, 0, none⟩))) (V8.mono F.below)).b, ?_⟩
        refine ⟨fun _ _ F => gR rfl rfl (arm_loadF rfl (F.k 4 (Value.pointer (some ⟨w.heap.size + 1, 0, none⟩))) (V1.mono F.below)).b, ?_⟩
        refine ⟨fun _ _ F => gR rfl rfl (arm_C2 rfl (enters Try.func40 rfl rfl) (F.f 0 rfl) (F.f 1 rfl) (fun va vb w h1 h2 => q_fDiv va vb (x.mul y) y w h1 h2 ((hx.mul hy).mono (by decide)) (hy.mono (by decide)) P0.out) (fun _ _ h => ofQE h)).b, ?_⟩
        refine ⟨fun _ _ F => gR rfl rfl (arm_move (.inl rfl) (F.f 2 rfl)).b, ?_⟩
        refine ⟨fun _ _ F => gR rfl rfl (arm_pair0 rfl (F.f 3 rfl)).b, ?_⟩
        refine ⟨fun _ _ F => gR rfl rfl (arm_pair1 rfl (F.f 3 rfl)).b, ?_⟩
        refine ⟨fun _ _ F => gR rfl rfl (arm_allocF rfl (Nat.le_trans hbase F.below.size)), ?_⟩
        exact trivial
      intro E' hE gp wp bp G Gs
      simp only [subs, List.map_cons, List.map_nil, List.nil_append, List.cons_append, List.mem_cons, List.not_mem_nil, or_false, List.append_nil] at hE
      rcases hE with rfl | rfl
      · obtain ⟨g9, e_6, lg_6, hv_6⟩ := G 6 9 _ (by simp) rfl
        have n_4 : (Sp.fq ((x.mul y).div y)).p wp (gp 4) := G 4 116 _ (by simp) rfl
        have e_5 : gp 5 = Value.int IntKind.i64 0 := G 5 117 _ (by simp) rfl
        clear G Gs
        simp only [lFiT15]
        simp only [qA, setD, qZ, qS, e_6, e_5]
        have T0 := hv_6
        refine wpAny_storeFr (j := 7) (by kernel_rfl) rfl rfl rfl rfl rfl n_4 T0.any ?_
        intro w0 u0 v0
        have O0 := T0.own
        refine wpAny_takeD (i := 8) (d := some 10) (v := Value.int IntKind.i64 0) rfl rfl (by kernel_rfl) (by kernel_rfl) (by kernel_rfl) (fun _ _ _ h => h) (Or.inl ⟨by rfl, fun w => by rfl⟩) ?_
        try simp only [qP, qZ, qS]
        refine wpAny_done (by kernel_rfl) ?_ _
        go_wp2_with fail
        go_meet
        case rel => exact ⟨g9, rfl, rfl, (by omega), (by omega), (by omega), v0, ((V0.mono bp).upd O0 u0 (by omega)), ((V1.mono bp).upd O0 u0 (by omega)), ((V2.mono bp).upd O0 u0 (by omega)), ((V7.mono bp).upd O0 u0 (by omega)), ((V8.mono bp).upd O0 u0 (by omega)), (Upd.below (hb1.trans (bp.mono hb1.size)) u0 (by omega))⟩
      · obtain ⟨g9, e_6, lg_6, hv_6⟩ := G 6 9 _ (by simp) rfl
        obtain ⟨x_3_0, x_3_1, e_3, n_3_0, rfl⟩ := G 3 112 _ (by simp) rfl
        have n_4 : (Sp.fq ((x.mul y).div y)).p wp (gp 4) := G 4 116 _ (by simp) rfl
        clear G Gs
        simp only [lFiT15]
        simp only [qA, setD, qZ, qS, e_6, e_3]
        refine wpAny_takeD (i := 5) (d := some 117) (v := Value.int IntKind.i64 0) rfl rfl (by kernel_rfl) (by kernel_rfl) (by kernel_rfl) (fun _ _ _ h => h) (Or.inl ⟨by rfl, fun w => by rfl⟩) ?_
        try simp only [qP, qZ, qS]
        have T0 := hv_6
        refine wpAny_storeFr (j := 7) (by kernel_rfl) rfl rfl rfl rfl rfl n_4 T0.any ?_
        intro w0 u0 v0
        have O0 := T0.own
        refine wpAny_takeD (i := 8) (d := some 10) (v := Value.int IntKind.i64 0) rfl rfl (by kernel_rfl) (by kernel_rfl) (by kernel_rfl) (fun _ _ _ h => h) (Or.inl ⟨by rfl, fun w => by rfl⟩) ?_
        try simp only [qP, qZ, qS]
        refine wpAny_done (by kernel_rfl) ?_ _
        go_wp2_with fail
        go_meet
        case rel => exact ⟨g9, rfl, rfl, (by omega), (by omega), (by omega), v0, ((V0.mono bp).upd O0 u0 (by omega)), ((V1.mono bp).upd O0 u0 (by omega)), ((V2.mono bp).upd O0 u0 (by omega)), ((V7.mono bp).upd O0 u0 (by omega)), ((V8.mono bp).upd O0 u0 (by omega)), (Upd.below (hb1.trans (bp.mono hb1.size)) u0 (by omega))⟩
    case rest =>
    clear V0 V1 V2 V7 V8 hb1
    obtain ⟨g9, rfl, rfl, lg9, d12_0, d12_1, V9, V0, V1, V2, V7, V8, hb1⟩ := hcut
    go_upto_region 13 with (fail)
    go_cut [120] (fun s_120 wx => s_120 = Value.bool false ∧ VarQ wx w.heap.size x ∧ VarQ wx (w.heap.size + 1) y ∧ VarQ wx (w.heap.size + 2) z ∧ VarQ wx g7 (x.add y) ∧ VarQ wx g8 (x.mul y) ∧ VarQ wx g9 ((x.mul y).div y) ∧ Below w.heap.size w wx)
    case first =>
      refine tF Try.f9 13 (lFiT16 y k) [] 3 0 ?_ ?_
      · refine ⟨fun _ _ F => gR rfl rfl (arm_loadF rfl (F.k 4 (Value.pointer (some ⟨w.heap.size + 1, 0, none⟩))) (V1.mono F.below)).b, ?_⟩
        refine ⟨fun _ _ F => gR rfl rfl (arm_C1 rfl (enters Try.func35 rfl rfl) (F.f 0 rfl) (fun va w h1 => q_fSign va y w h1 (hy.mono (by decide))) (fun _ _ h => by have h' : RetV _ _ _ _ := h; rw [hk.out] at h'; exact ofV h')).b, ?_⟩
        refine ⟨fun _ _ F => gR rfl rfl (arm_bin rfl (F.f 1 rfl) Is.const (fun _ => rfl) (fun w => by rw [G0.out]; rfl)).b, ?_⟩
        exact trivial
      intro E' hE gp wp bp G Gs
      obtain rfl : E' = [] := by simpa [subs] using hE
      have e_2 : gp 2 = Value.bool false := G 2 120 _ (by simp) rfl
      clear G Gs hE
      simp only [lFiT16]
      simp only [qA, setD, qZ, qS, e_2]
      refine wpAny_done (by kernel_rfl) ?_ _
      go_wp2_with fail
      go_meet
      case rel => exact ⟨rfl, (V0.mono bp), (V1.mono bp), (V2.mono bp), (V7.mono bp), (V8.mono bp), (V9.mono bp), (hb1.trans (bp.mono hb1.size))⟩
    case rest =>
    clear V0 V1 V2 V7 V8 V9 hb1
    obtain ⟨rfl, V0, V1, V2, V7, V8, V9, hb1⟩ := hcut
    go_upto_region 15 with (fail)
    go_cut [6] (fun s_6 wx => s_6 = Value.bool true ∧ VarQ wx w.heap.size x ∧ VarQ wx (w.heap.size + 1) y ∧ VarQ wx (w.heap.size + 2) z ∧ VarQ wx g7 (x.add y) ∧ VarQ wx g8 (x.mul y) ∧ VarQ wx g9 ((x.mul y).div y) ∧ Below w.heap.size w wx)
    case first =>
      refine tF Try.f9 15 (lFiT17 x y) [] 10 0 ?_ ?_
      · refine ⟨fun _ _ F => gR rfl rfl (arm_move (.inl rfl) (F.k 10 (Value.int IntKind.i64 0))).b, ?_⟩
        refine ⟨fun _ _ F => gR rfl rfl (arm_bin rfl (F.f 0 rfl) Is.const (fun _ => rfl) (fun _ => rfl)).b, ?_⟩
        refine ⟨fun _ _ F => gR rfl rfl (arm_move (.inl rfl) (F.f 1 rfl)).b, ?_⟩
        refine ⟨fun _ _ F => gG F rfl rfl rfl rfl (arm_loadF rfl (F.k 9 (Value.pointer (some ⟨g9, 0, none⟩))) (V9.mono F.below)).b, ?_⟩
        refine ⟨fun _ _ F => gG F rfl rfl rfl rfl (arm_loadF rfl (F.k 3 (Value.pointer (some ⟨w.heap.size, 0, none⟩))) (V0.mono F.below)).b, ?_⟩
        refine ⟨fun _ _ F => gG F rfl rfl rfl rfl (arm_C2 rfl (enters Try.func16 rfl rfl) (F.f 3 rfl) (F.f 4 rfl) (fun va vb w h1 h2 => q_Same va vb ((x.mul y).div y) x w h1 h2 (((hx.mul hy).div hy P0.out).mono (by decide)) (hx.mono (by decide))) (fun _ _ h => by have h' : RetV _ _ _ _ := h; rw [S9.out] at h'; exact ofV h')).b, ?_⟩
        refine ⟨fun _ _ F => gR rfl rfl (arm_pick rfl (F.f 2 rfl) (fun _ => (F.f 5 rfl)) (fun h => by cases h)).b, ?_⟩
        refine ⟨fun _ _ F => gR rfl rfl (arm_move (.inl rfl) (F.f 6 rfl)).b, ?_⟩
        refine ⟨fun _ _ F => gG F rfl rfl rfl rfl (arm_C0 rfl (enters Try.func11 rfl rfl)  (fun w => c_awake2 w) (fun _ _ h => ofV h)).b, ?_⟩
        refine ⟨fun _ _ F => gR rfl rfl (arm_pick rfl (F.f 7 rfl) (fun _ => (F.f 8 rfl)) (fun h => by cases h)).b, ?_⟩
        refine ⟨fun _ _ F => gR rfl rfl (arm_move (.inr rfl) (F.f 9 rfl)).b, ?_⟩
        exact trivial
      intro E' hE gp wp bp G Gs
      obtain rfl : E' = [] := by simpa [subs] using hE
      have e_10 : gp 10 = Value.bool true := G 10 6 _ (by simp) rfl
      clear G Gs hE
      simp only [lFiT17]
      simp only [qA, setD, qZ, qS, e_10]
      refine wpAny_done (by kernel_rfl) ?_ _
      go_wp2_with fail
      go_meet
      case rel => exact ⟨rfl, (V0.mono bp), (V1.mono bp), (V2.mono bp), (V7.mono bp), (V8.mono bp), (V9.mono bp), (hb1.trans (bp.mono hb1.size))⟩
    case rest =>
    clear V0 V1 V2 V7 V8 V9 hb1
    obtain ⟨rfl, V0, V1, V2, V7, V8, V9, hb1⟩ := hcut
    go_wp2
    go_ret
    exact ⟨rfl, hb1⟩
def lFiUT0 (sx : Bool) (Lx : Nat) (px : Nat) (Nx : Nat) (qx : Nat) (sy : Bool) (Ly : Nat) (py : Nat) (Ny : Nat) (qy : Nat) (sz : Bool) (Lz : Nat) (pz : Nat) (Nz : Nat) (qz : Nat) : List (Nat × Tmp × Sp) :=
   [(0, 11, .frR sx Lx px Nx qx),
    (1, 12, .val (Value.bool true)),
    (2, 13, .val (Value.bool false)),
    (3, 14, .val (Value.bool false)),
    (4, 15, .frR sy Ly py Ny qy),
    (5, 16, .val (Value.bool true)),
    (6, 17, .val (Value.bool false)),
    (7, 18, .val (Value.bool false)),
    (8, 19, .val (Value.bool false)),
    (9, 20, .frR sz Lz pz Nz qz),
    (10, 21, .val (Value.bool false)),
    (11, 22, .val (Value.bool true)),
    (12, 23, .val (Value.bool true))]
def lFiUT1  : List (Nat × Tmp × Sp) :=
   [(0, 24, .val (Value.bool true)),
    (1, 6, .val (Value.bool true))]
def lFiUT2 (sx : Bool) (Lx : Nat) (px : Nat) (Nx : Nat) (qx : Nat) (sy : Bool) (Ly : Nat) (py : Nat) (Ny : Nat) (qy : Nat) : List (Nat × Tmp × Sp) :=
   [(0, 11, .frR sx Lx px Nx qx),
    (1, 12, .val (Value.bool true)),
    (2, 13, .val (Value.bool false)),
    (3, 14, .val (Value.bool false)),
    (4, 15, .frR sy Ly py Ny qy),
    (5, 16, .val (Value.bool false)),
    (6, 17, .val (Value.bool true)),
    (7, 18, .val (Value.bool true)),
    (8, 19, .val (Value.bool true)),
    (9, 20, .val undef),
    (10, 21, .val undef),
    (11, 22, .val undef),
    (12, 23, .val (Value.bool true))]
def lFiUT3  : List (Nat × Tmp × Sp) :=
   [(0, 24, .val (Value.bool true)),
    (1, 6, .val (Value.bool true))]
def lFiUT4 (sx : Bool) (Lx : Nat) (px : Nat) (Nx : Nat) (qx : Nat) : List (Nat × Tmp × Sp) :=
   [(0, 11, .frR sx Lx px Nx qx),
    (1, 12, .val (Value.bool false)),
    (2, 13, .val (Value.bool true)),
    (3, 14, .val (Value.bool true)),
    (4, 15, .val undef),
    (5, 16, .val undef),
    (6, 17, .val undef),
    (7, 18, .val (Value.bool true)),
    (8, 19, .val (Value.bool true)),
    (9, 20, .val undef),
    (10, 21, .val undef),
    (11, 22, .val undef),
    (12, 23, .val (Value.bool true))]
def lFiUT5  : List (Nat × Tmp × Sp) :=
   [(0, 24, .val (Value.bool true)),
    (1, 6, .val (Value.bool true))]
set_option maxHeartbeats 4000000 in
theorem c_lFiU (vx : Value) (sx : Bool) (Lx px Nx qx : Nat) (vy : Value) (sy : Bool) (Ly py Ny qy : Nat) (vz : Value) (sz : Bool) (Lz pz Nz qz : Nat) (w : World) (ix : IsFR w vx sx Lx px Nx qx) (iy : IsFR w vy sy Ly py Ny qy) (iz : IsFR w vz sz Lz pz Nz qz) (hn : ¬(FitP sx Lx px Nx qx ∧ FitP sy Ly py Ny qy ∧ FitP sz Lz pz Nz qz)) :
    Calls Try.prog 9 #[vx, vy, vz] w fun e w' => RetV w (.bool true) e w' := by
  by_cases fx : FitP sx Lx px Nx qx
  · by_cases fy : FitP sy Ly py Ny qy
    · have fz : ¬ FitP sz Lz pz Nz qz := fun h9 => hn ⟨fx, fy, h9⟩
      clear hn
      obtain ⟨a0, c0, b0, d0, rfl, m0, k0⟩ := boxR ix
      obtain ⟨a1, c1, b1, d1, rfl, m1, k1⟩ := boxR (iy.mono m0)
      rw [World.size_alloc ] at k1
      have n1 := m0.trans (m1.mono m0.size)
      obtain ⟨a2, c2, b2, d2, rfl, m2, k2⟩ := boxR (iz.mono n1)
      rw [World.size_alloc, World.size_alloc ] at k2
      have n2 := n1.trans (m2.mono n1.size)
      clear ix iy iz
      go_enter Try.func9, Try.ntmps9
      go_upto_region 0 with (fail)
      go_cut [3, 4, 5, 6] (fun s_3 s_4 s_5 s_6 wx => s_3 = Value.pointer (some ⟨w.heap.size, 0, none⟩) ∧ s_4 = Value.pointer (some ⟨w.heap.size + 1, 0, none⟩) ∧ s_5 = Value.pointer (some ⟨w.heap.size + 2, 0, none⟩) ∧ s_6 = Value.bool false ∧ VarFR wx w.heap.size sx Lx px Nx qx ∧ VarFR wx (w.heap.size + 1) sy Ly py Ny qy ∧ VarFR wx (w.heap.size + 2) sz Lz pz Nz qz ∧ Below w.heap.size w wx)
      case first =>
        go_wp2_with fail
        go_meet
        case rel => exact ⟨rfl, rfl, rfl, rfl, ((k0.mono m1).mono m2), (k1.mono m2), k2, n2⟩
      case rest =>
      clear m0 k0 m1 k1 m2 k2 n1 n2
      obtain ⟨rfl, rfl, rfl, rfl, V0, V1, V2, hb1⟩ := hcut
      go_upto_region 1 with (fail)
      go_cut [23] (fun s_23 wx => s_23 = Value.bool true ∧ VarFR wx w.heap.size sx Lx px Nx qx ∧ VarFR wx (w.heap.size + 1) sy Ly py Ny qy ∧ VarFR wx (w.heap.size + 2) sz Lz pz Nz qz ∧ Below w.heap.size w wx)
      case first =>
        refine tF Try.f9 1 (lFiUT0 sx Lx px Nx qx sy Ly py Ny qy sz Lz pz Nz qz) [] 13 0 ?_ ?_
        · refine ⟨fun _ _ F => gR rfl rfl (arm_loadFR rfl (F.k 3 (Value.pointer (some ⟨w.heap.size, 0, none⟩))) (V0.mono F.below)).b, ?_⟩
          refine ⟨fun _ _ F => gR rfl rfl (arm_C1 rfl (enters Try.func18 rfl rfl) (F.f 0 rfl) (fun va w h1 => q_fitT va sx Lx px Nx qx w h1 fx) (fun _ _ h => ofV h)).b, ?_⟩
          refine ⟨fun _ _ F => gR rfl rfl (arm_not rfl (F.f 1 rfl)).b, ?_⟩
          refine ⟨fun _ _ F => gR rfl rfl (arm_move (.inl rfl) (F.f 2 rfl)).b, ?_⟩
          refine ⟨fun _ _ F => gG F rfl rfl rfl rfl (arm_loadFR rfl (F.k 4 (Value.pointer (some ⟨w.heap.size + 1, 0, none⟩))) (V1.mono F.below)).b, ?_⟩
          refine ⟨fun _ _ F => gG F rfl rfl rfl rfl (arm_C1 rfl (enters Try.func18 rfl rfl) (F.f 4 rfl) (fun va w h1 => q_fitT va sy Ly py Ny qy w h1 fy) (fun _ _ h => ofV h)).b, ?_⟩
          refine ⟨fun _ _ F => gG F rfl rfl rfl rfl (arm_not rfl (F.f 5 rfl)).b, ?_⟩
          refine ⟨fun _ _ F => gR rfl rfl (arm_pick rfl (F.f 3 rfl) (fun h => by cases h) (fun _ => (F.f 6 rfl))).b, ?_⟩
          refine ⟨fun _ _ F => gR rfl rfl (arm_move (.inl rfl) (F.f 7 rfl)).b, ?_⟩
          refine ⟨fun _ _ F => gG F rfl rfl rfl rfl (arm_loadFR rfl (F.k 5 (Value.pointer (some ⟨w.heap.size + 2, 0, none⟩))) (V2.mono F.below)).b, ?_⟩
          refine ⟨fun _ _ F => gG F rfl rfl rfl rfl (arm_C1 rfl (enters Try.func18 rfl rfl) (F.f 9 rfl) (fun va w h1 => q_fitF va sz Lz pz Nz qz w h1 fz) (fun _ _ h => ofV h)).b, ?_⟩
          refine ⟨fun _ _ F => gG F rfl rfl rfl rfl (arm_not rfl (F.f 10 rfl)).b, ?_⟩
          refine ⟨fun _ _ F => gR rfl rfl (arm_pick rfl (F.f 8 rfl) (fun h => by cases h) (fun _ => (F.f 11 rfl))).b, ?_⟩
          exact trivial
        intro E' hE gp wp bp G Gs
        obtain rfl : E' = [] := by simpa [subs] using hE
        have e_12 : gp 12 = Value.bool true := G 12 23 _ (by simp) rfl
        clear G Gs hE
        simp only [lFiUT0]
        simp only [qA, setD, qZ, qS, e_12]
        refine wpAny_done (by kernel_rfl) ?_ _
        go_wp2_with fail
        go_meet
        case rel => exact ⟨rfl, (V0.mono bp), (V1.mono bp), (V2.mono bp), (hb1.trans (bp.mono hb1.size))⟩
      case rest =>
      clear V0 V1 V2 hb1
      obtain ⟨rfl, V0, V1, V2, hb1⟩ := hcut
      go_upto_region 2 with (fail)
      go_cut [6] (fun s_6 wx => s_6 = Value.bool true ∧ VarFR wx w.heap.size sx Lx px Nx qx ∧ VarFR wx (w.heap.size + 1) sy Ly py Ny qy ∧ VarFR wx (w.heap.size + 2) sz Lz pz Nz qz ∧ Below w.heap.size w wx)
      case first =>
        refine tF Try.f9 2 (lFiUT1 ) [] 2 0 ?_ ?_
        · refine ⟨fun _ _ F => gR rfl rfl (arm_C0 rfl (enters Try.func11 rfl rfl)  (fun w => c_awake2 w) (fun _ _ h => ofV h)).b, ?_⟩
          refine ⟨fun _ _ F => gR rfl rfl (arm_move (.inr rfl) (F.f 0 rfl)).b, ?_⟩
          exact trivial
        intro E' hE gp wp bp G Gs
        obtain rfl : E' = [] := by simpa [subs] using hE
        have e_1 : gp 1 = Value.bool true := G 1 6 _ (by simp) rfl
        clear G Gs hE
        simp only [lFiUT1]
        simp only [qA, setD, qZ, qS, e_1]
        refine wpAny_done (by kernel_rfl) ?_ _
        go_wp2_with fail
        go_meet
        case rel => exact ⟨rfl, (V0.mono bp), (V1.mono bp), (V2.mono bp), (hb1.trans (bp.mono hb1.size))⟩
      case rest =>
      clear V0 V1 V2 hb1
      obtain ⟨rfl, V0, V1, V2, hb1⟩ := hcut
      go_wp2
      go_ret
      exact ⟨rfl, hb1⟩
    · clear hn
      obtain ⟨a0, c0, b0, d0, rfl, m0, k0⟩ := boxR ix
      obtain ⟨a1, c1, b1, d1, rfl, m1, k1⟩ := boxR (iy.mono m0)
      rw [World.size_alloc ] at k1
      have n1 := m0.trans (m1.mono m0.size)
      obtain ⟨a2, c2, b2, d2, rfl, m2, k2⟩ := boxR (iz.mono n1)
      rw [World.size_alloc, World.size_alloc ] at k2
      have n2 := n1.trans (m2.mono n1.size)
      clear ix iy iz
      go_enter Try.func9, Try.ntmps9
      go_upto_region 0 with (fail)
      go_cut [3, 4, 5, 6] (fun s_3 s_4 s_5 s_6 wx => s_3 = Value.pointer (some ⟨w.heap.size, 0, none⟩) ∧ s_4 = Value.pointer (some ⟨w.heap.size + 1, 0, none⟩) ∧ s_5 = Value.pointer (some ⟨w.heap.size + 2, 0, none⟩) ∧ s_6 = Value.bool false ∧ VarFR wx w.heap.size sx Lx px Nx qx ∧ VarFR wx (w.heap.size + 1) sy Ly py Ny qy ∧ VarFR wx (w.heap.size + 2) sz Lz pz Nz qz ∧ Below w.heap.size w wx)
      case first =>
        go_wp2_with fail
        go_meet
        case rel => exact ⟨rfl, rfl, rfl, rfl, ((k0.mono m1).mono m2), (k1.mono m2), k2, n2⟩
      case rest =>
      clear m0 k0 m1 k1 m2 k2 n1 n2
      obtain ⟨rfl, rfl, rfl, rfl, V0, V1, V2, hb1⟩ := hcut
      go_upto_region 1 with (fail)
      go_cut [23] (fun s_23 wx => s_23 = Value.bool true ∧ VarFR wx w.heap.size sx Lx px Nx qx ∧ VarFR wx (w.heap.size + 1) sy Ly py Ny qy ∧ VarFR wx (w.heap.size + 2) sz Lz pz Nz qz ∧ Below w.heap.size w wx)
      case first =>
        refine tF Try.f9 1 (lFiUT2 sx Lx px Nx qx sy Ly py Ny qy) [] 13 0 ?_ ?_
        · refine ⟨fun _ _ F => gR rfl rfl (arm_loadFR rfl (F.k 3 (Value.pointer (some ⟨w.heap.size, 0, none⟩))) (V0.mono F.below)).b, ?_⟩
          refine ⟨fun _ _ F => gR rfl rfl (arm_C1 rfl (enters Try.func18 rfl rfl) (F.f 0 rfl) (fun va w h1 => q_fitT va sx Lx px Nx qx w h1 fx) (fun _ _ h => ofV h)).b, ?_⟩
          refine ⟨fun _ _ F => gR rfl rfl (arm_not rfl (F.f 1 rfl)).b, ?_⟩
          refine ⟨fun _ _ F => gR rfl rfl (arm_move (.inl rfl) (F.f 2 rfl)).b, ?_⟩
          refine ⟨fun _ _ F => gG F rfl rfl rfl rfl (arm_loadFR rfl (F.k 4 (Value.pointer (some ⟨w.heap.size + 1, 0, none⟩))) (V1.mono F.below)).b, ?_⟩
          refine ⟨fun _ _ F => gG F rfl rfl rfl rfl (arm_C1 rfl (enters Try.func18 rfl rfl) (F.f 4 rfl) (fun va w h1 => q_fitF va sy Ly py Ny qy w h1 fy) (fun _ _ h => ofV h)).b, ?_⟩
          refine ⟨fun _ _ F => gG F rfl rfl rfl rfl (arm_not rfl (F.f 5 rfl)).b, ?_⟩
          refine ⟨fun _ _ F => gR rfl rfl (arm_pick rfl (F.f 3 rfl) (fun h => by cases h) (fun _ => (F.f 6 rfl))).b, ?_⟩
          refine ⟨fun _ _ F => gR rfl rfl (arm_move (.inl rfl) (F.f 7 rfl)).b, ?_⟩
          refine ⟨fun _ _ F => gS F rfl rfl rfl rfl rfl rfl, ?_⟩
          refine ⟨fun _ _ F => gS F rfl rfl rfl rfl rfl rfl, ?_⟩
          refine ⟨fun _ _ F => gS F rfl rfl rfl rfl rfl rfl, ?_⟩
          refine ⟨fun _ _ F => gR rfl rfl (arm_pick rfl (F.f 8 rfl) (fun _ => Is.const) (fun h => by cases h)).b, ?_⟩
          exact trivial
        intro E' hE gp wp bp G Gs
        obtain rfl : E' = [] := by simpa [subs] using hE
        have e_12 : gp 12 = Value.bool true := G 12 23 _ (by simp) rfl
        clear G Gs hE
        simp only [lFiUT2]
        simp only [qA, setD, qZ, qS, e_12]
        refine wpAny_done (by kernel_rfl) ?_ _
        go_wp2_with fail
        go_meet
        case rel => exact ⟨rfl, (V0.mono bp), (V1.mono bp), (V2.mono bp), (hb1.trans (bp.mono hb1.size))⟩
      case rest =>
      clear V0 V1 V2 hb1
      obtain ⟨rfl, V0, V1, V2, hb1⟩ := hcut
      go_upto_region 2 with (fail)
      go_cut [6] (fun s_6 wx => s_6 = Value.bool true ∧ VarFR wx w.heap.size sx Lx px Nx qx ∧ VarFR wx (w.heap.size + 1) sy Ly py Ny qy ∧ VarFR wx (w.heap.size + 2) sz Lz pz Nz qz ∧ Below w.heap.size w wx)
      case first =>
        refine tF Try.f9 2 (lFiUT3 ) [] 2 0 ?_ ?_
        · refine ⟨fun _ _ F => gR rfl rfl (arm_C0 rfl (enters Try.func11 rfl rfl)  (fun w => c_awake2 w) (fun _ _ h => ofV h)).b, ?_⟩
          refine ⟨fun _ _ F => gR rfl rfl (arm_move (.inr rfl) (F.f 0 rfl)).b, ?_⟩
          exact trivial
        intro E' hE gp wp bp G Gs
        obtain rfl : E' = [] := by simpa [subs] using hE
        have e_1 : gp 1 = Value.bool true := G 1 6 _ (by simp) rfl
        clear G Gs hE
        simp only [lFiUT3]
        simp only [qA, setD, qZ, qS, e_1]
        refine wpAny_done (by kernel_rfl) ?_ _
        go_wp2_with fail
        go_meet
        case rel => exact ⟨rfl, (V0.mono bp), (V1.mono bp), (V2.mono bp), (hb1.trans (bp.mono hb1.size))⟩
      case rest =>
      clear V0 V1 V2 hb1
      obtain ⟨rfl, V0, V1, V2, hb1⟩ := hcut
      go_wp2
      go_ret
      exact ⟨rfl, hb1⟩
  · clear hn
    obtain ⟨a0, c0, b0, d0, rfl, m0, k0⟩ := boxR ix
    obtain ⟨a1, c1, b1, d1, rfl, m1, k1⟩ := boxR (iy.mono m0)
    rw [World.size_alloc ] at k1
    have n1 := m0.trans (m1.mono m0.size)
    obtain ⟨a2, c2, b2, d2, rfl, m2, k2⟩ := boxR (iz.mono n1)
    rw [World.size_alloc, World.size_alloc ] at k2
    have n2 := n1.trans (m2.mono n1.size)
    clear ix iy iz
    go_enter Try.func9, Try.ntmps9
    go_upto_region 0 with (fail)
    go_cut [3, 4, 5, 6] (fun s_3 s_4 s_5 s_6 wx => s_3 = Value.pointer (some ⟨w.heap.size, 0, none⟩) ∧ s_4 = Value.pointer (some ⟨w.heap.size + 1, 0, none⟩) ∧ s_5 = Value.pointer (some ⟨w.heap.size + 2, 0, none⟩) ∧ s_6 = Value.bool false ∧ VarFR wx w.heap.size sx Lx px Nx qx ∧ VarFR wx (w.heap.size + 1) sy Ly py Ny qy ∧ VarFR wx (w.heap.size + 2) sz Lz pz Nz qz ∧ Below w.heap.size w wx)
    case first =>
      go_wp2_with fail
      go_meet
      case rel => exact ⟨rfl, rfl, rfl, rfl, ((k0.mono m1).mono m2), (k1.mono m2), k2, n2⟩
    case rest =>
    clear m0 k0 m1 k1 m2 k2 n1 n2
    obtain ⟨rfl, rfl, rfl, rfl, V0, V1, V2, hb1⟩ := hcut
    go_upto_region 1 with (fail)
    go_cut [23] (fun s_23 wx => s_23 = Value.bool true ∧ VarFR wx w.heap.size sx Lx px Nx qx ∧ VarFR wx (w.heap.size + 1) sy Ly py Ny qy ∧ VarFR wx (w.heap.size + 2) sz Lz pz Nz qz ∧ Below w.heap.size w wx)
    case first =>
      refine tF Try.f9 1 (lFiUT4 sx Lx px Nx qx) [] 13 0 ?_ ?_
      · refine ⟨fun _ _ F => gR rfl rfl (arm_loadFR rfl (F.k 3 (Value.pointer (some ⟨w.heap.size, 0, none⟩))) (V0.mono F.below)).b, ?_⟩
        refine ⟨fun _ _ F => gR rfl rfl (arm_C1 rfl (enters Try.func18 rfl rfl) (F.f 0 rfl) (fun va w h1 => q_fitF va sx Lx px Nx qx w h1 fx) (fun _ _ h => ofV h)).b, ?_⟩
        refine ⟨fun _ _ F => gR rfl rfl (arm_not rfl (F.f 1 rfl)).b, ?_⟩
        refine ⟨fun _ _ F => gR rfl rfl (arm_move (.inl rfl) (F.f 2 rfl)).b, ?_⟩
        refine ⟨fun _ _ F => gS F rfl rfl rfl rfl rfl rfl, ?_⟩
        refine ⟨fun _ _ F => gS F rfl rfl rfl rfl rfl rfl, ?_⟩
        refine ⟨fun _ _ F => gS F rfl rfl rfl rfl rfl rfl, ?_⟩
        refine ⟨fun _ _ F => gR rfl rfl (arm_pick rfl (F.f 3 rfl) (fun _ => Is.const) (fun h => by cases h)).b, ?_⟩
        refine ⟨fun _ _ F => gR rfl rfl (arm_move (.inl rfl) (F.f 7 rfl)).b, ?_⟩
        refine ⟨fun _ _ F => gS F rfl rfl rfl rfl rfl rfl, ?_⟩
        refine ⟨fun _ _ F => gS F rfl rfl rfl rfl rfl rfl, ?_⟩
        refine ⟨fun _ _ F => gS F rfl rfl rfl rfl rfl rfl, ?_⟩
        refine ⟨fun _ _ F => gR rfl rfl (arm_pick rfl (F.f 8 rfl) (fun _ => Is.const) (fun h => by cases h)).b, ?_⟩
        exact trivial
      intro E' hE gp wp bp G Gs
      obtain rfl : E' = [] := by simpa [subs] using hE
      have e_12 : gp 12 = Value.bool true := G 12 23 _ (by simp) rfl
      clear G Gs hE
      simp only [lFiUT4]
      simp only [qA, setD, qZ, qS, e_12]
      refine wpAny_done (by kernel_rfl) ?_ _
      go_wp2_with fail
      go_meet
      case rel => exact ⟨rfl, (V0.mono bp), (V1.mono bp), (V2.mono bp), (hb1.trans (bp.mono hb1.size))⟩
    case rest =>
    clear V0 V1 V2 hb1
    obtain ⟨rfl, V0, V1, V2, hb1⟩ := hcut
    go_upto_region 2 with (fail)
    go_cut [6] (fun s_6 wx => s_6 = Value.bool true ∧ VarFR wx w.heap.size sx Lx px Nx qx ∧ VarFR wx (w.heap.size + 1) sy Ly py Ny qy ∧ VarFR wx (w.heap.size + 2) sz Lz pz Nz qz ∧ Below w.heap.size w wx)
    case first =>
      refine tF Try.f9 2 (lFiUT5 ) [] 2 0 ?_ ?_
      · refine ⟨fun _ _ F => gR rfl rfl (arm_C0 rfl (enters Try.func11 rfl rfl)  (fun w => c_awake2 w) (fun _ _ h => ofV h)).b, ?_⟩
        refine ⟨fun _ _ F => gR rfl rfl (arm_move (.inr rfl) (F.f 0 rfl)).b, ?_⟩
        exact trivial
      intro E' hE gp wp bp G Gs
      obtain rfl : E' = [] := by simpa [subs] using hE
      have e_1 : gp 1 = Value.bool true := G 1 6 _ (by simp) rfl
      clear G Gs hE
      simp only [lFiUT5]
      simp only [qA, setD, qZ, qS, e_1]
      refine wpAny_done (by kernel_rfl) ?_ _
      go_wp2_with fail
      go_meet
      case rel => exact ⟨rfl, (V0.mono bp), (V1.mono bp), (V2.mono bp), (hb1.trans (bp.mono hb1.size))⟩
    case rest =>
    clear V0 V1 V2 hb1
    obtain ⟨rfl, V0, V1, V2, hb1⟩ := hcut
    go_wp2
    go_ret
    exact ⟨rfl, hb1⟩
theorem c_FractionField (vx : Value) (sx : Bool) (Lx px Nx qx : Nat) (vy : Value) (sy : Bool) (Ly py Ny qy : Nat) (vz : Value) (sz : Bool) (Lz pz Nz qz : Nat) (w : World) (ix : IsFR w vx sx Lx px Nx qx) (iy : IsFR w vy sy Ly py Ny qy) (iz : IsFR w vz sz Lz pz Nz qz) :
    Calls Try.prog 9 #[vx, vy, vz] w fun e w' => RetV w (.bool true) e w' := by
  by_cases hn : FitP sx Lx px Nx qx ∧ FitP sy Ly py Ny qy ∧ FitP sz Lz pz Nz qz
  · obtain ⟨fx, fy, fz⟩ := hn
    obtain ⟨x, jx, hx, ex⟩ := FitP.split fx ix
    obtain ⟨y, jy, hy, ey⟩ := FitP.split fy iy
    obtain ⟨z, jz, hz, ez⟩ := FitP.split fz iz
    exact c_lFiT vx vy vz x y z w jx jy jz hx ex hy ey hz ez
  · exact c_lFiU vx sx Lx px Nx qx vy sy Ly py Ny qy vz sz Lz pz Nz qz w ix iy iz hn
end Go.Proofs.Ytldnimohnbjfaaa
