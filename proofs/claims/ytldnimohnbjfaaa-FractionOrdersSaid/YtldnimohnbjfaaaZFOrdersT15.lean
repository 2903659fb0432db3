/- The law FractionOrders. -/
import Derived.Test.YtldnimohnbjfaaaP14
namespace Go.Proofs.Ytldnimohnbjfaaa
set_option linter.unusedSimpArgs false
set_option linter.unusedVariables false
set_option maxRecDepth 100000
open Go.RowKit
theorem o_trans' {x y z : Fq} (hx : x.valid = true) (hy : y.valid = true) (hz : z.valid = true) {k l m : Int} (h : x.cmp y = k) (h2 : y.cmp z = l) (h3 : x.cmp z = m) (hk : k ≤ 0) (hl : l ≤ 0) : Hid (false = decide (0 < m)) := Lib.hid (by
  symm; apply decide_eq_false; subst h; subst h2; subst h3; exact o_trans hx hy hz hk hl)
def lOrmT0 (x : Fq) (y : Fq) (z : Fq) : List (Nat × Tmp × Sp) :=
   [(0, 8, .fq x),
    (1, 9, .val (Value.bool true)),
    (2, 10, .val (Value.bool false)),
    (3, 11, .val (Value.bool false)),
    (4, 12, .fq y),
    (5, 13, .val (Value.bool true)),
    (6, 14, .val (Value.bool false)),
    (7, 15, .val (Value.bool false)),
    (8, 16, .val (Value.bool false)),
    (9, 17, .fq z),
    (10, 18, .val (Value.bool true)),
    (11, 19, .val (Value.bool false)),
    (12, 20, .val (Value.bool false))]
def lOrmT1 (x : Fq) (y : Fq) : List (Nat × Tmp × Sp) :=
   [(0, 22, .fq x),
    (1, 23, .fq y),
    (2, 24, .val (Value.int IntKind.i64 (-1))),
    (3, 7, .val (Value.int IntKind.i64 (-1)))]
def lOrmT2 (x : Fq) (y : Fq) : List (Nat × Tmp × Sp) :=
   [(0, 25, .val (Value.int IntKind.i64 (-1))),
    (1, 26, .fq x),
    (2, 27, .fq y),
    (3, 28, .fq (x.sub y)),
    (4, 29, .val (Value.int IntKind.i64 (-1))),
    (5, 30, .val (Value.bool false)),
    (6, 31, .val (Value.bool false)),
    (7, 32, .fq y),
    (8, 33, .fq x),
    (9, 34, .val (Value.int IntKind.i64 1)),
    (10, 35, .val (Value.int IntKind.i64 (-1))),
    (11, 36, .val (Value.int IntKind.i64 1)),
    (12, 37, .val (Value.bool false)),
    (13, 38, .val (Value.bool false)),
    (14, 39, .val (Value.bool false)),
    (15, 40, .val (Value.int IntKind.i64 (-1))),
    (16, 41, .val (Value.bool false)),
    (17, 42, .fq x),
    (18, 43, .fq y),
    (19, 44, .val (Value.bool false)),
    (20, 45, .val (Value.bool false)),
    (21, 46, .val (Value.bool false))]
def lOrmT3 (x : Fq) (y : Fq) (z : Fq) (l : Int) (m : Int) : List (Nat × Tmp × Sp) :=
   [(0, 47, .val (Value.int IntKind.i64 (-1))),
    (1, 48, .val (Value.bool true)),
    (2, 49, .val (Value.bool true)),
    (3, 50, .fq y),
    (4, 51, .fq z),
    (5, 52, .val (Value.int IntKind.i64 l)),
    (6, 53, .val (Value.bool true)),
    (7, 54, .val (Value.bool true)),
    (8, 55, .val (Value.bool true)),
    (9, 56, .fq x),
    (10, 57, .fq z),
    (11, 58, .val (Value.int IntKind.i64 m)),
    (12, 59, .val (Value.bool false)),
    (13, 60, .val (Value.bool false))]
def lOrmT4 (x : Fq) (y : Fq) (z : Fq) : List (Nat × Tmp × Sp) :=
   [(0, 61, .fq x),
    (1, 62, .fq z),
    (2, 63, .fq (x.add z)),
    (3, 64, .fq y),
    (4, 65, .fq z),
    (5, 66, .fq (y.add z)),
    (6, 67, .val (Value.int IntKind.i64 (-1))),
    (7, 68, .val (Value.int IntKind.i64 (-1))),
    (8, 69, .val (Value.bool false))]
def lOrmT5 (z : Fq) (s : Int) : List (Nat × Tmp × Sp) :=
   [(0, 70, .fq z),
    (1, 71, .val (Value.int IntKind.i64 s)),
    (2, 72, .val (Value.bool true)),
    (3, 73, .val (Value.bool true)),
    (4, 74, .val undef),
    (5, 75, .val undef),
    (6, 76, .val undef),
    (7, 77, .val undef),
    (8, 78, .val undef),
    (9, 79, .val undef),
    (10, 80, .val undef),
    (11, 81, .val undef),
    (12, 82, .val undef),
    (13, 83, .val (Value.bool true)),
    (14, 84, .val (Value.bool true)),
    (15, 85, .val (Value.bool true)),
    (16, 86, .val (Value.bool true)),
    (17, 6, .val (Value.bool true))]
def lOrmT6 (x : Fq) (y : Fq) (z : Fq) : List (Nat × Tmp × Sp) :=
   [(0, 8, .fq x),
    (1, 9, .val (Value.bool true)),
    (2, 10, .val (Value.bool false)),
    (3, 11, .val (Value.bool false)),
    (4, 12, .fq y),
    (5, 13, .val (Value.bool true)),
    (6, 14, .val (Value.bool false)),
    (7, 15, .val (Value.bool false)),
    (8, 16, .val (Value.bool false)),
    (9, 17, .fq z),
    (10, 18, .val (Value.bool true)),
    (11, 19, .val (Value.bool false)),
    (12, 20, .val (Value.bool false))]
def lOrmT7 (x : Fq) (y : Fq) : List (Nat × Tmp × Sp) :=
   [(0, 22, .fq x),
    (1, 23, .fq y),
    (2, 24, .val (Value.int IntKind.i64 (-1))),
    (3, 7, .val (Value.int IntKind.i64 (-1)))]
def lOrmT8 (x : Fq) (y : Fq) : List (Nat × Tmp × Sp) :=
   [(0, 25, .val (Value.int IntKind.i64 (-1))),
    (1, 26, .fq x),
    (2, 27, .fq y),
    (3, 28, .fq (x.sub y)),
    (4, 29, .val (Value.int IntKind.i64 (-1))),
    (5, 30, .val (Value.bool false)),
    (6, 31, .val (Value.bool false)),
    (7, 32, .fq y),
    (8, 33, .fq x),
    (9, 34, .val (Value.int IntKind.i64 1)),
    (10, 35, .val (Value.int IntKind.i64 (-1))),
    (11, 36, .val (Value.int IntKind.i64 1)),
    (12, 37, .val (Value.bool false)),
    (13, 38, .val (Value.bool false)),
    (14, 39, .val (Value.bool false)),
    (15, 40, .val (Value.int IntKind.i64 (-1))),
    (16, 41, .val (Value.bool false)),
    (17, 42, .fq x),
    (18, 43, .fq y),
    (19, 44, .val (Value.bool false)),
    (20, 45, .val (Value.bool false)),
    (21, 46, .val (Value.bool false))]
def lOrmT9 (y : Fq) (z : Fq) (l : Int) : List (Nat × Tmp × Sp) :=
   [(0, 47, .val (Value.int IntKind.i64 (-1))),
    (1, 48, .val (Value.bool true)),
    (2, 49, .val (Value.bool true)),
    (3, 50, .fq y),
    (4, 51, .fq z),
    (5, 52, .val (Value.int IntKind.i64 l)),
    (6, 53, .val (Value.bool false)),
    (7, 54, .val (Value.bool false)),
    (8, 55, .val (Value.bool false)),
    (9, 56, .val undef),
    (10, 57, .val undef),
    (11, 58, .val undef),
    (12, 59, .val undef),
    (13, 60, .val (Value.bool false))]
def lOrmT10 (x : Fq) (y : Fq) (z : Fq) : List (Nat × Tmp × Sp) :=
   [(0, 61, .fq x),
    (1, 62, .fq z),
    (2, 63, .fq (x.add z)),
    (3, 64, .fq y),
    (4, 65, .fq z),
    (5, 66, .fq (y.add z)),
    (6, 67, .val (Value.int IntKind.i64 (-1))),
    (7, 68, .val (Value.int IntKind.i64 (-1))),
    (8, 69, .val (Value.bool false))]
def lOrmT11 (z : Fq) (s : Int) : List (Nat × Tmp × Sp) :=
   [(0, 70, .fq z),
    (1, 71, .val (Value.int IntKind.i64 s)),
    (2, 72, .val (Value.bool true)),
    (3, 73, .val (Value.bool true)),
    (4, 74, .val undef),
    (5, 75, .val undef),
    (6, 76, .val undef),
    (7, 77, .val undef),
    (8, 78, .val undef),
    (9, 79, .val undef),
    (10, 80, .val undef),
    (11, 81, .val undef),
    (12, 82, .val undef),
    (13, 83, .val (Value.bool true)),
    (14, 84, .val (Value.bool true)),
    (15, 85, .val (Value.bool true)),
    (16, 86, .val (Value.bool true)),
    (17, 6, .val (Value.bool true))]
def lOrmT12 (x : Fq) (y : Fq) (z : Fq) : List (Nat × Tmp × Sp) :=
   [(0, 8, .fq x),
    (1, 9, .val (Value.bool true)),
    (2, 10, .val (Value.bool false)),
    (3, 11, .val (Value.bool false)),
    (4, 12, .fq y),
    (5, 13, .val (Value.bool true)),
    (6, 14, .val (Value.bool false)),
    (7, 15, .val (Value.bool false)),
    (8, 16, .val (Value.bool false)),
    (9, 17, .fq z),
    (10, 18, .val (Value.bool true)),
    (11, 19, .val (Value.bool false)),
    (12, 20, .val (Value.bool false))]
def lOrmT13 (x : Fq) (y : Fq) : List (Nat × Tmp × Sp) :=
   [(0, 22, .fq x),
    (1, 23, .fq y),
    (2, 24, .val (Value.int IntKind.i64 (-1))),
    (3, 7, .val (Value.int IntKind.i64 (-1)))]
def lOrmT14 (x : Fq) (y : Fq) : List (Nat × Tmp × Sp) :=
   [(0, 25, .val (Value.int IntKind.i64 (-1))),
    (1, 26, .fq x),
    (2, 27, .fq y),
    (3, 28, .fq (x.sub y)),
    (4, 29, .val (Value.int IntKind.i64 (-1))),
    (5, 30, .val (Value.bool false)),
    (6, 31, .val (Value.bool false)),
    (7, 32, .fq y),
    (8, 33, .fq x),
    (9, 34, .val (Value.int IntKind.i64 1)),
    (10, 35, .val (Value.int IntKind.i64 (-1))),
    (11, 36, .val (Value.int IntKind.i64 1)),
    (12, 37, .val (Value.bool false)),
    (13, 38, .val (Value.bool false)),
    (14, 39, .val (Value.bool false)),
    (15, 40, .val (Value.int IntKind.i64 (-1))),
    (16, 41, .val (Value.bool false)),
    (17, 42, .fq x),
    (18, 43, .fq y),
    (19, 44, .val (Value.bool false)),
    (20, 45, .val (Value.bool false)),
    (21, 46, .val (Value.bool false))]
def lOrmT15 (x : Fq) (y : Fq) (z : Fq) (l : Int) (m : Int) : List (Nat × Tmp × Sp) :=
   [(0, 47, .val (Value.int IntKind.i64 (-1))),
    (1, 48, .val (Value.bool true)),
    (2, 49, .val (Value.bool true)),
    (3, 50, .fq y),
    (4, 51, .fq z),
    (5, 52, .val (Value.int IntKind.i64 l)),
    (6, 53, .val (Value.bool true)),
    (7, 54, .val (Value.bool true)),
    (8, 55, .val (Value.bool true)),
    (9, 56, .fq x),
    (10, 57, .fq z),
    (11, 58, .val (Value.int IntKind.i64 m)),
    (12, 59, .val (Value.bool false)),
    (13, 60, .val (Value.bool false))]
def lOrmT16 (x : Fq) (y : Fq) (z : Fq) : List (Nat × Tmp × Sp) :=
   [(0, 61, .fq x),
    (1, 62, .fq z),
    (2, 63, .fq (x.add z)),
    (3, 64, .fq y),
    (4, 65, .fq z),
    (5, 66, .fq (y.add z)),
    (6, 67, .val (Value.int IntKind.i64 (-1))),
    (7, 68, .val (Value.int IntKind.i64 (-1))),
    (8, 69, .val (Value.bool false))]
def lOrmT17 (x : Fq) (y : Fq) (z : Fq) (s : Int) : List (Nat × Tmp × Sp) :=
   [(0, 70, .fq z),
    (1, 71, .val (Value.int IntKind.i64 s)),
    (2, 72, .val (Value.bool false)),
    (3, 73, .val (Value.bool false)),
    (4, 74, .fq x),
    (5, 75, .fq z),
    (6, 76, .fq (x.mul z)),
    (7, 77, .fq y),
    (8, 78, .fq z),
    (9, 79, .fq (y.mul z)),
    (10, 80, .val (Value.int IntKind.i64 (-1))),
    (11, 81, .val (Value.int IntKind.i64 (-1))),
    (12, 82, .val (Value.bool true)),
    (13, 83, .val (Value.bool true)),
    (14, 84, .val (Value.bool true)),
    (15, 85, .val (Value.bool true)),
    (16, 86, .val (Value.bool true)),
    (17, 6, .val (Value.bool true))]
def lOrmT18 (x : Fq) (y : Fq) (z : Fq) : List (Nat × Tmp × Sp) :=
   [(0, 8, .fq x),
    (1, 9, .val (Value.bool true)),
    (2, 10, .val (Value.bool false)),
    (3, 11, .val (Value.bool false)),
    (4, 12, .fq y),
    (5, 13, .val (Value.bool true)),
    (6, 14, .val (Value.bool false)),
    (7, 15, .val (Value.bool false)),
    (8, 16, .val (Value.bool false)),
    (9, 17, .fq z),
    (10, 18, .val (Value.bool true)),
    (11, 19, .val (Value.bool false)),
    (12, 20, .val (Value.bool false))]
def lOrmT19 (x : Fq) (y : Fq) : List (Nat × Tmp × Sp) :=
   [(0, 22, .fq x),
    (1, 23, .fq y),
    (2, 24, .val (Value.int IntKind.i64 (-1))),
    (3, 7, .val (Value.int IntKind.i64 (-1)))]
def lOrmT20 (x : Fq) (y : Fq) : List (Nat × Tmp × Sp) :=
   [(0, 25, .val (Value.int IntKind.i64 (-1))),
    (1, 26, .fq x),
    (2, 27, .fq y),
    (3, 28, .fq (x.sub y)),
    (4, 29, .val (Value.int IntKind.i64 (-1))),
    (5, 30, .val (Value.bool false)),
    (6, 31, .val (Value.bool false)),
    (7, 32, .fq y),
    (8, 33, .fq x),
    (9, 34, .val (Value.int IntKind.i64 1)),
    (10, 35, .val (Value.int IntKind.i64 (-1))),
    (11, 36, .val (Value.int IntKind.i64 1)),
    (12, 37, .val (Value.bool false)),
    (13, 38, .val (Value.bool false)),
    (14, 39, .val (Value.bool false)),
    (15, 40, .val (Value.int IntKind.i64 (-1))),
    (16, 41, .val (Value.bool false)),
    (17, 42, .fq x),
    (18, 43, .fq y),
    (19, 44, .val (Value.bool false)),
    (20, 45, .val (Value.bool false)),
    (21, 46, .val (Value.bool false))]
def lOrmT21 (y : Fq) (z : Fq) (l : Int) : List (Nat × Tmp × Sp) :=
   [(0, 47, .val (Value.int IntKind.i64 (-1))),
    (1, 48, .val (Value.bool true)),
    (2, 49, .val (Value.bool true)),
    (3, 50, .fq y),
    (4, 51, .fq z),
    (5, 52, .val (Value.int IntKind.i64 l)),
    (6, 53, .val (Value.bool false)),
    (7, 54, .val (Value.bool false)),
    (8, 55, .val (Value.bool false)),
    (9, 56, .val undef),
    (10, 57, .val undef),
    (11, 58, .val undef),
    (12, 59, .val undef),
    (13, 60, .val (Value.bool false))]
def lOrmT22 (x : Fq) (y : Fq) (z : Fq) : List (Nat × Tmp × Sp) :=
   [(0, 61, .fq x),
    (1, 62, .fq z),
    (2, 63, .fq (x.add z)),
    (3, 64, .fq y),
    (4, 65, .fq z),
    (5, 66, .fq (y.add z)),
    (6, 67, .val (Value.int IntKind.i64 (-1))),
    (7, 68, .val (Value.int IntKind.i64 (-1))),
    (8, 69, .val (Value.bool false))]
def lOrmT23 (x : Fq) (y : Fq) (z : Fq) (s : Int) : List (Nat × Tmp × Sp) :=
   [(0, 70, .fq z),
    (1, 71, .val (Value.int IntKind.i64 s)),
    (2, 72, .val (Value.bool false)),
    (3, 73, .val (Value.bool false)),
    (4, 74, .fq x),
    (5, 75, .fq z),
    (6, 76, .fq (x.mul z)),
    (7, 77, .fq y),
    (8, 78, .fq z),
    (9, 79, .fq (y.mul z)),
    (10, 80, .val (Value.int IntKind.i64 (-1))),
    (11, 81, .val (Value.int IntKind.i64 (-1))),
    (12, 82, .val (Value.bool true)),
    (13, 83, .val (Value.bool true)),
    (14, 84, .val (Value.bool true)),
    (15, 85, .val (Value.bool true)),
    (16, 86, .val (Value.bool true)),
    (17, 6, .val (Value.bool true))]
set_option maxHeartbeats 4000000 in
theorem c_lOrm (vx vy vz : Value) (x y z : Fq) (w : World) (ix : IsQ w vx x) (iy : IsQ w vy y) (iz : IsQ w vz z) (hx : x.ok 12) (ex : x.valid = true) (hy : y.ok 12) (ey : y.valid = true) (hz : z.ok 12) (ez : z.valid = true) (hk : x.cmp y = (-1)) :
    Calls Try.prog 8 #[vx, vy, vz] w fun e w' => RetV w (.bool true) e w' := by
  have K1 : Hid (x.cmp y = (-1)) := Lib.hid hk
  have K2 : Hid ((x.sub y).sgn = (-1)) := Lib.hid hk
  have K3 : Hid (y.cmp x = 1) := Lib.hid (by rw [o_anti ex ey, hk]; rfl)
  have K4 : Hid (x.same y = false) := Lib.hid (by rw [Bool.eq_false_iff]; intro h9; have h8 := (o_zero ex ey).2 (Fq.same_iff.1 h9); rw [hk] at h8; cases h8)
  have K5 : Hid ((x.add z).cmp (y.add z) = (-1)) := Lib.hid (by rw [o_add ex ey ez, hk])
  obtain ⟨l, hl⟩ : ∃ l, Hid (y.cmp z = l) := ⟨_, Lib.hid rfl⟩
  obtain ⟨m, hm⟩ : ∃ m, Hid (x.cmp z = m) := ⟨_, Lib.hid rfl⟩
  obtain ⟨s, hs⟩ : ∃ s, Hid (z.sgn = s) := ⟨_, Lib.hid rfl⟩
  by_cases h0 : s ≤ 0
  · have A1 : Hid (true = decide (s ≤ 0)) := Lib.hid (decide_eq_true h0).symm
    clear h0
    by_cases h1 : l ≤ 0
    · have B1 : Hid (true = decide (l ≤ 0)) := Lib.hid (decide_eq_true h1).symm
      have B2 := o_trans' ex ey ez hk hl.out hm.out (by decide) h1
      clear h1 hk
      obtain ⟨a0, c0, b0, d0, rfl, m0, k0⟩ := boxF ix
      obtain ⟨a1, c1, b1, d1, rfl, m1, k1⟩ := boxF (iy.mono m0)
      rw [World.size_alloc ] at k1
      have n1 := m0.trans (m1.mono m0.size)
      obtain ⟨a2, c2, b2, d2, rfl, m2, k2⟩ := boxF (iz.mono n1)
      rw [World.size_alloc, World.size_alloc ] at k2
      have n2 := n1.trans (m2.mono n1.size)
      clear ix iy iz
      go_enter Try.func8, Try.ntmps8
      go_upto_region 0 with (fail)
      go_cut [3, 4, 5, 6] (fun s_3 s_4 s_5 s_6 wx => s_3 = Value.pointer (some ⟨w.heap.size, 0, none⟩) ∧ s_4 = Value.pointer (some ⟨w.heap.size + 1, 0, none⟩) ∧ s_5 = Value.pointer (some ⟨w.heap.size + 2, 0, none⟩) ∧ s_6 = Value.bool false ∧ VarQ wx w.heap.size x ∧ VarQ wx (w.heap.size + 1) y ∧ VarQ wx (w.heap.size + 2) z ∧ Below w.heap.size w wx)
      case first =>
        go_wp2_with fail
        go_meet
        case rel => exact ⟨rfl, rfl, rfl, rfl, ((k0.mono m1).mono m2), (k1.mono m2), k2, n2⟩
      case rest =>
      clear m0 k0 m1 k1 m2 k2 n1 n2
      obtain ⟨rfl, rfl, rfl, rfl, V0, V1, V2, hb1⟩ := hcut
      go_upto_region 1 with (fail)
      go_cut [20] (fun s_20 wx => s_20 = Value.bool false ∧ VarQ wx w.heap.size x ∧ VarQ wx (w.heap.size + 1) y ∧ VarQ wx (w.heap.size + 2) z ∧ Below w.heap.size w wx)
      case first =>
        refine tF Try.f8 1 (lOrmT0 x y z) [] 13 0 ?_ ?_
        · refine ⟨fun _ _ F => gR rfl rfl (arm_loadF rfl (F.k 3 (Value.pointer (some ⟨w.heap.size, 0, none⟩))) (V0.mono F.below)).b, ?_⟩
          refine ⟨fun _ _ F => gR rfl rfl (arm_C1 rfl (enters Try.func18 rfl rfl) (F.f 0 rfl) (fun va w h1 => q_fitQ va x w h1 hx ex) (fun _ _ h => ofV h)).b, ?_⟩
          refine ⟨fun _ _ F => gR rfl rfl (arm_not rfl (F.f 1 rfl)).b, ?_⟩
          refine ⟨fun _ _ F => gR rfl rfl (arm_move (.inl rfl) (F.f 2 rfl)).b, ?_⟩
          refine ⟨fun _ _ F => gG F rfl rfl rfl rfl (arm_loadF rfl (F.k 4 (Value.pointer (some ⟨w.heap.size + 1, 0, none⟩))) (V1.mono F.below)).b, ?_⟩
          refine ⟨fun _ _ F => gG F rfl rfl rfl rfl (arm_C1 rfl (enters Try.func18 rfl rfl) (F.f 4 rfl) (fun va w h1 => q_fitQ va y w h1 hy ey) (fun _ _ h => ofV h)).b, ?_⟩
          refine ⟨fun _ _ F => gG F rfl rfl rfl rfl (arm_not rfl (F.f 5 rfl)).b, ?_⟩
          refine ⟨fun _ _ F => gR rfl rfl (arm_pick rfl (F.f 3 rfl) (fun h => by cases h) (fun _ => (F.f 6 rfl))).b, ?_⟩
          refine ⟨fun _ _ F => gR rfl rfl (arm_move (.inl rfl) (F.f 7 rfl)).b, ?_⟩
          refine ⟨fun _ _ F => gG F rfl rfl rfl rfl (arm_loadF rfl (F.k 5 (Value.pointer (some ⟨w.heap.size + 2, 0, none⟩))) (V2.mono F.below)).b, ?_⟩
          refine ⟨fun _ _ F => gG F rfl rfl rfl rfl (arm_C1 rfl (enters Try.func18 rfl rfl) (F.f 9 rfl) (fun va w h1 => q_fitQ va z w h1 hz ez) (fun _ _ h => ofV h)).b, ?_⟩
          refine ⟨fun _ _ F => gG F rfl rfl rfl rfl (arm_not rfl (F.f 10 rfl)).b, ?_⟩
          refine ⟨fun _ _ F => gR rfl rfl (arm_pick rfl (F.f 8 rfl) (fun h => by cases h) (fun _ => (F.f 11 rfl))).b, ?_⟩
          exact trivial
        intro E' hE gp wp bp G Gs
        obtain rfl : E' = [] := by simpa [subs] using hE
        have e_12 : gp 12 = Value.bool false := G 12 20 _ (by simp) rfl
        clear G Gs hE
        simp only [lOrmT0]
        simp only [qA, setD, qZ, qS, e_12]
        refine wpAny_done (by kernel_rfl) ?_ _
        go_wp2_with fail
        go_meet
        case rel => exact ⟨rfl, (V0.mono bp), (V1.mono bp), (V2.mono bp), (hb1.trans (bp.mono hb1.size))⟩
      case rest =>
      clear V0 V1 V2 hb1
      obtain ⟨rfl, V0, V1, V2, hb1⟩ := hcut
      go_upto_region 3 with (fail)
      go_cut [7] (fun s_7 wx => s_7 = Value.int IntKind.i64 (-1) ∧ VarQ wx w.heap.size x ∧ VarQ wx (w.heap.size + 1) y ∧ VarQ wx (w.heap.size + 2) z ∧ Below w.heap.size w wx)
      case first =>
        refine tF Try.f8 3 (lOrmT1 x y) [] 3 0 ?_ ?_
        · refine ⟨fun _ _ F => gR rfl rfl (arm_loadF rfl (F.k 3 (Value.pointer (some ⟨w.heap.size, 0, none⟩))) (V0.mono F.below)).b, ?_⟩
          refine ⟨fun _ _ F => gR rfl rfl (arm_loadF rfl (F.k 4 (Value.pointer (some ⟨w.heap.size + 1, 0, none⟩))) (V1.mono F.below)).b, ?_⟩
          refine ⟨fun _ _ F => gR rfl rfl (arm_C2 rfl (enters Try.func36 rfl rfl) (F.f 0 rfl) (F.f 1 rfl) (fun va vb w h1 h2 => q_fCmp va vb x y w h1 h2 (hx.mono (by decide)) (hy.mono (by decide))) (fun _ _ h => by have h' : RetV _ _ _ _ := h; rw [K1.out] at h'; exact ofV h')).b, ?_⟩
          refine ⟨fun _ _ F => gR rfl rfl (arm_move (.inr rfl) (F.f 2 rfl)).b, ?_⟩
          exact trivial
        intro E' hE gp wp bp G Gs
        obtain rfl : E' = [] := by simpa [subs] using hE
        have e_3 : gp 3 = Value.int IntKind.i64 (-1) := G 3 7 _ (by simp) rfl
        clear G Gs hE
        simp only [lOrmT1]
        simp only [qA, setD, qZ, qS, e_3]
        refine wpAny_done (by kernel_rfl) ?_ _
        go_wp2_with fail
        go_meet
        case rel => exact ⟨rfl, (V0.mono bp), (V1.mono bp), (V2.mono bp), (hb1.trans (bp.mono hb1.size))⟩
      case rest =>
      clear V0 V1 V2 hb1
      obtain ⟨rfl, V0, V1, V2, hb1⟩ := hcut
      go_upto_region 4 with (fail)
      go_cut [46] (fun s_46 wx => s_46 = Value.bool false ∧ VarQ wx w.heap.size x ∧ VarQ wx (w.heap.size + 1) y ∧ VarQ wx (w.heap.size + 2) z ∧ Below w.heap.size w wx)
      case first =>
        refine tF Try.f8 4 (lOrmT2 x y) [] 14 0 ?_ ?_
        · refine ⟨fun _ _ F => gR rfl rfl (arm_move (.inl rfl) (F.k 7 (Value.int IntKind.i64 (-1)))).b, ?_⟩
          refine ⟨fun _ _ F => gR rfl rfl (arm_loadF rfl (F.k 3 (Value.pointer (some ⟨w.heap.size, 0, none⟩))) (V0.mono F.below)).b, ?_⟩
          refine ⟨fun _ _ F => gR rfl rfl (arm_loadF rfl (F.k 4 (Value.pointer (some ⟨w.heap.size + 1, 0, none⟩))) (V1.mono F.below)).b, ?_⟩
          refine ⟨fun _ _ F => gR rfl rfl (arm_C2 rfl (enters Try.func34 rfl rfl) (F.f 1 rfl) (F.f 2 rfl) (fun va vb w h1 h2 => q_fSub va vb x y w h1 h2 (hx.mono (by decide)) (hy.mono (by decide))) (fun _ _ h => ofQ h)).b, ?_⟩
          refine ⟨fun _ _ F => gR rfl rfl (arm_C1 rfl (enters Try.func35 rfl rfl) (F.f 3 rfl) (fun va w h1 => q_fSign va (x.sub y) w h1 ((hx.sub hy).mono (by decide))) (fun _ _ h => by have h' : RetV _ _ _ _ := h; rw [K2.out] at h'; exact ofV h')).b, ?_⟩
          refine ⟨fun _ _ F => gR rfl rfl (arm_bin rfl (F.f 0 rfl) (F.f 4 rfl) (fun _ => rfl) (fun _ => rfl)).b, ?_⟩
          refine ⟨fun _ _ F => gR rfl rfl (arm_move (.inl rfl) (F.f 5 rfl)).b, ?_⟩
          refine ⟨fun _ _ F => gG F rfl rfl rfl rfl (arm_loadF rfl (F.k 4 (Value.pointer (some ⟨w.heap.size + 1, 0, none⟩))) (V1.mono F.below)).b, ?_⟩
          refine ⟨fun _ _ F => gG F rfl rfl rfl rfl (arm_loadF rfl (F.k 3 (Value.pointer (some ⟨w.heap.size, 0, none⟩))) (V0.mono F.below)).b, ?_⟩
          refine ⟨fun _ _ F => gG F rfl rfl rfl rfl (arm_C2 rfl (enters Try.func36 rfl rfl) (F.f 7 rfl) (F.f 8 rfl) (fun va vb w h1 h2 => q_fCmp va vb y x w h1 h2 (hy.mono (by decide)) (hx.mono (by decide))) (fun _ _ h => by have h' : RetV _ _ _ _ := h; rw [K3.out] at h'; exact ofV h')).b, ?_⟩
          refine ⟨fun _ _ F => gG F rfl rfl rfl rfl (arm_move (.inl rfl) (F.k 7 (Value.int IntKind.i64 (-1)))).b, ?_⟩
          refine ⟨fun _ _ F => gG F rfl rfl rfl rfl (arm_negI rfl (F.f 10 rfl) (by decide +kernel)).b, ?_⟩
          refine ⟨fun _ _ F => gG F rfl rfl rfl rfl (arm_bin rfl (F.f 9 rfl) (F.f 11 rfl) (fun _ => rfl) (fun _ => rfl)).b, ?_⟩
          refine ⟨fun _ _ F => gR rfl rfl (arm_pick rfl (F.f 6 rfl) (fun h => by cases h) (fun _ => (F.f 12 rfl))).b, ?_⟩
          refine ⟨fun _ _ F => gR rfl rfl (arm_move (.inl rfl) (F.f 13 rfl)).b, ?_⟩
          refine ⟨fun _ _ F => gG F rfl rfl rfl rfl (arm_move (.inl rfl) (F.k 7 (Value.int IntKind.i64 (-1)))).b, ?_⟩
          refine ⟨fun _ _ F => gG F rfl rfl rfl rfl (arm_bin rfl (F.f 15 rfl) Is.const (fun _ => rfl) (fun _ => rfl)).b, ?_⟩
          refine ⟨fun _ _ F => gG F rfl rfl rfl rfl (arm_loadF rfl (F.k 3 (Value.pointer (some ⟨w.heap.size, 0, none⟩))) (V0.mono F.below)).b, ?_⟩
          refine ⟨fun _ _ F => gG F rfl rfl rfl rfl (arm_loadF rfl (F.k 4 (Value.pointer (some ⟨w.heap.size + 1, 0, none⟩))) (V1.mono F.below)).b, ?_⟩
          refine ⟨fun _ _ F => gG F rfl rfl rfl rfl (arm_C2 rfl (enters Try.func16 rfl rfl) (F.f 17 rfl) (F.f 18 rfl) (fun va vb w h1 h2 => q_Same va vb x y w h1 h2 (hx.mono (by decide)) (hy.mono (by decide))) (fun _ _ h => by have h' : RetV _ _ _ _ := h; rw [K4.out] at h'; exact ofV h')).b, ?_⟩
          refine ⟨fun _ _ F => gG F rfl rfl rfl rfl (arm_bin rfl (F.f 16 rfl) (F.f 19 rfl) (fun _ => rfl) (fun _ => rfl)).b, ?_⟩
          refine ⟨fun _ _ F => gR rfl rfl (arm_pick rfl (F.f 14 rfl) (fun h => by cases h) (fun _ => (F.f 20 rfl))).b, ?_⟩
          exact trivial
        intro E' hE gp wp bp G Gs
        obtain rfl : E' = [] := by simpa [subs] using hE
        have e_21 : gp 21 = Value.bool false := G 21 46 _ (by simp) rfl
        clear G Gs hE
        simp only [lOrmT2]
        simp only [qA, setD, qZ, qS, e_21]
        refine wpAny_done (by kernel_rfl) ?_ _
        go_wp2_with fail
        go_meet
        case rel => exact ⟨rfl, (V0.mono bp), (V1.mono bp), (V2.mono bp), (hb1.trans (bp.mono hb1.size))⟩
      case rest =>
      clear V0 V1 V2 hb1
      obtain ⟨rfl, V0, V1, V2, hb1⟩ := hcut
      go_upto_region 6 with (fail)
      go_cut [60] (fun s_60 wx => s_60 = Value.bool false ∧ VarQ wx w.heap.size x ∧ VarQ wx (w.heap.size + 1) y ∧ VarQ wx (w.heap.size + 2) z ∧ Below w.heap.size w wx)
      case first =>
        refine tF Try.f8 6 (lOrmT3 x y z l m) [] 12 0 ?_ ?_
        · refine ⟨fun _ _ F => gR rfl rfl (arm_move (.inl rfl) (F.k 7 (Value.int IntKind.i64 (-1)))).b, ?_⟩
          refine ⟨fun _ _ F => gR rfl rfl (arm_bin rfl (F.f 0 rfl) Is.const (fun _ => rfl) (fun _ => rfl)).b, ?_⟩
          refine ⟨fun _ _ F => gR rfl rfl (arm_move (.inl rfl) (F.f 1 rfl)).b, ?_⟩
          refine ⟨fun _ _ F => gG F rfl rfl rfl rfl (arm_loadF rfl (F.k 4 (Value.pointer (some ⟨w.heap.size + 1, 0, none⟩))) (V1.mono F.below)).b, ?_⟩
          refine ⟨fun _ _ F => gG F rfl rfl rfl rfl (arm_loadF rfl (F.k 5 (Value.pointer (some ⟨w.heap.size + 2, 0, none⟩))) (V2.mono F.below)).b, ?_⟩
          refine ⟨fun _ _ F => gG F rfl rfl rfl rfl (arm_C2 rfl (enters Try.func36 rfl rfl) (F.f 3 rfl) (F.f 4 rfl) (fun va vb w h1 h2 => q_fCmp va vb y z w h1 h2 (hy.mono (by decide)) (hz.mono (by decide))) (fun _ _ h => by have h' : RetV _ _ _ _ := h; rw [hl.out] at h'; exact ofV h')).b, ?_⟩
          refine ⟨fun _ _ F => gG F rfl rfl rfl rfl (arm_bin rfl (F.f 5 rfl) Is.const (fun _ => rfl) (fun w => by rw [B1.out]; rfl)).b, ?_⟩
          refine ⟨fun _ _ F => gR rfl rfl (arm_pick rfl (F.f 2 rfl) (fun _ => (F.f 6 rfl)) (fun h => by cases h)).b, ?_⟩
          refine ⟨fun _ _ F => gR rfl rfl (arm_move (.inl rfl) (F.f 7 rfl)).b, ?_⟩
          refine ⟨fun _ _ F => gG F rfl rfl rfl rfl (arm_loadF rfl (F.k 3 (Value.pointer (some ⟨w.heap.size, 0, none⟩))) (V0.mono F.below)).b, ?_⟩
          refine ⟨fun _ _ F => gG F rfl rfl rfl rfl (arm_loadF rfl (F.k 5 (Value.pointer (some ⟨w.heap.size + 2, 0, none⟩))) (V2.mono F.below)).b, ?_⟩
          refine ⟨fun _ _ F => gG F rfl rfl rfl rfl (arm_C2 rfl (enters Try.func36 rfl rfl) (F.f 9 rfl) (F.f 10 rfl) (fun va vb w h1 h2 => q_fCmp va vb x z w h1 h2 (hx.mono (by decide)) (hz.mono (by decide))) (fun _ _ h => by have h' : RetV _ _ _ _ := h; rw [hm.out] at h'; exact ofV h')).b, ?_⟩
          refine ⟨fun _ _ F => gG F rfl rfl rfl rfl (arm_bin rfl (F.f 11 rfl) Is.const (fun _ => rfl) (fun w => by rw [B2.out]; rfl)).b, ?_⟩
          refine ⟨fun _ _ F => gR rfl rfl (arm_pick rfl (F.f 8 rfl) (fun _ => (F.f 12 rfl)) (fun h => by cases h)).b, ?_⟩
          exact trivial
        intro E' hE gp wp bp G Gs
        obtain rfl : E' = [] := by simpa [subs] using hE
        have e_13 : gp 13 = Value.bool false := G 13 60 _ (by simp) rfl
        clear G Gs hE
        simp only [lOrmT3]
        simp only [qA, setD, qZ, qS, e_13]
        refine wpAny_done (by kernel_rfl) ?_ _
        go_wp2_with fail
        go_meet
        case rel => exact ⟨rfl, (V0.mono bp), (V1.mono bp), (V2.mono bp), (hb1.trans (bp.mono hb1.size))⟩
      case rest =>
      clear V0 V1 V2 hb1
      obtain ⟨rfl, V0, V1, V2, hb1⟩ := hcut
      go_upto_region 8 with (fail)
      go_cut [69] (fun s_69 wx => s_69 = Value.bool false ∧ VarQ wx w.heap.size x ∧ VarQ wx (w.heap.size + 1) y ∧ VarQ wx (w.heap.size + 2) z ∧ Below w.heap.size w wx)
      case first =>
        refine tG Try.f8 8 (lOrmT4 x y z) [] 5 0 ?_ ?_
        · refine ⟨fun _ _ F => gR rfl rfl (arm_loadF rfl (F.k 3 (Value.pointer (some ⟨w.heap.size, 0, none⟩))) (V0.mono F.below)).b, ?_⟩
          refine ⟨fun _ _ F => gR rfl rfl (arm_loadF rfl (F.k 5 (Value.pointer (some ⟨w.heap.size + 2, 0, none⟩))) (V2.mono F.below)).b, ?_⟩
          refine ⟨fun _ _ F => gR rfl rfl (arm_C2 rfl (enters Try.func37 rfl rfl) (F.f 0 rfl) (F.f 1 rfl) (fun va vb w h1 h2 => q_fAdd va vb x z w h1 h2 (hx.mono (by decide)) (hz.mono (by decide))) (fun _ _ h => ofQ h)).b, ?_⟩
          refine ⟨fun _ _ F => gR rfl rfl (arm_loadF rfl (F.k 4 (Value.pointer (some ⟨w.heap.size + 1, 0, none⟩))) (V1.mono F.below)).b, ?_⟩
          refine ⟨fun _ _ F => gR rfl rfl (arm_loadF rfl (F.k 5 (Value.pointer (some ⟨w.heap.size + 2, 0, none⟩))) (V2.mono F.below)).b, ?_⟩
          refine ⟨fun _ _ F => gR rfl rfl (arm_C2 rfl (enters Try.func37 rfl rfl) (F.f 3 rfl) (F.f 4 rfl) (fun va vb w h1 h2 => q_fAdd va vb y z w h1 h2 (hy.mono (by decide)) (hz.mono (by decide))) (fun _ _ h => ofQ h)).b, ?_⟩
          refine ⟨fun _ _ F => gR rfl rfl (arm_C2 rfl (enters Try.func36 rfl rfl) (F.f 2 rfl) (F.f 5 rfl) (fun va vb w h1 h2 => q_fCmp va vb (x.add z) (y.add z) w h1 h2 ((hx.add hz).mono (by decide)) ((hy.add hz).mono (by decide))) (fun _ _ h => by have h' : RetV _ _ _ _ := h; rw [K5.out] at h'; exact ofV h')).b, ?_⟩
          refine ⟨fun _ _ F => gR rfl rfl (arm_move (.inl rfl) (F.k 7 (Value.int IntKind.i64 (-1)))).b, ?_⟩
          refine ⟨fun _ _ F => gR rfl rfl (arm_bin rfl (F.f 6 rfl) (F.f 7 rfl) (fun _ => rfl) (fun _ => rfl)).b, ?_⟩
          exact trivial
        intro E' hE gp wp bp G Gs
        obtain rfl : E' = [] := by simpa [subs] using hE
        have e_8 : gp 8 = Value.bool false := G 8 69 _ (by simp) rfl
        clear G Gs hE
        simp only [lOrmT4]
        simp only [qA, setD, qZ, qS, e_8]
        refine wpAny_done (by kernel_rfl) ?_ _
        go_wp2_with fail
        go_meet
        case rel => exact ⟨rfl, (V0.mono bp), (V1.mono bp), (V2.mono bp), (hb1.trans (bp.mono hb1.size))⟩
      case rest =>
      clear V0 V1 V2 hb1
      obtain ⟨rfl, V0, V1, V2, hb1⟩ := hcut
      go_upto_region 10 with (fail)
      go_cut [6] (fun s_6 wx => s_6 = Value.bool true ∧ VarQ wx w.heap.size x ∧ VarQ wx (w.heap.size + 1) y ∧ VarQ wx (w.heap.size + 2) z ∧ Below w.heap.size w wx)
      case first =>
        refine tG Try.f8 10 (lOrmT5 z s) [] 14 0 ?_ ?_
        · refine ⟨fun _ _ F => gR rfl rfl (arm_loadF rfl (F.k 5 (Value.pointer (some ⟨w.heap.size + 2, 0, none⟩))) (V2.mono F.below)).b, ?_⟩
          refine ⟨fun _ _ F => gR rfl rfl (arm_C1 rfl (enters Try.func35 rfl rfl) (F.f 0 rfl) (fun va w h1 => q_fSign va z w h1 (hz.mono (by decide))) (fun _ _ h => by have h' : RetV _ _ _ _ := h; rw [hs.out] at h'; exact ofV h')).b, ?_⟩
          refine ⟨fun _ _ F => gR rfl rfl (arm_bin rfl (F.f 1 rfl) Is.const (fun _ => rfl) (fun w => by rw [A1.out]; rfl)).b, ?_⟩
          refine ⟨fun _ _ F => gR rfl rfl (arm_move (.inl rfl) (F.f 2 rfl)).b, ?_⟩
          refine ⟨fun _ _ F => gS F rfl rfl rfl rfl rfl rfl, ?_⟩
          refine ⟨fun _ _ F => gS F rfl rfl rfl rfl rfl rfl, ?_⟩
          refine ⟨fun _ _ F => gS F rfl rfl rfl rfl rfl rfl, ?_⟩
          refine ⟨fun _ _ F => gS F rfl rfl rfl rfl rfl rfl, ?_⟩
          refine ⟨fun _ _ F => gS F rfl rfl rfl rfl rfl rfl, ?_⟩
          refine ⟨fun _ _ F => gS F rfl rfl rfl rfl rfl rfl, ?_⟩
          refine ⟨fun _ _ F => gS F rfl rfl rfl rfl rfl rfl, ?_⟩
          refine ⟨fun _ _ F => gS F rfl rfl rfl rfl rfl rfl, ?_⟩
          refine ⟨fun _ _ F => gS F rfl rfl rfl rfl rfl rfl, ?_⟩
          refine ⟨fun _ _ F => gR rfl rfl (arm_pick rfl (F.f 3 rfl) (fun _ => Is.const) (fun h => by cases h)).b, ?_⟩
          refine ⟨fun _ _ F => gR rfl rfl (arm_move (.inl rfl) (F.f 13 rfl)).b, ?_⟩
          refine ⟨fun _ _ F => gG F rfl rfl rfl rfl (arm_C0 rfl (enters Try.func11 rfl rfl)  (fun w => c_awake2 w) (fun _ _ h => ofV h)).b, ?_⟩
          refine ⟨fun _ _ F => gR rfl rfl (arm_pick rfl (F.f 14 rfl) (fun _ => (F.f 15 rfl)) (fun h => by cases h)).b, ?_⟩
          refine ⟨fun _ _ F => gR rfl rfl (arm_move (.inr rfl) (F.f 16 rfl)).b, ?_⟩
          exact trivial
        intro E' hE gp wp bp G Gs
        obtain rfl : E' = [] := by simpa [subs] using hE
        have e_17 : gp 17 = Value.bool true := G 17 6 _ (by simp) rfl
        clear G Gs hE
        simp only [lOrmT5]
        simp only [qA, setD, qZ, qS, e_17]
        refine wpAny_done (by kernel_rfl) ?_ _
        go_wp2_with fail
        go_meet
        case rel => exact ⟨rfl, (V0.mono bp), (V1.mono bp), (V2.mono bp), (hb1.trans (bp.mono hb1.size))⟩
      case rest =>
      clear V0 V1 V2 hb1
      obtain ⟨rfl, V0, V1, V2, hb1⟩ := hcut
      go_wp2
      go_ret
      exact ⟨rfl, hb1⟩
    · have B1 : Hid (false = decide (l ≤ 0)) := Lib.hid (decide_eq_false h1).symm
      clear h1 hk
      obtain ⟨a0, c0, b0, d0, rfl, m0, k0⟩ := boxF ix
      obtain ⟨a1, c1, b1, d1, rfl, m1, k1⟩ := boxF (iy.mono m0)
      rw [World.size_alloc ] at k1
      have n1 := m0.trans (m1.mono m0.size)
      obtain ⟨a2, c2, b2, d2, rfl, m2, k2⟩ := boxF (iz.mono n1)
      rw [World.size_alloc, World.size_alloc ] at k2
      have n2 := n1.trans (m2.mono n1.size)
      clear ix iy iz
      go_enter Try.func8, Try.ntmps8
      go_upto_region 0 with (fail)
      go_cut [3, 4, 5, 6] (fun s_3 s_4 s_5 s_6 wx => s_3 = Value.pointer (some ⟨w.heap.size, 0, none⟩) ∧ s_4 = Value.pointer (some ⟨w.heap.size + 1, 0, none⟩) ∧ s_5 = Value.pointer (some ⟨w.heap.size + 2, 0, none⟩) ∧ s_6 = Value.bool false ∧ VarQ wx w.heap.size x ∧ VarQ wx (w.heap.size + 1) y ∧ VarQ wx (w.heap.size + 2) z ∧ Below w.heap.size w wx)
      case first =>
        go_wp2_with fail
        go_meet
        case rel => exact ⟨rfl, rfl, rfl, rfl, ((k0.mono m1).mono m2), (k1.mono m2), k2, n2⟩
      case rest =>
      clear m0 k0 m1 k1 m2 k2 n1 n2
      obtain ⟨rfl, rfl, rfl, rfl, V0, V1, V2, hb1⟩ := hcut
      go_upto_region 1 with (fail)
      go_cut [20] (fun s_20 wx => s_20 = Value.bool false ∧ VarQ wx w.heap.size x ∧ VarQ wx (w.heap.size + 1) y ∧ VarQ wx (w.heap.size + 2) z ∧ Below w.heap.size w wx)
      case first =>
        refine tF Try.f8 1 (lOrmT6 x y z) [] 13 0 ?_ ?_
        · refine ⟨fun _ _ F => gR rfl rfl (arm_loadF rfl (F.k 3 (Value.pointer (some ⟨w.heap.size, 0, none⟩))) (V0.mono F.below)).b, ?_⟩
          refine ⟨fun _ _ F => gR rfl rfl (arm_C1 rfl (enters Try.func18 rfl rfl) (F.f 0 rfl) (fun va w h1 => q_fitQ va x w h1 hx ex) (fun _ _ h => ofV h)).b, ?_⟩
          refine ⟨fun _ _ F => gR rfl rfl (arm_not rfl (F.f 1 rfl)).b, ?_⟩
          refine ⟨fun _ _ F => gR rfl rfl (arm_move (.inl rfl) (F.f 2 rfl)).b, ?_⟩
          refine ⟨fun _ _ F => gG F rfl rfl rfl rfl (arm_loadF rfl (F.k 4 (Value.pointer (some ⟨w.heap.size + 1, 0, none⟩))) (V1.mono F.below)).b, ?_⟩
          refine ⟨fun _ _ F => gG F rfl rfl rfl rfl (arm_C1 rfl (enters Try.func18 rfl rfl) (F.f 4 rfl) (fun va w h1 => q_fitQ va y w h1 hy ey) (fun _ _ h => ofV h)).b, ?_⟩
          refine ⟨fun _ _ F => gG F rfl rfl rfl rfl (arm_not rfl (F.f 5 rfl)).b, ?_⟩
          refine ⟨fun _ _ F => gR rfl rfl (arm_pick rfl (F.f 3 rfl) (fun h => by cases h) (fun _ => (F.f 6 rfl))).b, ?_⟩
          refine ⟨fun _ _ F => gR rfl rfl (arm_move (.inl rfl) (F.f 7 rfl)).b, ?_⟩
          refine ⟨fun _ _ F => gG F rfl rfl rfl rfl (arm_loadF rfl (F.k 5 (Value.pointer (some ⟨w.heap.size + 2, 0, none⟩))) (V2.mono F.below)).b, ?_⟩
          refine ⟨fun _ _ F => gG F rfl rfl rfl rfl (arm_C1 rfl (enters Try.func18 rfl rfl) (F.f 9 rfl) (fun va w h1 => q_fitQ va z w h1 hz ez) (fun _ _ h => ofV h)).b, ?_⟩
          refine ⟨fun _ _ F => gG F rfl rfl rfl rfl (arm_not rfl (F.f 10 rfl)).b, ?_⟩
          refine ⟨fun _ _ F => gR rfl rfl (arm_pick rfl (F.f 8 rfl) (fun h => by cases h) (fun _ => (F.f 11 rfl))).b, ?_⟩
          exact trivial
        intro E' hE gp wp bp G Gs
        obtain rfl : E' = [] := by simpa [subs] using hE
        have e_12 : gp 12 = Value.bool false := G 12 20 _ (by simp) rfl
        clear G Gs hE
        simp only [lOrmT6]
        simp only [qA, setD, qZ, qS, e_12]
        refine wpAny_done (by kernel_rfl) ?_ _
        go_wp2_with fail
        go_meet
        case rel => exact ⟨rfl, (V0.mono bp), (V1.mono bp), (V2.mono bp), (hb1.trans (bp.mono hb1.size))⟩
      case rest =>
      clear V0 V1 V2 hb1
      obtain ⟨rfl, V0, V1, V2, hb1⟩ := hcut
      go_upto_region 3 with (fail)
      go_cut [7] (fun s_7 wx => s_7 = Value.int IntKind.i64 (-1) ∧ VarQ wx w.heap.size x ∧ VarQ wx (w.heap.size + 1) y ∧ VarQ wx (w.heap.size + 2) z ∧ Below w.heap.size w wx)
      case first =>
        refine tF Try.f8 3 (lOrmT7 x y) [] 3 0 ?_ ?_
        · refine ⟨fun _ _ F => gR rfl rfl (arm_loadF rfl (F.k 3 (Value.pointer (some ⟨w.heap.size, 0, none⟩))) (V0.mono F.below)).b, ?_⟩
          refine ⟨fun _ _ F => gR rfl rfl (arm_loadF rfl (F.k 4 (Value.pointer (some ⟨w.heap.size + 1, 0, none⟩))) (V1.mono F.below)).b, ?_⟩
          refine ⟨fun _ _ F => gR rfl rfl (arm_C2 rfl (enters Try.func36 rfl rfl) (F.f 0 rfl) (F.f 1 rfl) (fun va vb w h1 h2 => q_fCmp va vb x y w h1 h2 (hx.mono (by decide)) (hy.mono (by decide))) (fun _ _ h => by have h' : RetV _ _ _ _ := h; rw [K1.out] at h'; exact ofV h')).b, ?_⟩
          refine ⟨fun _ _ F => gR rfl rfl (arm_move (.inr rfl) (F.f 2 rfl)).b, ?_⟩
          exact trivial
        intro E' hE gp wp bp G Gs
        obtain rfl : E' = [] := by simpa [subs] using hE
        have e_3 : gp 3 = Value.int IntKind.i64 (-1) := G 3 7 _ (by simp) rfl
        clear G Gs hE
        simp only [lOrmT7]
        simp only [qA, setD, qZ, qS, e_3]
        refine wpAny_done (by kernel_rfl) ?_ _
        go_wp2_with fail
        go_meet
        case rel => exact ⟨rfl, (V0.mono bp), (V1.mono bp), (V2.mono bp), (hb1.trans (bp.mono hb1.size))⟩
      case rest =>
      clear V0 V1 V2 hb1
      obtain ⟨rfl, V0, V1, V2, hb1⟩ := hcut
      go_upto_region 4 with (fail)
      go_cut [46] (fun s_46 wx => s_46 = Value.bool false ∧ VarQ wx w.heap.size x ∧ VarQ wx (w.heap.size + 1) y ∧ VarQ wx (w.heap.size + 2) z ∧ Below w.heap.size w wx)
      case first =>
        refine tF Try.f8 4 (lOrmT8 x y) [] 14 0 ?_ ?_
        · refine ⟨fun _ _ F => gR rfl rfl (arm_move (.inl rfl) (F.k 7 (Value.int IntKind.i64 (-1)))).b, ?_⟩
          refine ⟨fun _ _ F => gR rfl rfl (arm_loadF rfl (F.k 3 (Value.pointer (some ⟨w.heap.size, 0, none⟩))) (V0.mono F.below)).b, ?_⟩
          refine ⟨fun _ _ F => gR rfl rfl (arm_loadF rfl (F.k 4 (Value.pointer (some ⟨w.heap.size + 1, 0, none⟩))) (V1.mono F.below)).b, ?_⟩
          refine ⟨fun _ _ F => gR rfl rfl (arm_C2 rfl (enters Try.func34 rfl rfl) (F.f 1 rfl) (F.f 2 rfl) (fun va vb w h1 h2 => q_fSub va vb x y w h1 h2 (hx.mono (by decide)) (hy.mono (by decide))) (fun _ _ h => ofQ h)).b, ?_⟩
          refine ⟨fun _ _ F => gR rfl rfl (arm_C1 rfl (enters Try.func35 rfl rfl) (F.f 3 rfl) (fun va w h1 => q_fSign va (x.sub y) w h1 ((hx.sub hy).mono (by decide))) (fun _ _ h => by have h' : RetV _ _ _ _ := h; rw [K2.out] at h'; exact ofV h')).b, ?_⟩
          refine ⟨fun _ _ F => gR rfl rfl (arm_bin rfl (F.f 0 rfl) (F.f 4 rfl) (fun _ => rfl) (fun _ => rfl)).b, ?_⟩
          refine ⟨fun _ _ F => gR rfl rfl (arm_move (.inl rfl) (F.f 5 rfl)).b, ?_⟩
          refine ⟨fun _ _ F => gG F rfl rfl rfl rfl (arm_loadF rfl (F.k 4 (Value.pointer (some ⟨w.heap.size + 1, 0, none⟩))) (V1.mono F.below)).b, ?_⟩
          refine ⟨fun _ _ F => gG F rfl rfl rfl rfl (arm_loadF rfl (F.k 3 (Value.pointer (some ⟨w.heap.size, 0, none⟩))) (V0.mono F.below)).b, ?_⟩
          refine ⟨fun _ _ F => gG F rfl rfl rfl rfl (arm_C2 rfl (enters Try.func36 rfl rfl) (F.f 7 rfl) (F.f 8 rfl) (fun va vb w h1 h2 => q_fCmp va vb y x w h1 h2 (hy.mono (by decide)) (hx.mono (by decide))) (fun _ _ h => by have h' : RetV _ _ _ _ := h; rw [K3.out] at h'; exact ofV h')).b, ?_⟩
          refine ⟨fun _ _ F => gG F rfl rfl rfl rfl (arm_move (.inl rfl) (F.k 7 (Value.int IntKind.i64 (-1)))).b, ?_⟩
          refine ⟨fun _ _ F => gG F rfl rfl rfl rfl (arm_negI rfl (F.f 10 rfl) (by decide +kernel)).b, ?_⟩
          refine ⟨fun _ _ F => gG F rfl rfl rfl rfl (arm_bin rfl (F.f 9 rfl) (F.f 11 rfl) (fun _ => rfl) (fun _ => rfl)).b, ?_⟩
          refine ⟨fun _ _ F => gR rfl rfl (arm_pick rfl (F.f 6 rfl) (fun h => by cases h) (fun _ => (F.f 12 rfl))).b, ?_⟩
          refine ⟨fun _ _ F => gR rfl rfl (arm_move (.inl rfl) (F.f 13 rfl)).b, ?_⟩
          refine ⟨fun _ _ F => gG F rfl rfl rfl rfl (arm_move (.inl rfl) (F.k 7 (Value.int IntKind.i64 (-1)))).b, ?_⟩
          refine ⟨fun _ _ F => gG F rfl rfl rfl rfl (arm_bin rfl (F.f 15 rfl) Is.const (fun _ => rfl) (fun _ => rfl)).b, ?_⟩
          refine ⟨fun _ _ F => gG F rfl rfl rfl rfl (arm_loadF rfl (F.k 3 (Value.pointer (some ⟨w.heap.size, 0, none⟩))) (V0.mono F.below)).b, ?_⟩
          refine ⟨fun _ _ F => gG F rfl rfl rfl rfl (arm_loadF rfl (F.k 4 (Value.pointer (some ⟨w.heap.size + 1, 0, none⟩))) (V1.mono F.below)).b, ?_⟩
          refine ⟨fun _ _ F => gG F rfl rfl rfl rfl (arm_C2 rfl (enters Try.func16 rfl rfl) (F.f 17 rfl) (F.f 18 rfl) (fun va vb w h1 h2 => q_Same va vb x y w h1 h2 (hx.mono (by decide)) (hy.mono (by decide))) (fun _ _ h => by have h' : RetV _ _ _ _ := h; rw [K4.out] at h'; exact ofV h')).b, ?_⟩
          refine ⟨fun _ _ F => gG F rfl rfl rfl rfl (arm_bin rfl (F.f 16 rfl) (F.f 19 rfl) (fun _ => rfl) (fun _ => rfl)).b, ?_⟩
          refine ⟨fun _ _ F => gR rfl rfl (arm_pick rfl (F.f 14 rfl) (fun h => by cases h) (fun _ => (F.f 20 rfl))).b, ?_⟩
          exact trivial
        intro E' hE gp wp bp G Gs
        obtain rfl : E' = [] := by simpa [subs] using hE
        have e_21 : gp 21 = Value.bool false := G 21 46 _ (by simp) rfl
        clear G Gs hE
        simp only [lOrmT8]
        simp only [qA, setD, qZ, qS, e_21]
        refine wpAny_done (by kernel_rfl) ?_ _
        go_wp2_with fail
        go_meet
        case rel => exact ⟨rfl, (V0.mono bp), (V1.mono bp), (V2.mono bp), (hb1.trans (bp.mono hb1.size))⟩
      case rest =>
      clear V0 V1 V2 hb1
      obtain ⟨rfl, V0, V1, V2, hb1⟩ := hcut
      go_upto_region 6 with (fail)
      go_cut [60] (fun s_60 wx => s_60 = Value.bool false ∧ VarQ wx w.heap.size x ∧ VarQ wx (w.heap.size + 1) y ∧ VarQ wx (w.heap.size + 2) z ∧ Below w.heap.size w wx)
      case first =>
        refine tF Try.f8 6 (lOrmT9 y z l) [] 12 0 ?_ ?_
        · refine ⟨fun _ _ F => gR rfl rfl (arm_move (.inl rfl) (F.k 7 (Value.int IntKind.i64 (-1)))).b, ?_⟩
          refine ⟨fun _ _ F => gR rfl rfl (arm_bin rfl (F.f 0 rfl) Is.const (fun _ => rfl) (fun _ => rfl)).b, ?_⟩
          refine ⟨fun _ _ F => gR rfl rfl (arm_move (.inl rfl) (F.f 1 rfl)).b, ?_⟩
          refine ⟨fun _ _ F => gG F rfl rfl rfl rfl (arm_loadF rfl (F.k 4 (Value.pointer (some ⟨w.heap.size + 1, 0, none⟩))) (V1.mono F.below)).b, ?_⟩
          refine ⟨fun _ _ F => gG F rfl rfl rfl rfl (arm_loadF rfl (F.k 5 (Value.pointer (some ⟨w.heap.size + 2, 0, none⟩))) (V2.mono F.below)).b, ?_⟩
          refine ⟨fun _ _ F => gG F rfl rfl rfl rfl (arm_C2 rfl (enters Try.func36 rfl rfl) (F.f 3 rfl) (F.f 4 rfl) (fun va vb w h1 h2 => q_fCmp va vb y z w h1 h2 (hy.mono (by decide)) (hz.mono (by decide))) (fun _ _ h => by have h' : RetV _ _ _ _ := h; rw [hl.out] at h'; exact ofV h')).b, ?_⟩
          refine ⟨fun _ _ F => gG F rfl rfl rfl rfl (arm_bin rfl (F.f 5 rfl) Is.const (fun _ => rfl) (fun w => by rw [B1.out]; rfl)).b, ?_⟩
          refine ⟨fun _ _ F => gR rfl rfl (arm_pick rfl (F.f 2 rfl) (fun _ => (F.f 6 rfl)) (fun h => by cases h)).b, ?_⟩
          refine ⟨fun _ _ F => gR rfl rfl (arm_move (.inl rfl) (F.f 7 rfl)).b, ?_⟩
          refine ⟨fun _ _ F => gS F rfl rfl rfl rfl rfl rfl, ?_⟩
          refine ⟨fun _ _ F => gS F rfl rfl rfl rfl rfl rfl, ?_⟩
          refine ⟨fun _ _ F => gS F rfl rfl rfl rfl rfl rfl, ?_⟩
          refine ⟨fun _ _ F => gS F rfl rfl rfl rfl rfl rfl, ?_⟩
          refine ⟨fun _ _ F => gR rfl rfl (arm_pick rfl (F.f 8 rfl) (fun h => by cases h) (fun _ => Is.const)).b, ?_⟩
          exact trivial
        intro E' hE gp wp bp G Gs
        obtain rfl : E' = [] := by simpa [subs] using hE
        have e_13 : gp 13 = Value.bool false := G 13 60 _ (by simp) rfl
        clear G Gs hE
        simp only [lOrmT9]
        simp only [qA, setD, qZ, qS, e_13]
        refine wpAny_done (by kernel_rfl) ?_ _
        go_wp2_with fail
        go_meet
        case rel => exact ⟨rfl, (V0.mono bp), (V1.mono bp), (V2.mono bp), (hb1.trans (bp.mono hb1.size))⟩
      case rest =>
      clear V0 V1 V2 hb1
      obtain ⟨rfl, V0, V1, V2, hb1⟩ := hcut
      go_upto_region 8 with (fail)
      go_cut [69] (fun s_69 wx => s_69 = Value.bool false ∧ VarQ wx w.heap.size x ∧ VarQ wx (w.heap.size + 1) y ∧ VarQ wx (w.heap.size + 2) z ∧ Below w.heap.size w wx)
      case first =>
        refine tG Try.f8 8 (lOrmT10 x y z) [] 5 0 ?_ ?_
        · refine ⟨fun _ _ F => gR rfl rfl (arm_loadF rfl (F.k 3 (Value.pointer (some ⟨w.heap.size, 0, none⟩))) (V0.mono F.below)).b, ?_⟩
          refine ⟨fun _ _ F => gR rfl rfl (arm_loadF rfl (F.k 5 (Value.pointer (some ⟨w.heap.size + 2, 0, none⟩))) (V2.mono F.below)).b, ?_⟩
          refine ⟨fun _ _ F => gR rfl rfl (arm_C2 rfl (enters Try.func37 rfl rfl) (F.f 0 rfl) (F.f 1 rfl) (fun va vb w h1 h2 => q_fAdd va vb x z w h1 h2 (hx.mono (by decide)) (hz.mono (by decide))) (fun _ _ h => ofQ h)).b, ?_⟩
          refine ⟨fun _ _ F => gR rfl rfl (arm_loadF rfl (F.k 4 (Value.pointer (some ⟨w.heap.size + 1, 0, none⟩))) (V1.mono F.below)).b, ?_⟩
          refine ⟨fun _ _ F => gR rfl rfl (arm_loadF rfl (F.k 5 (Value.pointer (some ⟨w.heap.size + 2, 0, none⟩))) (V2.mono F.below)).b, ?_⟩
          refine ⟨fun _ _ F => gR rfl rfl (arm_C2 rfl (enters Try.func37 rfl rfl) (F.f 3 rfl) (F.f 4 rfl) (fun va vb w h1 h2 => q_fAdd va vb y z w h1 h2 (hy.mono (by decide)) (hz.mono (by decide))) (fun _ _ h => ofQ h)).b, ?_⟩
          refine ⟨fun _ _ F => gR rfl rfl (arm_C2 rfl (enters Try.func36 rfl rfl) (F.f 2 rfl) (F.f 5 rfl) (fun va vb w h1 h2 => q_fCmp va vb (x.add z) (y.add z) w h1 h2 ((hx.add hz).mono (by decide)) ((hy.add hz).mono (by decide))) (fun _ _ h => by have h' : RetV _ _ _ _ := h; rw [K5.out] at h'; exact ofV h')).b, ?_⟩
          refine ⟨fun _ _ F => gR rfl rfl (arm_move (.inl rfl) (F.k 7 (Value.int IntKind.i64 (-1)))).b, ?_⟩
          refine ⟨fun _ _ F => gR rfl rfl (arm_bin rfl (F.f 6 rfl) (F.f 7 rfl) (fun _ => rfl) (fun _ => rfl)).b, ?_⟩
          exact trivial
        intro E' hE gp wp bp G Gs
        obtain rfl : E' = [] := by simpa [subs] using hE
        have e_8 : gp 8 = Value.bool false := G 8 69 _ (by simp) rfl
        clear G Gs hE
        simp only [lOrmT10]
        simp only [qA, setD, qZ, qS, e_8]
        refine wpAny_done (by kernel_rfl) ?_ _
        go_wp2_with fail
        go_meet
        case rel => exact ⟨rfl, (V0.mono bp), (V1.mono bp), (V2.mono bp), (hb1.trans (bp.mono hb1.size))⟩
      case rest =>
      clear V0 V1 V2 hb1
      obtain ⟨rfl, V0, V1, V2, hb1⟩ := hcut
      go_upto_region 10 with (fail)
      go_cut [6] (fun s_6 wx => s_6 = Value.bool true ∧ VarQ wx w.heap.size x ∧ VarQ wx (w.heap.size + 1) y ∧ VarQ wx (w.heap.size + 2) z ∧ Below w.heap.size w wx)
      case first =>
        refine tG Try.f8 10 (lOrmT11 z s) [] 14 0 ?_ ?_
        · refine ⟨fun _ _ F => gR rfl rfl (arm_loadF rfl (F.k 5 (Value.pointer (some ⟨w.heap.size + 2, 0, none⟩))) (V2.mono F.below)).b, ?_⟩
          refine ⟨fun _ _ F => gR rfl rfl (arm_C1 rfl (enters Try.func35 rfl rfl) (F.f 0 rfl) (fun va w h1 => q_fSign va z w h1 (hz.mono (by decide))) (fun _ _ h => by have h' : RetV _ _ _ _ := h; rw [hs.out] at h'; exact ofV h')).b, ?_⟩
          refine ⟨fun _ _ F => gR rfl rfl (arm_bin rfl (F.f 1 rfl) Is.const (fun _ => rfl) (fun w => by rw [A1.out]; rfl)).b, ?_⟩
          refine ⟨fun _ _ F => gR rfl rfl (arm_move (.inl rfl) (F.f 2 rfl)).b, ?_⟩
          refine ⟨fun _ _ F => gS F rfl rfl rfl rfl rfl rfl, ?_⟩
          refine ⟨fun _ _ F => gS F rfl rfl rfl rfl rfl rfl, ?_⟩
          refine ⟨fun _ _ F => gS F rfl rfl rfl rfl rfl rfl, ?_⟩
          refine ⟨fun _ _ F => gS F rfl rfl rfl rfl rfl rfl, ?_⟩
          refine ⟨fun _ _ F => gS F rfl rfl rfl rfl rfl rfl, ?_⟩
          refine ⟨fun _ _ F => gS F rfl rfl rfl rfl rfl rfl, ?_⟩
          refine ⟨fun _ _ F => gS F rfl rfl rfl rfl rfl rfl, ?_⟩
          refine ⟨fun _ _ F => gS F rfl rfl rfl rfl rfl rfl, ?_⟩
          refine ⟨fun _ _ F => gS F rfl rfl rfl rfl rfl rfl, ?_⟩
          refine ⟨fun _ _ F => gR rfl rfl (arm_pick rfl (F.f 3 rfl) (fun _ => Is.const) (fun h => by cases h)).b, ?_⟩
          refine ⟨fun _ _ F => gR rfl rfl (arm_move (.inl rfl) (F.f 13 rfl)).b, ?_⟩
          refine ⟨fun _ _ F => gG F rfl rfl rfl rfl (arm_C0 rfl (enters Try.func11 rfl rfl)  (fun w => c_awake2 w) (fun _ _ h => ofV h)).b, ?_⟩
          refine ⟨fun _ _ F => gR rfl rfl (arm_pick rfl (F.f 14 rfl) (fun _ => (F.f 15 rfl)) (fun h => by cases h)).b, ?_⟩
          refine ⟨fun _ _ F => gR rfl rfl (arm_move (.inr rfl) (F.f 16 rfl)).b, ?_⟩
          exact trivial
        intro E' hE gp wp bp G Gs
        obtain rfl : E' = [] := by simpa [subs] using hE
        have e_17 : gp 17 = Value.bool true := G 17 6 _ (by simp) rfl
        clear G Gs hE
        simp only [lOrmT11]
        simp only [qA, setD, qZ, qS, e_17]
        refine wpAny_done (by kernel_rfl) ?_ _
        go_wp2_with fail
        go_meet
        case rel => exact ⟨rfl, (V0.mono bp), (V1.mono bp), (V2.mono bp), (hb1.trans (bp.mono hb1.size))⟩
      case rest =>
      clear V0 V1 V2 hb1
      obtain ⟨rfl, V0, V1, V2, hb1⟩ := hcut
      go_wp2
      go_ret
      exact ⟨rfl, hb1⟩
  · have A1 : Hid (false = decide (s ≤ 0)) := Lib.hid (decide_eq_false h0).symm
    have A2 : Hid ((x.mul z).cmp (y.mul z) = (-1)) := Lib.hid (by rw [o_mul ex ey ez (by rw [hs.out]; omega), hk])
    clear h0
    by_cases h1 : l ≤ 0
    · have B1 : Hid (true = decide (l ≤ 0)) := Lib.hid (decide_eq_true h1).symm
      have B2 := o_trans' ex ey ez hk hl.out hm.out (by decide) h1
      clear h1 hk
      obtain ⟨a0, c0, b0, d0, rfl, m0, k0⟩ := boxF ix
      obtain ⟨a1, c1, b1, d1, rfl, m1, k1⟩ := boxF (iy.mono m0)
      rw [World.size_alloc ] at k1
      have n1 := m0.trans (m1.mono m0.size)
      obtain ⟨a2, c2, b2, d2, rfl, m2, k2⟩ := boxF (iz.mono n1)
      rw [World.size_alloc, World.size_alloc ] at k2
      have n2 := n1.trans (m2.mono n1.size)
      clear ix iy iz
      go_enter Try.func8, Try.ntmps8
      go_upto_region 0 with (fail)
      go_cut [3, 4, 5, 6] (fun s_3 s_4 s_5 s_6 wx => s_3 = Value.pointer (some ⟨w.heap.size, 0, none⟩) ∧ s_4 = Value.pointer (some ⟨w.heap.size + 1, 0, none⟩) ∧ s_5 = Value.pointer (some ⟨w.heap.size + 2, 0, none⟩) ∧ s_6 = Value.bool false ∧ VarQ wx w.heap.size x ∧ VarQ wx (w.heap.size + 1) y ∧ VarQ wx (w.heap.size + 2) z ∧ Below w.heap.size w wx)
      case first =>
        go_wp2_with fail
        go_meet
        case rel => exact ⟨rfl, rfl, rfl, rfl, ((k0.mono m1).mono m2), (k1.mono m2), k2, n2⟩
      case rest =>
      clear m0 k0 m1 k1 m2 k2 n1 n2
      obtain ⟨rfl, rfl, rfl, rfl, V0, V1, V2, hb1⟩ := hcut
      go_upto_region 1 with (fail)
      go_cut [20] (fun s_20 wx => s_20 = Value.bool false ∧ VarQ wx w.heap.size x ∧ VarQ wx (w.heap.size + 1) y ∧ VarQ wx (w.heap.size + 2) z ∧ Below w.heap.size w wx)
      case first =>
        refine tF Try.f8 1 (lOrmT12 x y z) [] 13 0 ?_ ?_
        · refine ⟨fun _ _ F => gR rfl rfl (arm_loadF rfl (F.k 3 (Value.pointer (some ⟨w.heap.size, 0, none⟩))) (V0.mono F.below)).b, ?_⟩
          refine ⟨fun _ _ F => gR rfl rfl (arm_C1 rfl (enters Try.func18 rfl rfl) (F.f 0 rfl) (fun va w h1 => q_fitQ va x w h1 hx ex) (fun _ _ h => ofV h)).b, ?_⟩
          refine ⟨fun _ _ F => gR rfl rfl (arm_not rfl (F.f 1 rfl)).b, ?_⟩
          refine ⟨fun _ _ F => gR rfl rfl (arm_move (.inl rfl) (F.f 2 rfl)).b, ?_⟩
          refine ⟨fun _ _ F => gG F rfl rfl rfl rfl (arm_loadF rfl (F.k 4 (Value.pointer (some ⟨w.heap.size + 1, 0, none⟩))) (V1.mono F.below)).b, ?_⟩
          refine ⟨fun _ _ F => gG F rfl rfl rfl rfl (arm_C1 rfl (enters Try.func18 rfl rfl) (F.f 4 rfl) (fun va w h1 => q_fitQ va y w h1 hy ey) (fun _ _ h => ofV h)).b, ?_⟩
          refine ⟨fun _ _ F => gG F rfl rfl rfl rfl (arm_not rfl (F.f 5 rfl)).b, ?_⟩
          refine ⟨fun _ _ F => gR rfl rfl (arm_pick rfl (F.f 3 rfl) (fun h => by cases h) (fun _ => (F.f 6 rfl))).b, ?_⟩
          refine ⟨fun _ _ F => gR rfl rfl (arm_move (.inl rfl) (F.f 7 rfl)).b, ?_⟩
          refine ⟨fun _ _ F => gG F rfl rfl rfl rfl (arm_loadF rfl (F.k 5 (Value.pointer (some ⟨w.heap.size + 2, 0, none⟩))) (V2.mono F.below)).b, ?_⟩
          refine ⟨fun _ _ F => gG F rfl rfl rfl rfl (arm_C1 rfl (enters Try.func18 rfl rfl) (F.f 9 rfl) (fun va w h1 => q_fitQ va z w h1 hz ez) (fun _ _ h => ofV h)).b, ?_⟩
          refine ⟨fun _ _ F => gG F rfl rfl rfl rfl (arm_not rfl (F.f 10 rfl)).b, ?_⟩
          refine ⟨fun _ _ F => gR rfl rfl (arm_pick rfl (F.f 8 rfl) (fun h => by cases h) (fun _ => (F.f 11 rfl))).b, ?_⟩
          exact trivial
        intro E' hE gp wp bp G Gs
        obtain rfl : E' = [] := by simpa [subs] using hE
        have e_12 : gp 12 = Value.bool false := G 12 20 _ (by simp) rfl
        clear G Gs hE
        simp only [lOrmT12]
        simp only [qA, setD, qZ, qS, e_12]
        refine wpAny_done (by kernel_rfl) ?_ _
        go_wp2_with fail
        go_meet
        case rel => exact ⟨rfl, (V0.mono bp), (V1.mono bp), (V2.mono bp), (hb1.trans (bp.mono hb1.size))⟩
      case rest =>
      clear V0 V1 V2 hb1
      obtain ⟨rfl, V0, V1, V2, hb1⟩ := hcut
      go_upto_region 3 with (fail)
      go_cut [7] (fun s_7 wx => s_7 = Value.int IntKind.i64 (-1) ∧ VarQ wx w.heap.size x ∧ VarQ wx (w.heap.size + 1) y ∧ VarQ wx (w.heap.size + 2) z ∧ Below w.heap.size w wx)
      case first =>
        refine tF Try.f8 3 (lOrmT13 x y) [] 3 0 ?_ ?_
        · refine ⟨fun _ _ F => gR rfl rfl (arm_loadF rfl (F.k 3 (Value.pointer (some ⟨w.heap.size, 0, none⟩))) (V0.mono F.below)).b, ?_⟩
          refine ⟨fun _ _ F => gR rfl rfl (arm_loadF rfl (F.k 4 (Value.pointer (some ⟨w.heap.size + 1, 0, none⟩))) (V1.mono F.below)).b, ?_⟩
          refine ⟨fun _ _ F => gR rfl rfl (arm_C2 rfl (enters Try.func36 rfl rfl) (F.f 0 rfl) (F.f 1 rfl) (fun va vb w h1 h2 => q_fCmp va vb x y w h1 h2 (hx.mono (by decide)) (hy.mono (by decide))) (fun _ _ h => by have h' : RetV _ _ _ _ := h; rw [K1.out] at h'; exact ofV h')).b, ?_⟩
          refine ⟨fun _ _ F => gR rfl rfl (arm_move (.inr rfl) (F.f 2 rfl)).b, ?_⟩
          exact trivial
        intro E' hE gp wp bp G Gs
        obtain rfl : E' = [] := by simpa [subs] using hE
        have e_3 : gp 3 = Value.int IntKind.i64 (-1) := G 3 7 _ (by simp) rfl
        clear G Gs hE
        simp only [lOrmT13]
        simp only [qA, setD, qZ, qS, e_3]
        refine wpAny_done (by kernel_rfl) ?_ _
        go_wp2_with fail
        go_meet
        case rel => exact ⟨rfl, (V0.mono bp), (V1.mono bp), (V2.mono bp), (hb1.trans (bp.mono hb1.size))⟩
      case rest =>
      clear V0 V1 V2 hb1
      obtain ⟨rfl, V0, V1, V2, hb1⟩ := hcut
      go_upto_region 4 with (fail)
      go_cut [46] (fun s_46 wx => s_46 = Value.bool false ∧ VarQ wx w.heap.size x ∧ VarQ wx (w.heap.size + 1) y ∧ VarQ wx (w.heap.size + 2) z ∧ Below w.heap.size w wx)
      case first =>
        refine tF Try.f8 4 (lOrmT14 x y) [] 14 0 ?_ ?_
        · refine ⟨fun _ _ F => gR rfl rfl (arm_move (.inl rfl) (F.k 7 (Value.int IntKind.i64 (-1)))).b, ?_⟩
          refine ⟨fun _ _ F => gR rfl rfl (arm_loadF rfl (F.k 3 (Value.pointer (some ⟨w.heap.size, 0, none⟩))) (V0.mono F.below)).b, ?_⟩
          refine ⟨fun _ _ F => gR rfl rfl (arm_loadF rfl (F.k 4 (Value.pointer (some ⟨w.heap.size + 1, 0, none⟩))) (V1.mono F.below)).b, ?_⟩
          refine ⟨fun _ _ F => gR rfl rfl (arm_C2 rfl (enters Try.func34 rfl rfl) (F.f 1 rfl) (F.f 2 rfl) (fun va vb w h1 h2 => q_fSub va vb x y w h1 h2 (hx.mono (by decide)) (hy.mono (by decide))) (fun _ _ h => ofQ h)).b, ?_⟩
          refine ⟨fun _ _ F => gR rfl rfl (arm_C1 rfl (enters Try.func35 rfl rfl) (F.f 3 rfl) (fun va w h1 => q_fSign va (x.sub y) w h1 ((hx.sub hy).mono (by decide))) (fun _ _ h => by have h' : RetV _ _ _ _ := h; rw [K2.out] at h'; exact ofV h')).b, ?_⟩
          refine ⟨fun _ _ F => gR rfl rfl (arm_bin rfl (F.f 0 rfl) (F.f 4 rfl) (fun _ => rfl) (fun _ => rfl)).b, ?_⟩
          refine ⟨fun _ _ F => gR rfl rfl (arm_move (.inl rfl) (F.f 5 rfl)).b, ?_⟩
          refine ⟨fun _ _ F => gG F rfl rfl rfl rfl (arm_loadF rfl (F.k 4 (Value.pointer (some ⟨w.heap.size + 1, 0, none⟩))) (V1.mono F.below)).b, ?_⟩
          refine ⟨fun _ _ F => gG F rfl rfl rfl rfl (arm_loadF rfl (F.k 3 (Value.pointer (some ⟨w.heap.size, 0, none⟩))) (V0.mono F.below)).b, ?_⟩
          refine ⟨fun _ _ F => gG F rfl rfl rfl rfl (arm_C2 rfl (enters Try.func36 rfl rfl) (F.f 7 rfl) (F.f 8 rfl) (fun va vb w h1 h2 => q_fCmp va vb y x w h1 h2 (hy.mono (by decide)) (hx.mono (by decide))) (fun _ _ h => by have h' : RetV _ _ _ _ := h; rw [K3.out] at h'; exact ofV h')).b, ?_⟩
          refine ⟨fun _ _ F => gG F rfl rfl rfl rfl (arm_move (.inl rfl) (F.k 7 (Value.int IntKind.i64 (-1)))).b, ?_⟩
          refine ⟨fun _ _ F => gG F rfl rfl rfl rfl (arm_negI rfl (F.f 10 rfl) (by decide +kernel)).b, ?_⟩
          refine ⟨fun _ _ F => gG F rfl rfl rfl rfl (arm_bin rfl (F.f 9 rfl) (F.f 11 rfl) (fun _ => rfl) (fun _ => rfl)).b, ?_⟩
          refine ⟨fun _ _ F => gR rfl rfl (arm_pick rfl (F.f 6 rfl) (fun h => by cases h) (fun _ => (F.f 12 rfl))).b, ?_⟩
          refine ⟨fun _ _ F => gR rfl rfl (arm_move (.inl rfl) (F.f 13 rfl)).b, ?_⟩
          refine ⟨fun _ _ F => gG F rfl rfl rfl rfl (arm_move (.inl rfl) (F.k 7 (Value.int IntKind.i64 (-1)))).b, ?_⟩
          refine ⟨fun _ _ F => gG F rfl rfl rfl rfl (arm_bin rfl (F.f 15 rfl) Is.const (fun _ => rfl) (fun _ => rfl)).b, ?_⟩
          refine ⟨fun _ _ F => gG F rfl rfl rfl rfl (arm_loadF rfl (F.k 3 (Value.pointer (some ⟨w.heap.size, 0, none⟩))) (V0.mono F.below)).b, ?_⟩
          refine ⟨fun _ _ F => gG F rfl rfl rfl rfl (arm_loadF rfl (F.k 4 (Value.pointer (some ⟨w.heap.size + 1, 0, none⟩))) (V1.mono F.below)).b, ?_⟩
          refine ⟨fun _ _ F => gG F rfl rfl rfl rfl (arm_C2 rfl (enters Try.func16 rfl rfl) (F.f 17 rfl) (F.f 18 rfl) (fun va vb w h1 h2 => q_Same va vb x y w h1 h2 (hx.mono (by decide)) (hy.mono (by decide))) (fun _ _ h => by have h' : RetV _ _ _ _ := h; rw [K4.out] at h'; exact ofV h')).b, ?_⟩
          refine ⟨fun _ _ F => gG F rfl rfl rfl rfl (arm_bin rfl (F.f 16 rfl) (F.f 19 rfl) (fun _ => rfl) (fun _ => rfl)).b, ?_⟩
          refine ⟨fun _ _ F => gR rfl rfl (arm_pick rfl (F.f 14 rfl) (fun h => by cases h) (fun _ => (F.f 20 rfl))).b, ?_⟩
          exact trivial
        intro E' hE gp wp bp G Gs
        obtain rfl : E' = [] := by simpa [subs] using hE
        have e_21 : gp 21 = Value.bool false := G 21 46 _ (by simp) rfl
        clear G Gs hE
        simp only [lOrmT14]
        simp only [qA, setD, qZ, qS, e_21]
        refine wpAny_done (by kernel_rfl) ?_ _
        go_wp2_with fail
        go_meet
        case rel => exact ⟨rfl, (V0.mono bp), (V1.mono bp), (V2.mono bp), (hb1.trans (bp.mono hb1.size))⟩
      case rest =>
      clear V0 V1 V2 hb1
      obtain ⟨rfl, V0, V1, V2, hb1⟩ := hcut
      go_upto_region 6 with (fail)
      go_cut [60] (fun s_60 wx => s_60 = Value.bool false ∧ VarQ wx w.heap.size x ∧ VarQ wx (w.heap.size + 1) y ∧ VarQ wx (w.heap.size + 2) z ∧ Below w.heap.size w wx)
      case first =>
        refine tF Try.f8 6 (lOrmT15 x y z l m) [] 12 0 ?_ ?_
        · refine ⟨fun _ _ F => gR rfl rfl (arm_move (.inl rfl) (F.k 7 (Value.int IntKind.i64 (-1)))).b, ?_⟩
          refine ⟨fun _ _ F => gR rfl rfl (arm_bin rfl (F.f 0 rfl) Is.const (fun _ => rfl) (fun _ => rfl)).b, ?_⟩
          refine ⟨fun _ _ F => gR rfl rfl (arm_move (.inl rfl) (F.f 1 rfl)).b, ?_⟩
          refine ⟨fun _ _ F => gG F rfl rfl rfl rfl (arm_loadF rfl (F.k 4 (Value.pointer (some ⟨w.heap.size + 1, 0, none⟩))) (V1.mono F.below)).b, ?_⟩
          refine ⟨fun _ _ F => gG F rfl rfl rfl rfl (arm_loadF rfl (F.k 5 (Value.pointer (some ⟨w.heap.size + 2, 0, none⟩))) (V2.mono F.below)).b, ?_⟩
          refine ⟨fun _ _ F => gG F rfl rfl rfl rfl (arm_C2 rfl (enters Try.func36 rfl rfl) (F.f 3 rfl) (F.f 4 rfl) (fun va vb w h1 h2 => q_fCmp va vb y z w h1 h2 (hy.mono (by decide)) (hz.mono (by decide))) (fun _ _ h => by have h' : RetV _ _ _ _ := h; rw [hl.out] at h'; exact ofV h')).b, ?_⟩
          refine ⟨fun _ _ F => gG F rfl rfl rfl rfl (arm_bin rfl (F.f 5 rfl) Is.const (fun _ => rfl) (fun w => by rw [B1.out]; rfl)).b, ?_⟩
          refine ⟨fun _ _ F => gR rfl rfl (arm_pick rfl (F.f 2 rfl) (fun _ => (F.f 6 rfl)) (fun h => by cases h)).b, ?_⟩
          refine ⟨fun _ _ F => gR rfl rfl (arm_move (.inl rfl) (F.f 7 rfl)).b, ?_⟩
          refine ⟨fun _ _ F => gG F rfl rfl rfl rfl (arm_loadF rfl (F.k 3 (Value.pointer (some ⟨w.heap.size, 0, none⟩))) (V0.mono F.below)).b, ?_⟩
          refine ⟨fun _ _ F => gG F rfl rfl rfl rfl (arm_loadF rfl (F.k 5 (Value.pointer (some ⟨w.heap.size + 2, 0, none⟩))) (V2.mono F.below)).b, ?_⟩
          refine ⟨fun _ _ F => gG F rfl rfl rfl rfl (arm_C2 rfl (enters Try.func36 rfl rfl) (F.f 9 rfl) (F.f 10 rfl) (fun va vb w h1 h2 => q_fCmp va vb x z w h1 h2 (hx.mono (by decide)) (hz.mono (by decide))) (fun _ _ h => by have h' : RetV _ _ _ _ := h; rw [hm.out] at h'; exact ofV h')).b, ?_⟩
          refine ⟨fun _ _ F => gG F rfl rfl rfl rfl (arm_bin rfl (F.f 11 rfl) Is.const (fun _ => rfl) (fun w => by rw [B2.out]; rfl)).b, ?_⟩
          refine ⟨fun _ _ F => gR rfl rfl (arm_pick rfl (F.f 8 rfl) (fun _ => (F.f 12 rfl)) (fun h => by cases h)).b, ?_⟩
          exact trivial
        intro E' hE gp wp bp G Gs
        obtain rfl : E' = [] := by simpa [subs] using hE
        have e_13 : gp 13 = Value.bool false := G 13 60 _ (by simp) rfl
        clear G Gs hE
        simp only [lOrmT15]
        simp only [qA, setD, qZ, qS, e_13]
        refine wpAny_done (by kernel_rfl) ?_ _
        go_wp2_with fail
        go_meet
        case rel => exact ⟨rfl, (V0.mono bp), (V1.mono bp), (V2.mono bp), (hb1.trans (bp.mono hb1.size))⟩
      case rest =>
      clear V0 V1 V2 hb1
      obtain ⟨rfl, V0, V1, V2, hb1⟩ := hcut
      go_upto_region 8 with (fail)
      go_cut [69] (fun s_69 wx => s_69 = Value.bool false ∧ VarQ wx w.heap.size x ∧ VarQ wx (w.heap.size + 1) y ∧ VarQ wx (w.heap.size + 2) z ∧ Below w.heap.size w wx)
      case first =>
        refine tG Try.f8 8 (lOrmT16 x y z) [] 5 0 ?_ ?_
        · refine ⟨fun _ _ F => gR rfl rfl (arm_loadF rfl (F.k 3 (Value.pointer (some ⟨w.heap.size, 0, none⟩))) (V0.mono F.below)).b, ?_⟩
          refine ⟨fun _ _ F => gR rfl rfl (arm_loadF rfl (F.k 5 (Value.pointer (some ⟨w.heap.size + 2, 0, none⟩))) (V2.mono F.below)).b, ?_⟩
          refine ⟨fun _ _ F => gR rfl rfl (arm_C2 rfl (enters Try.func37 rfl rfl) (F.f 0 rfl) (F.f 1 rfl) (fun va vb w h1 h2 => q_fAdd va vb x z w h1 h2 (hx.mono (by decide)) (hz.mono (by decide))) (fun _ _ h => ofQ h)).b, ?_⟩
          refine ⟨fun _ _ F => gR rfl rfl (arm_loadF rfl (F.k 4 (Value.pointer (some ⟨w.heap.size + 1, 0, none⟩))) (V1.mono F.below)).b, ?_⟩
          refine ⟨fun _ _ F => gR rfl rfl (arm_loadF rfl (F.k 5 (Value.pointer (some ⟨w.heap.size + 2, 0, none⟩))) (V2.mono F.below)).b, ?_⟩
          refine ⟨fun _ _ F => gR rfl rfl (arm_C2 rfl (enters Try.func37 rfl rfl) (F.f 3 rfl) (F.f 4 rfl) (fun va vb w h1 h2 => q_fAdd va vb y z w h1 h2 (hy.mono (by decide)) (hz.mono (by decide))) (fun _ _ h => ofQ h)).b, ?_⟩
          refine ⟨fun _ _ F => gR rfl rfl (arm_C2 rfl (enters Try.func36 rfl rfl) (F.f 2 rfl) (F.f 5 rfl) (fun va vb w h1 h2 => q_fCmp va vb (x.add z) (y.add z) w h1 h2 ((hx.add hz).mono (by decide)) ((hy.add hz).mono (by decide))) (fun _ _ h => by have h' : RetV _ _ _ _ := h; rw [K5.out] at h'; exact ofV h')).b, ?_⟩
          refine ⟨fun _ _ F => gR rfl rfl (arm_move (.inl rfl) (F.k 7 (Value.int IntKind.i64 (-1)))).b, ?_⟩
          refine ⟨fun _ _ F => gR rfl rfl (arm_bin rfl (F.f 6 rfl) (F.f 7 rfl) (fun _ => rfl) (fun _ => rfl)).b, ?_⟩
          exact trivial
        intro E' hE gp wp bp G Gs
        obtain rfl : E' = [] := by simpa [subs] using hE
        have e_8 : gp 8 = Value.bool false := G 8 69 _ (by simp) rfl
        clear G Gs hE
        simp only [lOrmT16]
        simp only [qA, setD, qZ, qS, e_8]
        refine wpAny_done (by kernel_rfl) ?_ _
        go_wp2_with fail
        go_meet
        case rel => exact ⟨rfl, (V0.mono bp), (V1.mono bp), (V2.mono bp), (hb1.trans (bp.mono hb1.size))⟩
      case rest =>
      clear V0 V1 V2 hb1
      obtain ⟨rfl, V0, V1, V2, hb1⟩ := hcut
      go_upto_region 10 with (fail)
      go_cut [6] (fun s_6 wx => s_6 = Value.bool true ∧ VarQ wx w.heap.size x ∧ VarQ wx (w.heap.size + 1) y ∧ VarQ wx (w.heap.size + 2) z ∧ Below w.heap.size w wx)
      case first =>
        refine tG Try.f8 10 (lOrmT17 x y z s) [] 14 0 ?_ ?_
        · refine ⟨fun _ _ F => gR rfl rfl (arm_loadF rfl (F.k 5 (Value.pointer (some ⟨w.heap.size + 2, 0, none⟩))) (V2.mono F.below)).b, ?_⟩
          refine ⟨fun _ _ F => gR rfl rfl (arm_C1 rfl (enters Try.func35 rfl rfl) (F.f 0 rfl) (fun va w h1 => q_fSign va z w h1 (hz.mono (by decide))) (fun _ _ h => by have h' : RetV _ _ _ _ := h; rw [hs.out] at h'; exact ofV h')).b, ?_⟩
          refine ⟨fun _ _ F => gR rfl rfl (arm_bin rfl (F.f 1 rfl) Is.const (fun _ => rfl) (fun w => by rw [A1.out]; rfl)).b, ?_⟩
          refine ⟨fun _ _ F => gR rfl rfl (arm_move (.inl rfl) (F.f 2 rfl)).b, ?_⟩
          refine ⟨fun _ _ F => gG F rfl rfl rfl rfl (arm_loadF rfl (F.k 3 (Value.pointer (some ⟨w.heap.size, 0, none⟩))) (V0.mono F.below)).b, ?_⟩
          refine ⟨fun _ _ F => gG F rfl rfl rfl rfl (arm_loadF rfl (F.k 5 (Value.pointer (some ⟨w.heap.size + 2, 0, none⟩))) (V2.mono F.below)).b, ?_⟩
          refine ⟨fun _ _ F => gG F rfl rfl rfl rfl (arm_C2 rfl (enters Try.func38 rfl rfl) (F.f 4 rfl) (F.f 5 rfl) (fun va vb w h1 h2 => q_fMul va vb x z w h1 h2 (hx.mono (by decide)) (hz.mono (by decide))) (fun _ _ h => ofQ h)).b, ?_⟩
          refine ⟨fun _ _ F => gG F rfl rfl rfl rfl (arm_loadF rfl (F.k 4 (Value.pointer (some ⟨w.heap.size + 1, 0, none⟩))) (V1.mono F.below)).b, ?_⟩
          refine ⟨fun _ _ F => gG F rfl rfl rfl rfl (arm_loadF rfl (F.k 5 (Value.pointer (some ⟨w.heap.size + 2, 0, none⟩))) (V2.mono F.below)).b, ?_⟩
          refine ⟨fun _ _ F => gG F rfl rfl rfl rfl (arm_C2 rfl (enters Try.func38 rfl rfl) (F.f 7 rfl) (F.f 8 rfl) (fun va vb w h1 h2 => q_fMul va vb y z w h1 h2 (hy.mono (by decide)) (hz.mono (by decide))) (fun _ _ h => ofQ h)).b, ?_⟩
          refine ⟨fun _ _ F => gG F rfl rfl rfl rfl (arm_C2 rfl (enters Try.func36 rfl rfl) (F.f 6 rfl) (F.f 9 rfl) (fun va vb w h1 h2 => q_fCmp va vb (x.mul z) (y.mul z) w h1 h2 ((hx.mul hz).mono (by decide)) ((hy.mul hz).mono (by decide))) (fun _ _ h => by have h' : RetV _ _ _ _ := h; rw [A2.out] at h'; exact ofV h')).b, ?_⟩
          refine ⟨fun _ _ F => gG F rfl rfl rfl rfl (arm_move (.inl rfl) (F.k 7 (Value.int IntKind.i64 (-1)))).b, ?_⟩
          refine ⟨fun _ _ F => gG F rfl rfl rfl rfl (arm_bin rfl (F.f 10 rfl) (F.f 11 rfl) (fun _ => rfl) (fun _ => rfl)).b, ?_⟩
          refine ⟨fun _ _ F => gR rfl rfl (arm_pick rfl (F.f 3 rfl) (fun h => by cases h) (fun _ => (F.f 12 rfl))).b, ?_⟩
          refine ⟨fun _ _ F => gR rfl rfl (arm_move (.inl rfl) (F.f 13 rfl)).b, ?_⟩
          refine ⟨fun _ _ F => gG F rfl rfl rfl rfl (arm_C0 rfl (enters Try.func11 rfl rfl)  (fun w => c_awake2 w) (fun _ _ h => ofV h)).b, ?_⟩
          refine ⟨fun _ _ F => gR rfl rfl (arm_pick rfl (F.f 14 rfl) (fun _ => (F.f 15 rfl)) (fun h => by cases h)).b, ?_⟩
          refine ⟨fun _ _ F => gR rfl rfl (arm_move (.inr rfl) (F.f 16 rfl)).b, ?_⟩
          exact trivial
        intro E' hE gp wp bp G Gs
        obtain rfl : E' = [] := by simpa [subs] using hE
        have e_17 : gp 17 = Value.bool true := G 17 6 _ (by simp) rfl
        clear G Gs hE
        simp only [lOrmT17]
        simp only [qA, setD, qZ, qS, e_17]
        refine wpAny_done (by kernel_rfl) ?_ _
        go_wp2_with fail
        go_meet
        case rel => exact ⟨rfl, (V0.mono bp), (V1.mono bp), (V2.mono bp), (hb1.trans (bp.mono hb1.size))⟩
      case rest =>
      clear V0 V1 V2 hb1
      obtain ⟨rfl, V0, V1, V2, hb1⟩ := hcut
      go_wp2
      go_ret
      exact ⟨rfl, hb1⟩
    · have B1 : Hid (false = decide (l ≤ 0)) := Lib.hid (decide_eq_false h1).symm
      clear h1 hk
      obtain ⟨a0, c0, b0, d0, rfl, m0, k0⟩ := boxF ix
      obtain ⟨a1, c1, b1, d1, rfl, m1, k1⟩ := boxF (iy.mono m0)
      rw [World.size_alloc ] at k1
      have n1 := m0.trans (m1.mono m0.size)
      obtain ⟨a2, c2, b2, d2, rfl, m2, k2⟩ := boxF (iz.mono n1)
      rw [World.size_alloc, World.size_alloc ] at k2
      have n2 := n1.trans (m2.mono n1.size)
      clear ix iy iz
      go_enter Try.func8, Try.ntmps8
      go_upto_region 0 with (fail)
      go_cut [3, 4, 5, 6] (fun s_3 s_4 s_5 s_6 wx => s_3 = Value.pointer (some ⟨w.heap.size, 0, none⟩) ∧ s_4 = Value.pointer (some ⟨w.heap.size + 1, 0, none⟩) ∧ s_5 = Value.pointer (some ⟨w.heap.size + 2, 0, none⟩) ∧ s_6 = Value.bool false ∧ VarQ wx w.heap.size x ∧ VarQ wx (w.heap.size + 1) y ∧ VarQ wx (w.heap.size + 2) z ∧ Below w.heap.size w wx)
      case first =>
        go_wp2_with fail
        go_meet
        case rel => exact ⟨rfl, rfl, rfl, rfl, ((k0.mono m1).mono m2), (k1.mono m2), k2, n2⟩
      case rest =>
      clear m0 k0 m1 k1 m2 k2 n1 n2
      obtain ⟨rfl, rfl, rfl, rfl, V0, V1, V2, hb1⟩ := hcut
      go_upto_region 1 with (fail)
      go_cut [20] (fun s_20 wx => s_20 = Value.bool false ∧ VarQ wx w.heap.size x ∧ VarQ wx (w.heap.size + 1) y ∧ VarQ wx (w.heap.size + 2) z ∧ Below w.heap.size w wx)
      case first =>
        refine tF Try.f8 1 (lOrmT18 x y z) [] 13 0 ?_ ?_
        · refine ⟨fun _ _ F => gR rfl rfl (arm_loadF rfl (F.k 3 (Value.pointer (some ⟨w.heap.size, 0, none⟩))) (V0.mono F.below)).b, ?_⟩
          refine ⟨fun _ _ F => gR rfl rfl (arm_C1 rfl (enters Try.func18 rfl rfl) (F.f 0 rfl) (fun va w h1 => q_fitQ va x w h1 hx ex) (fun _ _ h => ofV h)).b, ?_⟩
          refine ⟨fun _ _ F => gR rfl rfl (arm_not rfl (F.f 1 rfl)).b, ?_⟩
          refine ⟨fun _ _ F => gR rfl rfl (arm_move (.inl rfl) (F.f 2 rfl)).b, ?_⟩
          refine ⟨fun _ _ F => gG F rfl rfl rfl rfl (arm_loadF rfl (F.k 4 (Value.pointer (some ⟨w.heap.size + 1, 0, none⟩))) (V1.mono F.below)).b, ?_⟩
          refine ⟨fun _ _ F => gG F rfl rfl rfl rfl (arm_C1 rfl (enters Try.func18 rfl rfl) (F.f 4 rfl) (fun va w h1 => q_fitQ va y w h1 hy ey) (fun _ _ h => ofV h)).b, ?_⟩
          refine ⟨fun _ _ F => gG F rfl rfl rfl rfl (arm_not rfl (F.f 5 rfl)).b, ?_⟩
          refine ⟨fun _ _ F => gR rfl rfl (arm_pick rfl (F.f 3 rfl) (fun h => by cases h) (fun _ => (F.f 6 rfl))).b, ?_⟩
          refine ⟨fun _ _ F => gR rfl rfl (arm_move (.inl rfl) (F.f 7 rfl)).b, ?_⟩
          refine ⟨fun _ _ F => gG F rfl rfl rfl rfl (arm_loadF rfl (F.k 5 (Value.pointer (some ⟨w.heap.size + 2, 0, none⟩))) (V2.mono F.below)).b, ?_⟩
          refine ⟨fun _ _ F => gG F rfl rfl rfl rfl (arm_C1 rfl (enters Try.func18 rfl rfl) (F.f 9 rfl) (fun va w h1 => q_fitQ va z w h1 hz ez) (fun _ _ h => ofV h)).b, ?_⟩
          refine ⟨fun _ _ F => gG F rfl rfl rfl rfl (arm_not rfl (F.f 10 rfl)).b, ?_⟩
          refine ⟨fun _ _ F => gR rfl rfl (arm_pick rfl (F.f 8 rfl) (fun h => by cases h) (fun _ => (F.f 11 rfl))).b, ?_⟩
          exact trivial
        intro E' hE gp wp bp G Gs
        obtain rfl : E' = [] := by simpa [subs] using hE
        have e_12 : gp 12 = Value.bool false := G 12 20 _ (by simp) rfl
        clear G Gs hE
        simp only [lOrmT18]
        simp only [qA, setD, qZ, qS, e_12]
        refine wpAny_done (by kernel_rfl) ?_ _
        go_wp2_with fail
        go_meet
        case rel => exact ⟨rfl, (V0.mono bp), (V1.mono bp), (V2.mono bp), (hb1.trans (bp.mono hb1.size))⟩
      case rest =>
      clear V0 V1 V2 hb1
      obtain ⟨rfl, V0, V1, V2, hb1⟩ := hcut
      go_upto_region 3 with (fail)
      go_cut [7] (fun s_7 wx => s_7 = Value.int IntKind.i64 (-1) ∧ VarQ wx w.heap.size x ∧ VarQ wx (w.heap.size + 1) y ∧ VarQ wx (w.heap.size + 2) z ∧ Below w.heap.size w wx)
      case first =>
        refine tF Try.f8 3 (lOrmT19 x y) [] 3 0 ?_ ?_
        · refine ⟨fun _ _ F => gR rfl rfl (arm_loadF rfl (F.k 3 (Value.pointer (some ⟨w.heap.size, 0, none⟩))) (V0.mono F.below)).b, ?_⟩
          refine ⟨fun _ _ F => gR rfl rfl (arm_loadF rfl (F.k 4 (Value.pointer (some ⟨w.heap.size + 1, 0, none⟩))) (V1.mono F.below)).b, ?_⟩
          refine ⟨fun _ _ F => gR rfl rfl (arm_C2 rfl (enters Try.func36 rfl rfl) (F.f 0 rfl) (F.f 1 rfl) (fun va vb w h1 h2 => q_fCmp va vb x y w h1 h2 (hx.mono (by decide)) (hy.mono (by decide))) (fun _ _ h => by have h' : RetV _ _ _ _ := h; rw [K1.out] at h'; exact ofV h')).b, ?_⟩
          refine ⟨fun _ _ F => gR rfl rfl (arm_move (.inr rfl) (F.f 2 rfl)).b, ?_⟩
          exact trivial
        intro E' hE gp wp bp G Gs
        obtain rfl : E' = [] := by simpa [subs] using hE
        have e_3 : gp 3 = Value.int IntKind.i64 (-1) := G 3 7 _ (by simp) rfl
        clear G Gs hE
        simp only [lOrmT19]
        simp only [qA, setD, qZ, qS, e_3]
        refine wpAny_done (by kernel_rfl) ?_ _
        go_wp2_with fail
        go_meet
        case rel => exact ⟨rfl, (V0.mono bp), (V1.mono bp), (V2.mono bp), (hb1.trans (bp.mono hb1.size))⟩
      case rest =>
      clear V0 V1 V2 hb1
      obtain ⟨rfl, V0, V1, V2, hb1⟩ := hcut
      go_upto_region 4 with (fail)
      go_cut [46] (fun s_46 wx => s_46 = Value.bool false ∧ VarQ wx w.heap.size x ∧ VarQ wx (w.heap.size + 1) y ∧ VarQ wx (w.heap.size + 2) z ∧ Below w.heap.size w wx)
      case first =>
        refine tF Try.f8 4 (lOrmT20 x y) [] 14 0 ?_ ?_
        · refine ⟨fun _ _ F => gR rfl rfl (arm_move (.inl rfl) (F.k 7 (Value.int IntKind.i64 (-1)))).b, ?_⟩
          refine ⟨fun _ _ F => gR rfl rfl (arm_loadF rfl (F.k 3 (Value.pointer (some ⟨w.heap.size, 0, none⟩))) (V0.mono F.below)).b, ?_⟩
          refine ⟨fun _ _ F => gR rfl rfl (arm_loadF rfl (F.k 4 (Value.pointer (some ⟨w.heap.size + 1, 0, none⟩))) (V1.mono F.below)).b, ?_⟩
          refine ⟨fun _ _ F => gR rfl rfl (arm_C2 rfl (enters Try.func34 rfl rfl) (F.f 1 rfl) (F.f 2 rfl) (fun va vb w h1 h2 => q_fSub va vb x y w h1 h2 (hx.mono (by decide)) (hy.mono (by decide))) (fun _ _ h => ofQ h)).b, ?_⟩
          refine ⟨fun _ _ F => gR rfl rfl (arm_C1 rfl (enters Try.func35 rfl rfl) (F.f 3 rfl) (fun va w h1 => q_fSign va (x.sub y) w h1 ((hx.sub hy).mono (by decide))) (fun _ _ h => by have h' : RetV _ _ _ _ := h; rw [K2.out] at h'; exact ofV h')).b, ?_⟩
          refine ⟨fun _ _ F => gR rfl rfl (arm_bin rfl (F.f 0 rfl) (F.f 4 rfl) (fun _ => rfl) (fun _ => rfl)).b, ?_⟩
          refine ⟨fun _ _ F => gR rfl rfl (arm_move (.inl rfl) (F.f 5 rfl)).b, ?_⟩
          refine ⟨fun _ _ F => gG F rfl rfl rfl rfl (arm_loadF rfl (F.k 4 (Value.pointer (some ⟨w.heap.size + 1, 0, none⟩))) (V1.mono F.below)).b, ?_⟩
          refine ⟨fun _ _ F => gG F rfl rfl rfl rfl (arm_loadF rfl (F.k 3 (Value.pointer (some ⟨w.heap.size, 0, none⟩))) (V0.mono F.below)).b, ?_⟩
          refine ⟨fun _ _ F => gG F rfl rfl rfl rfl (arm_C2 rfl (enters Try.func36 rfl rfl) (F.f 7 rfl) (F.f 8 rfl) (fun va vb w h1 h2 => q_fCmp va vb y x w h1 h2 (hy.mono (by decide)) (hx.mono (by decide))) (fun _ _ h => by have h' : RetV _ _ _ _ := h; rw [K3.out] at h'; exact ofV h')).b, ?_⟩
          refine ⟨fun _ _ F => gG F rfl rfl rfl rfl (arm_move (.inl rfl) (F.k 7 (Value.int IntKind.i64 (-1)))).b, ?_⟩
          refine ⟨fun _ _ F => gG F rfl rfl rfl rfl (arm_negI rfl (F.f 10 rfl) (by decide +kernel)).b, ?_⟩
          refine ⟨fun _ _ F => gG F rfl rfl rfl rfl (arm_bin rfl (F.f 9 rfl) (F.f 11 rfl) (fun _ => rfl) (fun _ => rfl)).b, ?_⟩
          refine ⟨fun _ _ F => gR rfl rfl (arm_pick rfl (F.f 6 rfl) (fun h => by cases h) (fun _ => (F.f 12 rfl))).b, ?_⟩
          refine ⟨fun _ _ F => gR rfl rfl (arm_move (.inl rfl) (F.f 13 rfl)).b, ?_⟩
          refine ⟨fun _ _ F => gG F rfl rfl rfl rfl (arm_move (.inl rfl) (F.k 7 (Value.int IntKind.i64 (-1)))).b, ?_⟩
          refine ⟨fun _ _ F => gG F rfl rfl rfl rfl (arm_bin rfl (F.f 15 rfl) Is.const (fun _ => rfl) (fun _ => rfl)).b, ?_⟩
          refine ⟨fun _ _ F => gG F rfl rfl rfl rfl (arm_loadF rfl (F.k 3 (Value.pointer (some ⟨w.heap.size, 0, none⟩))) (V0.mono F.below)).b, ?_⟩
          refine ⟨fun _ _ F => gG F rfl rfl rfl rfl (arm_loadF rfl (F.k 4 (Value.pointer (some ⟨w.heap.size + 1, 0, none⟩))) (V1.mono F.below)).b, ?_⟩
          refine ⟨fun _ _ F => gG F rfl rfl rfl rfl (arm_C2 rfl (enters Try.func16 rfl rfl) (F.f 17 rfl) (F.f 18 rfl) (fun va vb w h1 h2 => q_Same va vb x y w h1 h2 (hx.mono (by decide)) (hy.mono (by decide))) (fun _ _ h => by have h' : RetV _ _ _ _ := h; rw [K4.out] at h'; exact ofV h')).b, ?_⟩
          refine ⟨fun _ _ F => gG F rfl rfl rfl rfl (arm_bin rfl (F.f 16 rfl) (F.f 19 rfl) (fun _ => rfl) (fun _ => rfl)).b, ?_⟩
          refine ⟨fun _ _ F => gR rfl rfl (arm_pick rfl (F.f 14 rfl) (fun h => by cases h) (fun _ => (F.f 20 rfl))).b, ?_⟩
          exact trivial
        intro E' hE gp wp bp G Gs
        obtain rfl : E' = [] := by simpa [subs] using hE
        have e_21 : gp 21 = Value.bool false := G 21 46 _ (by simp) rfl
        clear G Gs hE
        simp only [lOrmT20]
        simp only [qA, setD, qZ, qS, e_21]
        refine wpAny_done (by kernel_rfl) ?_ _
        go_wp2_with fail
        go_meet
        case rel => exact ⟨rfl, (V0.mono bp), (V1.mono bp), (V2.mono bp), (hb1.trans (bp.mono hb1.size))⟩
      case rest =>
      clear V0 V1 V2 hb1
      obtain ⟨rfl, V0, V1, V2, hb1⟩ := hcut
      go_upto_region 6 with (fail)
      go_cut [60] (fun s_60 wx => s_60 = Value.bool false ∧ VarQ wx w.heap.size x ∧ VarQ wx (w.heap.size + 1) y ∧ VarQ wx (w.heap.size + 2) z ∧ Below w.heap.size w wx)
      case first =>
        refine tF Try.f8 6 (lOrmT21 y z l) [] 12 0 ?_ ?_
        · refine ⟨fun _ _ F => gR rfl rfl (arm_move (.inl rfl) (F.k 7 (Value.int IntKind.i64 (-1)))).b, ?_⟩
          refine ⟨fun _ _ F => gR rfl rfl (arm_bin rfl (F.f 0 rfl) Is.const (fun _ => rfl) (fun _ => rfl)).b, ?_⟩
          refine ⟨fun _ _ F => gR rfl rfl (arm_move (.inl rfl) (F.f 1 rfl)).b, ?_⟩
          refine ⟨fun _ _ F => gG F rfl rfl rfl rfl (arm_loadF rfl (F.k 4 (Value.pointer (some ⟨w.heap.size + 1, 0, none⟩))) (V1.mono F.below)).b, ?_⟩
          refine ⟨fun _ _ F => gG F rfl rfl rfl rfl (arm_loadF rfl (F.k 5 (Value.pointer (some ⟨w.heap.size + 2, 0, none⟩))) (V2.mono F.below)).b, ?_⟩
          refine ⟨fun _ _ F => gG F rfl rfl rfl rfl (arm_C2 rfl (enters Try.func36 rfl rfl) (F.f 3 rfl) (F.f 4 rfl) (fun va vb w h1 h2 => q_fCmp va vb y z w h1 h2 (hy.mono (by decide)) (hz.mono (by decide))) (fun _ _ h => by have h' : RetV _ _ _ _ := h; rw [hl.out] at h'; exact ofV h')).b, ?_⟩
          refine ⟨fun _ _ F => gG F rfl rfl rfl rfl (arm_bin rfl (F.f 5 rfl) Is.const (fun _ => rfl) (fun w => by rw [B1.out]; rfl)).b, ?_⟩
          refine ⟨fun _ _ F => gR rfl rfl (arm_pick rfl (F.f 2 rfl) (fun _ => (F.f 6 rfl)) (fun h => by cases h)).b, ?_⟩
          refine ⟨fun _ _ F => gR rfl rfl (arm_move (.inl rfl) (F.f 7 rfl)).b, ?_⟩
          refine ⟨fun _ _ F => gS F rfl rfl rfl rfl rfl rfl, ?_⟩
          refine ⟨fun _ _ F => gS F rfl rfl rfl rfl rfl rfl, ?_⟩
          refine ⟨fun _ _ F => gS F rfl rfl rfl rfl rfl rfl, ?_⟩
          refine ⟨fun _ _ F => gS F rfl rfl rfl rfl rfl rfl, ?_⟩
          refine ⟨fun _ _ F => gR rfl rfl (arm_pick rfl (F.f 8 rfl) (fun h => by cases h) (fun _ => Is.const)).b, ?_⟩
          exact trivial
        intro E' hE gp wp bp G Gs
        obtain rfl : E' = [] := by simpa [subs] using hE
        have e_13 : gp 13 = Value.bool false := G 13 60 _ (by simp) rfl
        clear G Gs hE
        simp only [lOrmT21]
        simp only [qA, setD, qZ, qS, e_13]
        refine wpAny_done (by kernel_rfl) ?_ _
        go_wp2_with fail
        go_meet
        case rel => exact ⟨rfl, (V0.mono bp), (V1.mono bp), (V2.mono bp), (hb1.trans (bp.mono hb1.size))⟩
      case rest =>
      clear V0 V1 V2 hb1
      obtain ⟨rfl, V0, V1, V2, hb1⟩ := hcut
      go_upto_region 8 with (fail)
      go_cut [69] (fun s_69 wx => s_69 = Value.bool false ∧ VarQ wx w.heap.size x ∧ VarQ wx (w.heap.size + 1) y ∧ VarQ wx (w.heap.size + 2) z ∧ Below w.heap.size w wx)
      case first =>
        refine tG Try.f8 8 (lOrmT22 x y z) [] 5 0 ?_ ?_
        · refine ⟨fun _ _ F => gR rfl rfl (arm_loadF rfl (F.k 3 (Value.pointer (some ⟨w.heap.size, 0, none⟩))) (V0.mono F.below)).b, ?_⟩
          refine ⟨fun _ _ F => gR rfl rfl (arm_loadF rfl (F.k 5 (Value.pointer (some ⟨w.heap.size + 2, 0, none⟩))) (V2.mono F.below)).b, ?_⟩
          refine ⟨fun _ _ F => gR rfl rfl (arm_C2 rfl (enters Try.func37 rfl rfl) (F.f 0 rfl) (F.f 1 rfl) (fun va vb w h1 h2 => q_fAdd va vb x z w h1 h2 (hx.mono (by decide)) (hz.mono (by decide))) (fun _ _ h => ofQ h)).b, ?_⟩
          refine ⟨fun _ _ F => gR rfl rfl (arm_loadF rfl (F.k 4 (Value.pointer (some ⟨w.heap.size + 1, 0, none⟩))) (V1.mono F.below)).b, ?_⟩
          refine ⟨fun _ _ F => gR rfl rfl (arm_loadF rfl (F.k 5 (Value.pointer (some ⟨w.heap.size + 2, 0, none⟩))) (V2.mono F.below)).b, ?_⟩
          refine ⟨fun _ _ F => gR rfl rfl (arm_C2 rfl (enters Try.func37 rfl rfl) (F.f 3 rfl) (F.f 4 rfl) (fun va vb w h1 h2 => q_fAdd va vb y z w h1 h2 (hy.mono (by decide)) (hz.mono (by decide))) (fun _ _ h => ofQ h)).b, ?_⟩
          refine ⟨fun _ _ F => gR rfl rfl (arm_C2 rfl (enters Try.func36 rfl rfl) (F.f 2 rfl) (F.f 5 rfl) (fun va vb w h1 h2 => q_fCmp va vb (x.add z) (y.add z) w h1 h2 ((hx.add hz).mono (by decide)) ((hy.add hz).mono (by decide))) (fun _ _ h => by have h' : RetV _ _ _ _ := h; rw [K5.out] at h'; exact ofV h')).b, ?_⟩
          refine ⟨fun _ _ F => gR rfl rfl (arm_move (.inl rfl) (F.k 7 (Value.int IntKind.i64 (-1)))).b, ?_⟩
          refine ⟨fun _ _ F => gR rfl rfl (arm_bin rfl (F.f 6 rfl) (F.f 7 rfl) (fun _ => rfl) (fun _ => rfl)).b, ?_⟩
          exact trivial
        intro E' hE gp wp bp G Gs
        obtain rfl : E' = [] := by simpa [subs] using hE
        have e_8 : gp 8 = Value.bool false := G 8 69 _ (by simp) rfl
        clear G Gs hE
        simp only [lOrmT22]
        simp only [qA, setD, qZ, qS, e_8]
        refine wpAny_done (by kernel_rfl) ?_ _
        go_wp2_with fail
        go_meet
        case rel => exact ⟨rfl, (V0.mono bp), (V1.mono bp), (V2.mono bp), (hb1.trans (bp.mono hb1.size))⟩
      case rest =>
      clear V0 V1 V2 hb1
      obtain ⟨rfl, V0, V1, V2, hb1⟩ := hcut
      go_upto_region 10 with (fail)
      go_cut [6] (fun s_6 wx => s_6 = Value.bool true ∧ VarQ wx w.heap.size x ∧ VarQ wx (w.heap.size + 1) y ∧ VarQ wx (w.heap.size + 2) z ∧ Below w.heap.size w wx)
      case first =>
        refine tG Try.f8 10 (lOrmT23 x y z s) [] 14 0 ?_ ?_
        · refine ⟨fun _ _ F => gR rfl rfl (arm_loadF rfl (F.k 5 (Value.pointer (some ⟨w.heap.size + 2, 0, none⟩))) (V2.mono F.below)).b, ?_⟩
          refine ⟨fun _ _ F => gR rfl rfl (arm_C1 rfl (enters Try.func35 rfl rfl) (F.f 0 rfl) (fun va w h1 => q_fSign va z w h1 (hz.mono (by decide))) (fun _ _ h => by have h' : RetV _ _ _ _ := h; rw [hs.out] at h'; exact ofV h')).b, ?_⟩
          refine ⟨fun _ _ F => gR rfl rfl (arm_bin rfl (F.f 1 rfl) Is.const (fun _ => rfl) (fun w => by rw [A1.out]; rfl)).b, ?_⟩
          refine ⟨fun _ _ F => gR rfl rfl (arm_move (.inl rfl) (F.f 2 rfl)).b, ?_⟩
          refine ⟨fun _ _ F => gG F rfl rfl rfl rfl (arm_loadF rfl (F.k 3 (Value.pointer (some ⟨w.heap.size, 0, none⟩))) (V0.mono F.below)).b, ?_⟩
          refine ⟨fun _ _ F => gG F rfl rfl rfl rfl (arm_loadF rfl (F.k 5 (Value.pointer (some ⟨w.heap.size + 2, 0, none⟩))) (V2.mono F.below)).b, ?_⟩
          refine ⟨fun _ _ F => gG F rfl rfl rfl rfl (arm_C2 rfl (enters Try.func38 rfl rfl) (F.f 4 rfl) (F.f 5 rfl) (fun va vb w h1 h2 => q_fMul va vb x z w h1 h2 (hx.mono (by decide)) (hz.mono (by decide))) (fun _ _ h => ofQ h)).b, ?_⟩
          refine ⟨fun _ _ F => gG F rfl rfl rfl rfl (arm_loadF rfl (F.k 4 (Value.pointer (some ⟨w.heap.size + 1, 0, none⟩))) (V1.mono F.below)).b, ?_⟩
          refine ⟨fun _ _ F => gG F rfl rfl rfl rfl (arm_loadF rfl (F.k 5 (Value.pointer (some ⟨w.heap.size + 2, 0, none⟩))) (V2.mono F.below)).b, ?_⟩
          refine ⟨fun _ _ F => gG F rfl rfl rfl rfl (arm_C2 rfl (enters Try.func38 rfl rfl) (F.f 7 rfl) (F.f 8 rfl) (fun va vb w h1 h2 => q_fMul va vb y z w h1 h2 (hy.mono (by decide)) (hz.mono (by decide))) (fun _ _ h => ofQ h)).b, ?_⟩
          refine ⟨fun _ _ F => gG F rfl rfl rfl rfl (arm_C2 rfl (enters Try.func36 rfl rfl) (F.f 6 rfl) (F.f 9 rfl) (fun va vb w h1 h2 => q_fCmp va vb (x.mul z) (y.mul z) w h1 h2 ((hx.mul hz).mono (by decide)) ((hy.mul hz).mono (by decide))) (fun _ _ h => by have h' : RetV _ _ _ _ := h; rw [A2.out] at h'; exact ofV h')).b, ?_⟩
          refine ⟨fun _ _ F => gG F rfl rfl rfl rfl (arm_move (.inl rfl) (F.k 7 (Value.int IntKind.i64 (-1)))).b, ?_⟩
          refine ⟨fun _ _ F => gG F rfl rfl rfl rfl (arm_bin rfl (F.f 10 rfl) (F.f 11 rfl) (fun _ => rfl) (fun _ => rfl)).b, ?_⟩
          refine ⟨fun _ _ F => gR rfl rfl (arm_pick rfl (F.f 3 rfl) (fun h => by cases h) (fun _ => (F.f 12 rfl))).b, ?_⟩
          refine ⟨fun _ _ F => gR rfl rfl (arm_move (.inl rfl) (F.f 13 rfl)).b, ?_⟩
          refine ⟨fun _ _ F => gG F rfl rfl rfl rfl (arm_C0 rfl (enters Try.func11 rfl rfl)  (fun w => c_awake2 w) (fun _ _ h => ofV h)).b, ?_⟩
          refine ⟨fun _ _ F => gR rfl rfl (arm_pick rfl (F.f 14 rfl) (fun _ => (F.f 15 rfl)) (fun h => by cases h)).b, ?_⟩
          refine ⟨fun _ _ F => gR rfl rfl (arm_move (.inr rfl) (F.f 16 rfl)).b, ?_⟩
          exact trivial
        intro E' hE gp wp bp G Gs
        obtain rfl : E' = [] := by simpa [subs] using hE
        have e_17 : gp 17 = Value.bool true := G 17 6 _ (by simp) rfl
        clear G Gs hE
        simp only [lOrmT23]
        simp only [qA, setD, qZ, qS, e_17]
        refine wpAny_done (by kernel_rfl) ?_ _
        go_wp2_with fail
        go_meet
        case rel => exact ⟨rfl, (V0.mono bp), (V1.mono bp), (V2.mono bp), (hb1.trans (bp.mono hb1.size))⟩
      case rest =>
      clear V0 V1 V2 hb1
      obtain ⟨rfl, V0, V1, V2, hb1⟩ := hcut
      go_wp2
      go_ret
      exact ⟨rfl, hb1⟩
def lOrzT0 (x : Fq) (y : Fq) (z : Fq) : List (Nat × Tmp × Sp) :=
   [(0, 8, .fq x),
    (1, 9, .val (Value.bool true)),
    (2, 10, .val (Value.bool false)),
    (3, 11, .val (Value.bool false)),
    (4, 12, .fq y),
    (5, 13, .val (Value.bool true)),
    (6, 14, .val (Value.bool false)),
    (7, 15, .val (Value.bool false)),
    (8, 16, .val (Value.bool false)),
    (9, 17, .fq z),
    (10, 18, .val (Value.bool true)),
    (11, 19, .val (Value.bool false)),
    (12, 20, .val (Value.bool false))]
def lOrzT1 (x : Fq) (y : Fq) : List (Nat × Tmp × Sp) :=
   [(0, 22, .fq x),
    (1, 23, .fq y),
    (2, 24, .val (Value.int IntKind.i64 0)),
    (3, 7, .val (Value.int IntKind.i64 0))]
def lOrzT2 (x : Fq) (y : Fq) : List (Nat × Tmp × Sp) :=
   [(0, 25, .val (Value.int IntKind.i64 0)),
    (1, 26, .fq x),
    (2, 27, .fq y),
    (3, 28, .fq (x.sub y)),
    (4, 29, .val (Value.int IntKind.i64 0)),
    (5, 30, .val (Value.bool false)),
    (6, 31, .val (Value.bool false)),
    (7, 32, .fq y),
    (8, 33, .fq x),
    (9, 34, .val (Value.int IntKind.i64 0)),
    (10, 35, .val (Value.int IntKind.i64 0)),
    (11, 36, .val (Value.int IntKind.i64 0)),
    (12, 37, .val (Value.bool false)),
    (13, 38, .val (Value.bool false)),
    (14, 39, .val (Value.bool false)),
    (15, 40, .val (Value.int IntKind.i64 0)),
    (16, 41, .val (Value.bool true)),
    (17, 42, .fq x),
    (18, 43, .fq y),
    (19, 44, .val (Value.bool true)),
    (20, 45, .val (Value.bool false)),
    (21, 46, .val (Value.bool false))]
def lOrzT3 (x : Fq) (y : Fq) (z : Fq) (l : Int) (m : Int) : List (Nat × Tmp × Sp) :=
   [(0, 47, .val (Value.int IntKind.i64 0)),
    (1, 48, .val (Value.bool true)),
    (2, 49, .val (Value.bool true)),
    (3, 50, .fq y),
    (4, 51, .fq z),
    (5, 52, .val (Value.int IntKind.i64 l)),
    (6, 53, .val (Value.bool true)),
    (7, 54, .val (Value.bool true)),
    (8, 55, .val (Value.bool true)),
    (9, 56, .fq x),
    (10, 57, .fq z),
    (11, 58, .val (Value.int IntKind.i64 m)),
    (12, 59, .val (Value.bool false)),
    (13, 60, .val (Value.bool false))]
def lOrzT4 (x : Fq) (y : Fq) (z : Fq) : List (Nat × Tmp × Sp) :=
   [(0, 61, .fq x),
    (1, 62, .fq z),
    (2, 63, .fq (x.add z)),
    (3, 64, .fq y),
    (4, 65, .fq z),
    (5, 66, .fq (y.add z)),
    (6, 67, .val (Value.int IntKind.i64 0)),
    (7, 68, .val (Value.int IntKind.i64 0)),
    (8, 69, .val (Value.bool false))]
def lOrzT5 (z : Fq) (s : Int) : List (Nat × Tmp × Sp) :=
   [(0, 70, .fq z),
    (1, 71, .val (Value.int IntKind.i64 s)),
    (2, 72, .val (Value.bool true)),
    (3, 73, .val (Value.bool true)),
    (4, 74, .val undef),
    (5, 75, .val undef),
    (6, 76, .val undef),
    (7, 77, .val undef),
    (8, 78, .val undef),
    (9, 79, .val undef),
    (10, 80, .val undef),
    (11, 81, .val undef),
    (12, 82, .val undef),
    (13, 83, .val (Value.bool true)),
    (14, 84, .val (Value.bool true)),
    (15, 85, .val (Value.bool true)),
    (16, 86, .val (Value.bool true)),
    (17, 6, .val (Value.bool true))]
def lOrzT6 (x : Fq) (y : Fq) (z : Fq) : List (Nat × Tmp × Sp) :=
   [(0, 8, .fq x),
    (1, 9, .val (Value.bool true)),
    (2, 10, .val (Value.bool false)),
    (3, 11, .val (Value.bool false)),
    (4, 12, .fq y),
    (5, 13, .val (Value.bool true)),
    (6, 14, .val (Value.bool false)),
    (7, 15, .val (Value.bool false)),
    (8, 16, .val (Value.bool false)),
    (9, 17, .fq z),
    (10, 18, .val (Value.bool true)),
    (11, 19, .val (Value.bool false)),
    (12, 20, .val (Value.bool false))]
def lOrzT7 (x : Fq) (y : Fq) : List (Nat × Tmp × Sp) :=
   [(0, 22, .fq x),
    (1, 23, .fq y),
    (2, 24, .val (Value.int IntKind.i64 0)),
    (3, 7, .val (Value.int IntKind.i64 0))]
def lOrzT8 (x : Fq) (y : Fq) : List (Nat × Tmp × Sp) :=
   [(0, 25, .val (Value.int IntKind.i64 0)),
    (1, 26, .fq x),
    (2, 27, .fq y),
    (3, 28, .fq (x.sub y)),
    (4, 29, .val (Value.int IntKind.i64 0)),
    (5, 30, .val (Value.bool false)),
    (6, 31, .val (Value.bool false)),
    (7, 32, .fq y),
    (8, 33, .fq x),
    (9, 34, .val (Value.int IntKind.i64 0)),
    (10, 35, .val (Value.int IntKind.i64 0)),
    (11, 36, .val (Value.int IntKind.i64 0)),
    (12, 37, .val (Value.bool false)),
    (13, 38, .val (Value.bool false)),
    (14, 39, .val (Value.bool false)),
    (15, 40, .val (Value.int IntKind.i64 0)),
    (16, 41, .val (Value.bool true)),
    (17, 42, .fq x),
    (18, 43, .fq y),
    (19, 44, .val (Value.bool true)),
    (20, 45, .val (Value.bool false)),
    (21, 46, .val (Value.bool false))]
def lOrzT9 (y : Fq) (z : Fq) (l : Int) : List (Nat × Tmp × Sp) :=
   [(0, 47, .val (Value.int IntKind.i64 0)),
    (1, 48, .val (Value.bool true)),
    (2, 49, .val (Value.bool true)),
    (3, 50, .fq y),
    (4, 51, .fq z),
    (5, 52, .val (Value.int IntKind.i64 l)),
    (6, 53, .val (Value.bool false)),
    (7, 54, .val (Value.bool false)),
    (8, 55, .val (Value.bool false)),
    (9, 56, .val undef),
    (10, 57, .val undef),
    (11, 58, .val undef),
    (12, 59, .val undef),
    (13, 60, .val (Value.bool false))]
def lOrzT10 (x : Fq) (y : Fq) (z : Fq) : List (Nat × Tmp × Sp) :=
   [(0, 61, .fq x),
    (1, 62, .fq z),
    (2, 63, .fq (x.add z)),
    (3, 64, .fq y),
    (4, 65, .fq z),
    (5, 66, .fq (y.add z)),
    (6, 67, .val (Value.int IntKind.i64 0)),
    (7, 68, .val (Value.int IntKind.i64 0)),
    (8, 69, .val (Value.bool false))]
def lOrzT11 (z : Fq) (s : Int) : List (Nat × Tmp × Sp) :=
   [(0, 70, .fq z),
    (1, 71, .val (Value.int IntKind.i64 s)),
    (2, 72, .val (Value.bool true)),
    (3, 73, .val (Value.bool true)),
    (4, 74, .val undef),
    (5, 75, .val undef),
    (6, 76, .val undef),
    (7, 77, .val undef),
    (8, 78, .val undef),
    (9, 79, .val undef),
    (10, 80, .val undef),
    (11, 81, .val undef),
    (12, 82, .val undef),
    (13, 83, .val (Value.bool true)),
    (14, 84, .val (Value.bool true)),
    (15, 85, .val (Value.bool true)),
    (16, 86, .val (Value.bool true)),
    (17, 6, .val (Value.bool true))]
def lOrzT12 (x : Fq) (y : Fq) (z : Fq) : List (Nat × Tmp × Sp) :=
   [(0, 8, .fq x),
    (1, 9, .val (Value.bool true)),
    (2, 10, .val (Value.bool false)),
    (3, 11, .val (Value.bool false)),
    (4, 12, .fq y),
    (5, 13, .val (Value.bool true)),
    (6, 14, .val (Value.bool false)),
    (7, 15, .val (Value.bool false)),
    (8, 16, .val (Value.bool false)),
    (9, 17, .fq z),
    (10, 18, .val (Value.bool true)),
    (11, 19, .val (Value.bool false)),
    (12, 20, .val (Value.bool false))]
def lOrzT13 (x : Fq) (y : Fq) : List (Nat × Tmp × Sp) :=
   [(0, 22, .fq x),
    (1, 23, .fq y),
    (2, 24, .val (Value.int IntKind.i64 0)),
    (3, 7, .val (Value.int IntKind.i64 0))]
def lOrzT14 (x : Fq) (y : Fq) : List (Nat × Tmp × Sp) :=
   [(0, 25, .val (Value.int IntKind.i64 0)),
    (1, 26, .fq x),
    (2, 27, .fq y),
    (3, 28, .fq (x.sub y)),
    (4, 29, .val (Value.int IntKind.i64 0)),
    (5, 30, .val (Value.bool false)),
    (6, 31, .val (Value.bool false)),
    (7, 32, .fq y),
    (8, 33, .fq x),
    (9, 34, .val (Value.int IntKind.i64 0)),
    (10, 35, .val (Value.int IntKind.i64 0)),
    (11, 36, .val (Value.int IntKind.i64 0)),
    (12, 37, .val (Value.bool false)),
    (13, 38, .val (Value.bool false)),
    (14, 39, .val (Value.bool false)),
    (15, 40, .val (Value.int IntKind.i64 0)),
    (16, 41, .val (Value.bool true)),
    (17, 42, .fq x),
    (18, 43, .fq y),
    (19, 44, .val (Value.bool true)),
    (20, 45, .val (Value.bool false)),
    (21, 46, .val (Value.bool false))]
def lOrzT15 (x : Fq) (y : Fq) (z : Fq) (l : Int) (m : Int) : List (Nat × Tmp × Sp) :=
   [(0, 47, .val (Value.int IntKind.i64 0)),
    (1, 48, .val (Value.bool true)),
    (2, 49, .val (Value.bool true)),
    (3, 50, .fq y),
    (4, 51, .fq z),
    (5, 52, .val (Value.int IntKind.i64 l)),
    (6, 53, .val (Value.bool true)),
    (7, 54, .val (Value.bool true)),
    (8, 55, .val (Value.bool true)),
    (9, 56, .fq x),
    (10, 57, .fq z),
    (11, 58, .val (Value.int IntKind.i64 m)),
    (12, 59, .val (Value.bool false)),
    (13, 60, .val (Value.bool false))]
def lOrzT16 (x : Fq) (y : Fq) (z : Fq) : List (Nat × Tmp × Sp) :=
   [(0, 61, .fq x),
    (1, 62, .fq z),
    (2, 63, .fq (x.add z)),
    (3, 64, .fq y),
    (4, 65, .fq z),
    (5, 66, .fq (y.add z)),
    (6, 67, .val (Value.int IntKind.i64 0)),
    (7, 68, .val (Value.int IntKind.i64 0)),
    (8, 69, .val (Value.bool false))]
def lOrzT17 (x : Fq) (y : Fq) (z : Fq) (s : Int) : List (Nat × Tmp × Sp) :=
   [(0, 70, .fq z),
    (1, 71, .val (Value.int IntKind.i64 s)),
    (2, 72, .val (Value.bool false)),
    (3, 73, .val (Value.bool false)),
    (4, 74, .fq x),
    (5, 75, .fq z),
    (6, 76, .fq (x.mul z)),
    (7, 77, .fq y),
    (8, 78, .fq z),
    (9, 79, .fq (y.mul z)),
    (10, 80, .val (Value.int IntKind.i64 0)),
    (11, 81, .val (Value.int IntKind.i64 0)),
    (12, 82, .val (Value.bool true)),
    (13, 83, .val (Value.bool true)),
    (14, 84, .val (Value.bool true)),
    (15, 85, .val (Value.bool true)),
    (16, 86, .val (Value.bool true)),
    (17, 6, .val (Value.bool true))]
def lOrzT18 (x : Fq) (y : Fq) (z : Fq) : List (Nat × Tmp × Sp) :=
   [(0, 8, .fq x),
    (1, 9, .val (Value.bool true)),
    (2, 10, .val (Value.bool false)),
    (3, 11, .val (Value.bool false)),
    (4, 12, .fq y),
    (5, 13, .val (Value.bool true)),
    (6, 14, .val (Value.bool false)),
    (7, 15, .val (Value.bool false)),
    (8, 16, .val (Value.bool false)),
    (9, 17, .fq z),
    (10, 18, .val (Value.bool true)),
    (11, 19, .val (Value.bool false)),
    (12, 20, .val (Value.bool false))]
def lOrzT19 (x : Fq) (y : Fq) : List (Nat × Tmp × Sp) :=
   [(0, 22, .fq x),
    (1, 23, .fq y),
    (2, 24, .val (Value.int IntKind.i64 0)),
    (3, 7, .val (Value.int IntKind.i64 0))]
def lOrzT20 (x : Fq) (y : Fq) : List (Nat × Tmp × Sp) :=
   [(0, 25, .val (Value.int IntKind.i64 0)),
    (1, 26, .fq x),
    (2, 27, .fq y),
    (3, 28, .fq (x.sub y)),
    (4, 29, .val (Value.int IntKind.i64 0)),
    (5, 30, .val (Value.bool false)),
    (6, 31, .val (Value.bool false)),
    (7, 32, .fq y),
    (8, 33, .fq x),
    (9, 34, .val (Value.int IntKind.i64 0)),
    (10, 35, .val (Value.int IntKind.i64 0)),
    (11, 36, .val (Value.int IntKind.i64 0)),
    (12, 37, .val (Value.bool false)),
    (13, 38, .val (Value.bool false)),
    (14, 39, .val (Value.bool false)),
    (15, 40, .val (Value.int IntKind.i64 0)),
    (16, 41, .val (Value.bool true)),
    (17, 42, .fq x),
    (18, 43, .fq y),
    (19, 44, .val (Value.bool true)),
    (20, 45, .val (Value.bool false)),
    (21, 46, .val (Value.bool false))]
def lOrzT21 (y : Fq) (z : Fq) (l : Int) : List (Nat × Tmp × Sp) :=
   [(0, 47, .val (Value.int IntKind.i64 0)),
    (1, 48, .val (Value.bool true)),
    (2, 49, .val (Value.bool true)),
    (3, 50, .fq y),
    (4, 51, .fq z),
    (5, 52, .val (Value.int IntKind.i64 l)),
    (6, 53, .val (Value.bool false)),
    (7, 54, .val (Value.bool false)),
    (8, 55, .val (Value.bool false)),
    (9, 56, .val undef),
    (10, 57, .val undef),
    (11, 58, .val undef),
    (12, 59, .val undef),
    (13, 60, .val (Value.bool false))]
def lOrzT22 (x : Fq) (y : Fq) (z : Fq) : List (Nat × Tmp × Sp) :=
   [(0, 61, .fq x),
    (1, 62, .fq z),
    (2, 63, .fq (x.add z)),
    (3, 64, .fq y),
    (4, 65, .fq z),
    (5, 66, .fq (y.add z)),
    (6, 67, .val (Value.int IntKind.i64 0)),
    (7, 68, .val (Value.int IntKind.i64 0)),
    (8, 69, .val (Value.bool false))]
def lOrzT23 (x : Fq) (y : Fq) (z : Fq) (s : Int) : List (Nat × Tmp × Sp) :=
   [(0, 70, .fq z),
    (1, 71, .val (Value.int IntKind.i64 s)),
    (2, 72, .val (Value.bool false)),
    (3, 73, .val (Value.bool false)),
    (4, 74, .fq x),
    (5, 75, .fq z),
    (6, 76, .fq (x.mul z)),
    (7, 77, .fq y),
    (8, 78, .fq z),
    (9, 79, .fq (y.mul z)),
    (10, 80, .val (Value.int IntKind.i64 0)),
    (11, 81, .val (Value.int IntKind.i64 0)),
    (12, 82, .val (Value.bool true)),
    (13, 83, .val (Value.bool true)),
    (14, 84, .val (Value.bool true)),
    (15, 85, .val (Value.bool true)),
    (16, 86, .val (Value.bool true)),
    (17, 6, .val (Value.bool true))]
set_option maxHeartbeats 4000000 in
theorem c_lOrz (vx vy vz : Value) (x y z : Fq) (w : World) (ix : IsQ w vx x) (iy : IsQ w vy y) (iz : IsQ w vz z) (hx : x.ok 12) (ex : x.valid = true) (hy : y.ok 12) (ey : y.valid = true) (hz : z.ok 12) (ez : z.valid = true) (hk : x.cmp y = 0) :
    Calls Try.prog 8 #[vx, vy, vz] w fun e w' => RetV w (.bool true) e w' := by
  have K1 : Hid (x.cmp y = 0) := Lib.hid hk
  have K2 : Hid ((x.sub y).sgn = 0) := Lib.hid hk
  have K3 : Hid (y.cmp x = 0) := Lib.hid (by rw [o_anti ex ey, hk]; rfl)
  have K4 : Hid (x.same y = true) := Lib.hid (by exact same_of ((o_zero ex ey).1 hk))
  have K5 : Hid ((x.add z).cmp (y.add z) = 0) := Lib.hid (by rw [o_add ex ey ez, hk])
  obtain ⟨l, hl⟩ : ∃ l, Hid (y.cmp z = l) := ⟨_, Lib.hid rfl⟩
  obtain ⟨m, hm⟩ : ∃ m, Hid (x.cmp z = m) := ⟨_, Lib.hid rfl⟩
  obtain ⟨s, hs⟩ : ∃ s, Hid (z.sgn = s) := ⟨_, Lib.hid rfl⟩
  by_cases h0 : s ≤ 0
  · have A1 : Hid (true = decide (s ≤ 0)) := Lib.hid (decide_eq_true h0).symm
    clear h0
    by_cases h1 : l ≤ 0
    · have B1 : Hid (true = decide (l ≤ 0)) := Lib.hid (decide_eq_true h1).symm
      have B2 := o_trans' ex ey ez hk hl.out hm.out (by decide) h1
      clear h1 hk
      obtain ⟨a0, c0, b0, d0, rfl, m0, k0⟩ := boxF ix
      obtain ⟨a1, c1, b1, d1, rfl, m1, k1⟩ := boxF (iy.mono m0)
      rw [World.size_alloc ] at k1
      have n1 := m0.trans (m1.mono m0.size)
      obtain ⟨a2, c2, b2, d2, rfl, m2, k2⟩ := boxF (iz.mono n1)
      rw [World.size_alloc, World.size_alloc ] at k2
      have n2 := n1.trans (m2.mono n1.size)
      clear ix iy iz
      go_enter Try.func8, Try.ntmps8
      go_upto_region 0 with (fail)
      go_cut [3, 4, 5, 6] (fun s_3 s_4 s_5 s_6 wx => s_3 = Value.pointer (some ⟨w.heap.size, 0, none⟩) ∧ s_4 = Value.pointer (some ⟨w.heap.size + 1, 0, none⟩) ∧ s_5 = Value.pointer (some ⟨w.heap.size + 2, 0, none⟩) ∧ s_6 = Value.bool false ∧ VarQ wx w.heap.size x ∧ VarQ wx (w.heap.size + 1) y ∧ VarQ wx (w.heap.size + 2) z ∧ Below w.heap.size w wx)
      case first =>
        go_wp2_with fail
        go_meet
        case rel => exact ⟨rfl, rfl, rfl, rfl, ((k0.mono m1).mono m2), (k1.mono m2), k2, n2⟩
      case rest =>
      clear m0 k0 m1 k1 m2 k2 n1 n2
      obtain ⟨rfl, rfl, rfl, rfl, V0, V1, V2, hb1⟩ := hcut
      go_upto_region 1 with (fail)
      go_cut [20] (fun s_20 wx => s_20 = Value.bool false ∧ VarQ wx w.heap.size x ∧ VarQ wx (w.heap.size + 1) y ∧ VarQ wx (w.heap.size + 2) z ∧ Below w.heap.size w wx)
      case first =>
        refine tF Try.f8 1 (lOrzT0 x y z) [] 13 0 ?_ ?_
        · refine ⟨fun _ _ F => gR rfl rfl (arm_loadF rfl (F.k 3 (Value.pointer (some ⟨w.heap.size, 0, none⟩))) (V0.mono F.below)).b, ?_⟩
          refine ⟨fun _ _ F => gR rfl rfl (arm_C1 rfl (enters Try.func18 rfl rfl) (F.f 0 rfl) (fun va w h1 => q_fitQ va x w h1 hx ex) (fun _ _ h => ofV h)).b, ?_⟩
          refine ⟨fun _ _ F => gR rfl rfl (arm_not rfl (F.f 1 rfl)).b, ?_⟩
          refine ⟨fun _ _ F => gR rfl rfl (arm_move (.inl rfl) (F.f 2 rfl)).b, ?_⟩
          refine ⟨fun _ _ F => gG F rfl rfl rfl rfl (arm_loadF rfl (F.k 4 (Value.pointer (some ⟨w.heap.size + 1, 0, none⟩))) (V1.mono F.below)).b, ?_⟩
          refine ⟨fun _ _ F => gG F rfl rfl rfl rfl (arm_C1 rfl (enters Try.func18 rfl rfl) (F.f 4 rfl) (fun va w h1 => q_fitQ va y w h1 hy ey) (fun _ _ h => ofV h)).b, ?_⟩
          refine ⟨fun _ _ F => gG F rfl rfl rfl rfl (arm_not rfl (F.f 5 rfl)).b, ?_⟩
          refine ⟨fun _ _ F => gR rfl rfl (arm_pick rfl (F.f 3 rfl) (fun h => by cases h) (fun _ => (F.f 6 rfl))).b, ?_⟩
          refine ⟨fun _ _ F => gR rfl rfl (arm_move (.inl rfl) (F.f 7 rfl)).b, ?_⟩
          refine ⟨fun _ _ F => gG F rfl rfl rfl rfl (arm_loadF rfl (F.k 5 (Value.pointer (some ⟨w.heap.size + 2, 0, none⟩))) (V2.mono F.below)).b, ?_⟩
          refine ⟨fun _ _ F => gG F rfl rfl rfl rfl (arm_C1 rfl (enters Try.func18 rfl rfl) (F.f 9 rfl) (fun va w h1 => q_fitQ va z w h1 hz ez) (fun _ _ h => ofV h)).b, ?_⟩
          refine ⟨fun _ _ F => gG F rfl rfl rfl rfl (arm_not rfl (F.f 10 rfl)).b, ?_⟩
          refine ⟨fun _ _ F => gR rfl rfl (arm_pick rfl (F.f 8 rfl) (fun h => by cases h) (fun _ => (F.f 11 rfl))).b, ?_⟩
          exact trivial
        intro E' hE gp wp bp G Gs
        obtain rfl : E' = [] := by simpa [subs] using hE
        have e_12 : gp 12 = Value.bool false := G 12 20 _ (by simp) rfl
        clear G Gs hE
        simp only [lOrzT0]
        simp only [qA, setD, qZ, qS, e_12]
        refine wpAny_done (by kernel_rfl) ?_ _
        go_wp2_with fail
        go_meet
        case rel => exact ⟨rfl, (V0.mono bp), (V1.mono bp), (V2.mono bp), (hb1.trans (bp.mono hb1.size))⟩
      case rest =>
      clear V0 V1 V2 hb1
      obtain ⟨rfl, V0, V1, V2, hb1⟩ := hcut
      go_upto_region 3 with (fail)
      go_cut [7] (fun s_7 wx => s_7 = Value.int IntKind.i64 0 ∧ VarQ wx w.heap.size x ∧ VarQ wx (w.heap.size + 1) y ∧ VarQ wx (w.heap.size + 2) z ∧ Below w.heap.size w wx)
      case first =>
        refine tF Try.f8 3 (lOrzT1 x y) [] 3 0 ?_ ?_
        · refine ⟨fun _ _ F => gR rfl rfl (arm_loadF rfl (F.k 3 (Value.pointer (some ⟨w.heap.size, 0, none⟩))) (V0.mono F.below)).b, ?_⟩
          refine ⟨fun _ _ F => gR rfl rfl (arm_loadF rfl (F.k 4 (Value.pointer (some ⟨w.heap.size + 1, 0, none⟩))) (V1.mono F.below)).b, ?_⟩
          refine ⟨fun _ _ F => gR rfl rfl (arm_C2 rfl (enters Try.func36 rfl rfl) (F.f 0 rfl) (F.f 1 rfl) (fun va vb w h1 h2 => q_fCmp va vb x y w h1 h2 (hx.mono (by decide)) (hy.mono (by decide))) (fun _ _ h => by have h' : RetV _ _ _ _ := h; rw [K1.out] at h'; exact ofV h')).b, ?_⟩
          refine ⟨fun _ _ F => gR rfl rfl (arm_move (.inr rfl) (F.f 2 rfl)).b, ?_⟩
          exact trivial
        intro E' hE gp wp bp G Gs
        obtain rfl : E' = [] := by simpa [subs] using hE
        have e_3 : gp 3 = Value.int IntKind.i64 0 := G 3 7 _ (by simp) rfl
        clear G Gs hE
        simp only [lOrzT1]
        simp only [qA, setD, qZ, qS, e_3]
        refine wpAny_done (by kernel_rfl) ?_ _
        go_wp2_with fail
        go_meet
        case rel => exact ⟨rfl, (V0.mono bp), (V1.mono bp), (V2.mono bp), (hb1.trans (bp.mono hb1.size))⟩
      case rest =>
      clear V0 V1 V2 hb1
      obtain ⟨rfl, V0, V1, V2, hb1⟩ := hcut
      go_upto_region 4 with (fail)
      go_cut [46] (fun s_46 wx => s_46 = Value.bool false ∧ VarQ wx w.heap.size x ∧ VarQ wx (w.heap.size + 1) y ∧ VarQ wx (w.heap.size + 2) z ∧ Below w.heap.size w wx)
      case first =>
        refine tF Try.f8 4 (lOrzT2 x y) [] 14 0 ?_ ?_
        · refine ⟨fun _ _ F => gR rfl rfl (arm_move (.inl rfl) (F.k 7 (Value.int IntKind.i64 0))).b, ?_⟩
          refine ⟨fun _ _ F => gR rfl rfl (arm_loadF rfl (F.k 3 (Value.pointer (some ⟨w.heap.size, 0, none⟩))) (V0.mono F.below)).b, ?_⟩
          refine ⟨fun _ _ F => gR rfl rfl (arm_loadF rfl (F.k 4 (Value.pointer (some ⟨w.heap.size + 1, 0, none⟩))) (V1.mono F.below)).b, ?_⟩
          refine ⟨fun _ _ F => gR rfl rfl (arm_C2 rfl (enters Try.func34 rfl rfl) (F.f 1 rfl) (F.f 2 rfl) (fun va vb w h1 h2 => q_fSub va vb x y w h1 h2 (hx.mono (by decide)) (hy.mono (by decide))) (fun _ _ h => ofQ h)).b, ?_⟩
          refine ⟨fun _ _ F => gR rfl rfl (arm_C1 rfl (enters Try.func35 rfl rfl) (F.f 3 rfl) (fun va w h1 => q_fSign va (x.sub y) w h1 ((hx.sub hy).mono (by decide))) (fun _ _ h => by have h' : RetV _ _ _ _ := h; rw [K2.out] at h'; exact ofV h')).b, ?_⟩
          refine ⟨fun _ _ F => gR rfl rfl (arm_bin rfl (F.f 0 rfl) (F.f 4 rfl) (fun _ => rfl) (fun _ => rfl)).b, ?_⟩
          refine ⟨fun _ _ F => gR rfl rfl (arm_move (.inl rfl) (F.f 5 rfl)).b, ?_⟩
          refine ⟨fun _ _ F => gG F rfl rfl rfl rfl (arm_loadF rfl (F.k 4 (Value.pointer (some ⟨w.heap.size + 1, 0, none⟩))) (V1.mono F.below)).b, ?_⟩
          refine ⟨fun _ _ F => gG F rfl rfl rfl rfl (arm_loadF rfl (F.k 3 (Value.pointer (some ⟨w.heap.size, 0, none⟩))) (V0.mono F.below)).b, ?_⟩
          refine ⟨fun _ _ F => gG F rfl rfl rfl rfl (arm_C2 rfl (enters Try.func36 rfl rfl) (F.f 7 rfl) (F.f 8 rfl) (fun va vb w h1 h2 => q_fCmp va vb y x w h1 h2 (hy.mono (by decide)) (hx.mono (by decide))) (fun _ _ h => by have h' : RetV _ _ _ _ := h; rw [K3.out] at h'; exact ofV h')).b, ?_⟩
          refine ⟨fun _ _ F => gG F rfl rfl rfl rfl (arm_move (.inl rfl) (F.k 7 (Value.int IntKind.i64 0))).b, ?_⟩
          refine ⟨fun _ _ F => gG F rfl rfl rfl rfl (arm_negI rfl (F.f 10 rfl) (by decide +kernel)).b, ?_⟩
          refine ⟨fun _ _ F => gG F rfl rfl rfl rfl (arm_bin rfl (F.f 9 rfl) (F.f 11 rfl) (fun _ => rfl) (fun _ => rfl)).b, ?_⟩
          refine ⟨fun _ _ F => gR rfl rfl (arm_pick rfl (F.f 6 rfl) (fun h => by cases h) (fun _ => (F.f 12 rfl))).b, ?_⟩
          refine ⟨fun _ _ F => gR rfl rfl (arm_move (.inl rfl) (F.f 13 rfl)).b, ?_⟩
          refine ⟨fun _ _ F => gG F rfl rfl rfl rfl (arm_move (.inl rfl) (F.k 7 (Value.int IntKind.i64 0))).b, ?_⟩
          refine ⟨fun _ _ F => gG F rfl rfl rfl rfl (arm_bin rfl (F.f 15 rfl) Is.const (fun _ => rfl) (fun _ => rfl)).b, ?_⟩
          refine ⟨fun _ _ F => gG F rfl rfl rfl rfl (arm_loadF rfl (F.k 3 (Value.pointer (some ⟨w.heap.size, 0, none⟩))) (V0.mono F.below)).b, ?_⟩
          refine ⟨fun _ _ F => gG F rfl rfl rfl rfl (arm_loadF rfl (F.k 4 (Value.pointer (some ⟨w.heap.size + 1, 0, none⟩))) (V1.mono F.below)).b, ?_⟩
          refine ⟨fun _ _ F => gG F rfl rfl rfl rfl (arm_C2 rfl (enters Try.func16 rfl rfl) (F.f 17 rfl) (F.f 18 rfl) (fun va vb w h1 h2 => q_Same va vb x y w h1 h2 (hx.mono (by decide)) (hy.mono (by decide))) (fun _ _ h => by have h' : RetV _ _ _ _ := h; rw [K4.out] at h'; exact ofV h')).b, ?_⟩
          refine ⟨fun _ _ F => gG F rfl rfl rfl rfl (arm_bin rfl (F.f 16 rfl) (F.f 19 rfl) (fun _ => rfl) (fun _ => rfl)).b, ?_⟩
          refine ⟨fun _ _ F => gR rfl rfl (arm_pick rfl (F.f 14 rfl) (fun h => by cases h) (fun _ => (F.f 20 rfl))).b, ?_⟩
          exact trivial
        intro E' hE gp wp bp G Gs
        obtain rfl : E' = [] := by simpa [subs] using hE
        have e_21 : gp 21 = Value.bool false := G 21 46 _ (by simp) rfl
        clear G Gs hE
        simp only [lOrzT2]
        simp only [qA, setD, qZ, qS, e_21]
        refine wpAny_done (by kernel_rfl) ?_ _
        go_wp2_with fail
        go_meet
        case rel => exact ⟨rfl, (V0.mono bp), (V1.mono bp), (V2.mono bp), (hb1.trans (bp.mono hb1.size))⟩
      case rest =>
      clear V0 V1 V2 hb1
      obtain ⟨rfl, V0, V1, V2, hb1⟩ := hcut
      go_upto_region 6 with (fail)
      go_cut [60] (fun s_60 wx => s_60 = Value.bool false ∧ VarQ wx w.heap.size x ∧ VarQ wx (w.heap.size + 1) y ∧ VarQ wx (w.heap.size + 2) z ∧ Below w.heap.size w wx)
      case first =>
        refine tF Try.f8 6 (lOrzT3 x y z l m) [] 12 0 ?_ ?_
        · refine ⟨fun _ _ F => gR rfl rfl (arm_move (.inl rfl) (F.k 7 (Value.int IntKind.i64 0))).b, ?_⟩
          refine ⟨fun _ _ F => gR rfl rfl (arm_bin rfl (F.f 0 rfl) Is.const (fun _ => rfl) (fun _ => rfl)).b, ?_⟩
          refine ⟨fun _ _ F => gR rfl rfl (arm_move (.inl rfl) (F.f 1 rfl)).b, ?_⟩
          refine ⟨fun _ _ F => gG F rfl rfl rfl rfl (arm_loadF rfl (F.k 4 (Value.pointer (some ⟨w.heap.size + 1, 0, none⟩))) (V1.mono F.below)).b, ?_⟩
          refine ⟨fun _ _ F => gG F rfl rfl rfl rfl (arm_loadF rfl (F.k 5 (Value.pointer (some ⟨w.heap.size + 2, 0, none⟩))) (V2.mono F.below)).b, ?_⟩
          refine ⟨fun _ _ F => gG F rfl rfl rfl rfl (arm_C2 rfl (enters Try.func36 rfl rfl) (F.f 3 rfl) (F.f 4 rfl) (fun va vb w h1 h2 => q_fCmp va vb y z w h1 h2 (hy.mono (by decide)) (hz.mono (by decide))) (fun _ _ h => by have h' : RetV _ _ _ _ := h; rw [hl.out] at h'; exact ofV h')).b, ?_⟩
          refine ⟨fun _ _ F => gG F rfl rfl rfl rfl (arm_bin rfl (F.f 5 rfl) Is.const (fun _ => rfl) (fun w => by rw [B1.out]; rfl)).b, ?_⟩
          refine ⟨fun _ _ F => gR rfl rfl (arm_pick rfl (F.f 2 rfl) (fun _ => (F.f 6 rfl)) (fun h => by cases h)).b, ?_⟩
          refine ⟨fun _ _ F => gR rfl rfl (arm_move (.inl rfl) (F.f 7 rfl)).b, ?_⟩
          refine ⟨fun _ _ F => gG F rfl rfl rfl rfl (arm_loadF rfl (F.k 3 (Value.pointer (some ⟨w.heap.size, 0, none⟩))) (V0.mono F.below)).b, ?_⟩
          refine ⟨fun _ _ F => gG F rfl rfl rfl rfl (arm_loadF rfl (F.k 5 (Value.pointer (some ⟨w.heap.size + 2, 0, none⟩))) (V2.mono F.below)).b, ?_⟩
          refine ⟨fun _ _ F => gG F rfl rfl rfl rfl (arm_C2 rfl (enters Try.func36 rfl rfl) (F.f 9 rfl) (F.f 10 rfl) (fun va vb w h1 h2 => q_fCmp va vb x z w h1 h2 (hx.mono (by decide)) (hz.mono (by decide))) (fun _ _ h => by have h' : RetV _ _ _ _ := h; rw [hm.out] at h'; exact ofV h')).b, ?_⟩
          refine ⟨fun _ _ F => gG F rfl rfl rfl rfl (arm_bin rfl (F.f 11 rfl) Is.const (fun _ => rfl) (fun w => by rw [B2.out]; rfl)).b, ?_⟩
          refine ⟨fun _ _ F => gR rfl rfl (arm_pick rfl (F.f 8 rfl) (fun _ => (F.f 12 rfl)) (fun h => by cases h)).b, ?_⟩
          exact trivial
        intro E' hE gp wp bp G Gs
        obtain rfl : E' = [] := by simpa [subs] using hE
        have e_13 : gp 13 = Value.bool false := G 13 60 _ (by simp) rfl
        clear G Gs hE
        simp only [lOrzT3]
        simp only [qA, setD, qZ, qS, e_13]
        refine wpAny_done (by kernel_rfl) ?_ _
        go_wp2_with fail
        go_meet
        case rel => exact ⟨rfl, (V0.mono bp), (V1.mono bp), (V2.mono bp), (hb1.trans (bp.mono hb1.size))⟩
      case rest =>
      clear V0 V1 V2 hb1
      obtain ⟨rfl, V0, V1, V2, hb1⟩ := hcut
      go_upto_region 8 with (fail)
      go_cut [69] (fun s_69 wx => s_69 = Value.bool false ∧ VarQ wx w.heap.size x ∧ VarQ wx (w.heap.size + 1) y ∧ VarQ wx (w.heap.size + 2) z ∧ Below w.heap.size w wx)
      case first =>
        refine tG Try.f8 8 (lOrzT4 x y z) [] 5 0 ?_ ?_
        · refine ⟨fun _ _ F => gR rfl rfl (arm_loadF rfl (F.k 3 (Value.pointer (some ⟨w.heap.size, 0, none⟩))) (V0.mono F.below)).b, ?_⟩
          refine ⟨fun _ _ F => gR rfl rfl (arm_loadF rfl (F.k 5 (Value.pointer (some ⟨w.heap.size + 2, 0, none⟩))) (V2.mono F.below)).b, ?_⟩
          refine ⟨fun _ _ F => gR rfl rfl (arm_C2 rfl (enters Try.func37 rfl rfl) (F.f 0 rfl) (F.f 1 rfl) (fun va vb w h1 h2 => q_fAdd va vb x z w h1 h2 (hx.mono (by decide)) (hz.mono (by decide))) (fun _ _ h => ofQ h)).b, ?_⟩
          refine ⟨fun _ _ F => gR rfl rfl (arm_loadF rfl (F.k 4 (Value.pointer (some ⟨w.heap.size + 1, 0, none⟩))) (V1.mono F.below)).b, ?_⟩
          refine ⟨fun _ _ F => gR rfl rfl (arm_loadF rfl (F.k 5 (Value.pointer (some ⟨w.heap.size + 2, 0, none⟩))) (V2.mono F.below)).b, ?_⟩
          refine ⟨fun _ _ F => gR rfl rfl (arm_C2 rfl (enters Try.func37 rfl rfl) (F.f 3 rfl) (F.f 4 rfl) (fun va vb w h1 h2 => q_fAdd va vb y z w h1 h2 (hy.mono (by decide)) (hz.mono (by decide))) (fun _ _ h => ofQ h)).b, ?_⟩
          refine ⟨fun _ _ F => gR rfl rfl (arm_C2 rfl (enters Try.func36 rfl rfl) (F.f 2 rfl) (F.f 5 rfl) (fun va vb w h1 h2 => q_fCmp va vb (x.add z) (y.add z) w h1 h2 ((hx.add hz).mono (by decide)) ((hy.add hz).mono (by decide))) (fun _ _ h => by have h' : RetV _ _ _ _ := h; rw [K5.out] at h'; exact ofV h')).b, ?_⟩
          refine ⟨fun _ _ F => gR rfl rfl (arm_move (.inl rfl) (F.k 7 (Value.int IntKind.i64 0))).b, ?_⟩
          refine ⟨fun _ _ F => gR rfl rfl (arm_bin rfl (F.f 6 rfl) (F.f 7 rfl) (fun _ => rfl) (fun _ => rfl)).b, ?_⟩
          exact trivial
        intro E' hE gp wp bp G Gs
        obtain rfl : E' = [] := by simpa [subs] using hE
        have e_8 : gp 8 = Value.bool false := G 8 69 _ (by simp) rfl
        clear G Gs hE
        simp only [lOrzT4]
        simp only [qA, setD, qZ, qS, e_8]
        refine wpAny_done (by kernel_rfl) ?_ _
        go_wp2_with fail
        go_meet
        case rel => exact ⟨rfl, (V0.mono bp), (V1.mono bp), (V2.mono bp), (hb1.trans (bp.mono hb1.size))⟩
      case rest =>
      clear V0 V1 V2 hb1
      obtain ⟨rfl, V0, V1, V2, hb1⟩ := hcut
      go_upto_region 10 with (fail)
      go_cut [6] (fun s_6 wx => s_6 = Value.bool true ∧ VarQ wx w.heap.size x ∧ VarQ wx (w.heap.size + 1) y ∧ VarQ wx (w.heap.size + 2) z ∧ Below w.heap.size w wx)
      case first =>
        refine tG Try.f8 10 (lOrzT5 z s) [] 14 0 ?_ ?_
        · refine ⟨fun _ _ F => gR rfl rfl (arm_loadF rfl (F.k 5 (Value.pointer (some ⟨w.heap.size + 2, 0, none⟩))) (V2.mono F.below)).b, ?_⟩
          refine ⟨fun _ _ F => gR rfl rfl (arm_C1 rfl (enters Try.func35 rfl rfl) (F.f 0 rfl) (fun va w h1 => q_fSign va z w h1 (hz.mono (by decide))) (fun _ _ h => by have h' : RetV _ _ _ _ := h; rw [hs.out] at h'; exact ofV h')).b, ?_⟩
          refine ⟨fun _ _ F => gR rfl rfl (arm_bin rfl (F.f 1 rfl) Is.const (fun _ => rfl) (fun w => by rw [A1.out]; rfl)).b, ?_⟩
          refine ⟨fun _ _ F => gR rfl rfl (arm_move (.inl rfl) (F.f 2 rfl)).b, ?_⟩
          refine ⟨fun _ _ F => gS F rfl rfl rfl rfl rfl rfl, ?_⟩
          refine ⟨fun _ _ F => gS F rfl rfl rfl rfl rfl rfl, ?_⟩
          refine ⟨fun _ _ F => gS F rfl rfl rfl rfl rfl rfl, ?_⟩
          refine ⟨fun _ _ F => gS F rfl rfl rfl rfl rfl rfl, ?_⟩
          refine ⟨fun _ _ F => gS F rfl rfl rfl rfl rfl rfl, ?_⟩
          refine ⟨fun _ _ F => gS F rfl rfl rfl rfl rfl rfl, ?_⟩
          refine ⟨fun _ _ F => gS F rfl rfl rfl rfl rfl rfl, ?_⟩
          refine ⟨fun _ _ F => gS F rfl rfl rfl rfl rfl rfl, ?_⟩
          refine ⟨fun _ _ F => gS F rfl rfl rfl rfl rfl rfl, ?_⟩
          refine ⟨fun _ _ F => gR rfl rfl (arm_pick rfl (F.f 3 rfl) (fun _ => Is.const) (fun h => by cases h)).b, ?_⟩
          refine ⟨fun _ _ F => gR rfl rfl (arm_move (.inl rfl) (F.f 13 rfl)).b, ?_⟩
          refine ⟨fun _ _ F => gG F rfl rfl rfl rfl (arm_C0 rfl (enters Try.func11 rfl rfl)  (fun w => c_awake2 w) (fun _ _ h => ofV h)).b, ?_⟩
          refine ⟨fun _ _ F => gR rfl rfl (arm_pick rfl (F.f 14 rfl) (fun _ => (F.f 15 rfl)) (fun h => by cases h)).b, ?_⟩
          refine ⟨fun _ _ F => gR rfl rfl (arm_move (.inr rfl) (F.f 16 rfl)).b, ?_⟩
          exact trivial
        intro E' hE gp wp bp G Gs
        obtain rfl : E' = [] := by simpa [subs] using hE
        have e_17 : gp 17 = Value.bool true := G 17 6 _ (by simp) rfl
        clear G Gs hE
        simp only [lOrzT5]
        simp only [qA, setD, qZ, qS, e_17]
        refine wpAny_done (by kernel_rfl) ?_ _
        go_wp2_with fail
        go_meet
        case rel => exact ⟨rfl, (V0.mono bp), (V1.mono bp), (V2.mono bp), (hb1.trans (bp.mono hb1.size))⟩
      case rest =>
      clear V0 V1 V2 hb1
      obtain ⟨rfl, V0, V1, V2, hb1⟩ := hcut
      go_wp2
      go_ret
      exact ⟨rfl, hb1⟩
    · have B1 : Hid (false = decide (l ≤ 0)) := Lib.hid (decide_eq_false h1).symm
      clear h1 hk
      obtain ⟨a0, c0, b0, d0, rfl, m0, k0⟩ := boxF ix
      obtain ⟨a1, c1, b1, d1, rfl, m1, k1⟩ := boxF (iy.mono m0)
      rw [World.size_alloc ] at k1
      have n1 := m0.trans (m1.mono m0.size)
      obtain ⟨a2, c2, b2, d2, rfl, m2, k2⟩ := boxF (iz.mono n1)
      rw [World.size_alloc, World.size_alloc ] at k2
      have n2 := n1.trans (m2.mono n1.size)
      clear ix iy iz
      go_enter Try.func8, Try.ntmps8
      go_upto_region 0 with (fail)
      go_cut [3, 4, 5, 6] (fun s_3 s_4 s_5 s_6 wx => s_3 = Value.pointer (some ⟨w.heap.size, 0, none⟩) ∧ s_4 = Value.pointer (some ⟨w.heap.size + 1, 0, none⟩) ∧ s_5 = Value.pointer (some ⟨w.heap.size + 2, 0, none⟩) ∧ s_6 = Value.bool false ∧ VarQ wx w.heap.size x ∧ VarQ wx (w.heap.size + 1) y ∧ VarQ wx (w.heap.size + 2) z ∧ Below w.heap.size w wx)
      case first =>
        go_wp2_with fail
        go_meet
        case rel => exact ⟨rfl, rfl, rfl, rfl, ((k0.mono m1).mono m2), (k1.mono m2), k2, n2⟩
      case rest =>
      clear m0 k0 m1 k1 m2 k2 n1 n2
      obtain ⟨rfl, rfl, rfl, rfl, V0, V1, V2, hb1⟩ := hcut
      go_upto_region 1 with (fail)
      go_cut [20] (fun s_20 wx => s_20 = Value.bool false ∧ VarQ wx w.heap.size x ∧ VarQ wx (w.heap.size + 1) y ∧ VarQ wx (w.heap.size + 2) z ∧ Below w.heap.size w wx)
      case first =>
        refine tF Try.f8 1 (lOrzT6 x y z) [] 13 0 ?_ ?_
        · refine ⟨fun _ _ F => gR rfl rfl (arm_loadF rfl (F.k 3 (Value.pointer (some ⟨w.heap.size, 0, none⟩))) (V0.mono F.below)).b, ?_⟩
          refine ⟨fun _ _ F => gR rfl rfl (arm_C1 rfl (enters Try.func18 rfl rfl) (F.f 0 rfl) (fun va w h1 => q_fitQ va x w h1 hx ex) (fun _ _ h => ofV h)).b, ?_⟩
          refine ⟨fun _ _ F => gR rfl rfl (arm_not rfl (F.f 1 rfl)).b, ?_⟩
          refine ⟨fun _ _ F => gR rfl rfl (arm_move (.inl rfl) (F.f 2 rfl)).b, ?_⟩
          refine ⟨fun _ _ F => gG F rfl rfl rfl rfl (arm_loadF rfl (F.k 4 (Value.pointer (some ⟨w.heap.size + 1, 0, none⟩))) (V1.mono F.below)).b, ?_⟩
          refine ⟨fun _ _ F => gG F rfl rfl rfl rfl (arm_C1 rfl (enters Try.func18 rfl rfl) (F.f 4 rfl) (fun va w h1 => q_fitQ va y w h1 hy ey) (fun _ _ h => ofV h)).b, ?_⟩
          refine ⟨fun _ _ F => gG F rfl rfl rfl rfl (arm_not rfl (F.f 5 rfl)).b, ?_⟩
          refine ⟨fun _ _ F => gR rfl rfl (arm_pick rfl (F.f 3 rfl) (fun h => by cases h) (fun _ => (F.f 6 rfl))).b, ?_⟩
          refine ⟨fun _ _ F => gR rfl rfl (arm_move (.inl rfl) (F.f 7 rfl)).b, ?_⟩
          refine ⟨fun _ _ F => gG F rfl rfl rfl rfl (arm_loadF rfl (F.k 5 (Value.pointer (some ⟨w.heap.size + 2, 0, none⟩))) (V2.mono F.below)).b, ?_⟩
          refine ⟨fun _ _ F => gG F rfl rfl rfl rfl (arm_C1 rfl (enters Try.func18 rfl rfl) (F.f 9 rfl) (fun va w h1 => q_fitQ va z w h1 hz ez) (fun _ _ h => ofV h)).b, ?_⟩
          refine ⟨fun _ _ F => gG F rfl rfl rfl rfl (arm_not rfl (F.f 10 rfl)).b, ?_⟩
          refine ⟨fun _ _ F => gR rfl rfl (arm_pick rfl (F.f 8 rfl) (fun h => by cases h) (fun _ => (F.f 11 rfl))).b, ?_⟩
          exact trivial
        intro E' hE gp wp bp G Gs
        obtain rfl : E' = [] := by simpa [subs] using hE
        have e_12 : gp 12 = Value.bool false := G 12 20 _ (by simp) rfl
        clear G Gs hE
        simp only [lOrzT6]
        simp only [qA, setD, qZ, qS, e_12]
        refine wpAny_done (by kernel_rfl) ?_ _
        go_wp2_with fail
        go_meet
        case rel => exact ⟨rfl, (V0.mono bp), (V1.mono bp), (V2.mono bp), (hb1.trans (bp.mono hb1.size))⟩
      case rest =>
      clear V0 V1 V2 hb1
      obtain ⟨rfl, V0, V1, V2, hb1⟩ := hcut
      go_upto_region 3 with (fail)
      go_cut [7] (fun s_7 wx => s_7 = Value.int IntKind.i64 0 ∧ VarQ wx w.heap.size x ∧ VarQ wx (w.heap.size + 1) y ∧ VarQ wx (w.heap.size + 2) z ∧ Below w.heap.size w wx)
      case first =>
        refine tF Try.f8 3 (lOrzT7 x y) [] 3 0 ?_ ?_
        · refine ⟨fun _ _ F => gR rfl rfl (arm_loadF rfl (F.k 3 (Value.pointer (some ⟨w.heap.size, 0, none⟩))) (V0.mono F.below)).b, ?_⟩
          refine ⟨fun _ _ F => gR rfl rfl (arm_loadF rfl (F.k 4 (Value.pointer (some ⟨w.heap.size + 1, 0, none⟩))) (V1.mono F.below)).b, ?_⟩
          refine ⟨fun _ _ F => gR rfl rfl (arm_C2 rfl (enters Try.func36 rfl rfl) (F.f 0 rfl) (F.f 1 rfl) (fun va vb w h1 h2 => q_fCmp va vb x y w h1 h2 (hx.mono (by decide)) (hy.mono (by decide))) (fun _ _ h => by have h' : RetV _ _ _ _ := h; rw [K1.out] at h'; exact ofV h')).b, ?_⟩
          refine ⟨fun _ _ F => gR rfl rfl (arm_move (.inr rfl) (F.f 2 rfl)).b, ?_⟩
          exact trivial
        intro E' hE gp wp bp G Gs
        obtain rfl : E' = [] := by simpa [subs] using hE
        have e_3 : gp 3 = Value.int IntKind.i64 0 := G 3 7 _ (by simp) rfl
        clear G Gs hE
        simp only [lOrzT7]
        simp only [qA, setD, qZ, qS, e_3]
        refine wpAny_done (by kernel_rfl) ?_ _
        go_wp2_with fail
        go_meet
        case rel => exact ⟨rfl, (V0.mono bp), (V1.mono bp), (V2.mono bp), (hb1.trans (bp.mono hb1.size))⟩
      case rest =>
      clear V0 V1 V2 hb1
      obtain ⟨rfl, V0, V1, V2, hb1⟩ := hcut
      go_upto_region 4 with (fail)
      go_cut [46] (fun s_46 wx => s_46 = Value.bool false ∧ VarQ wx w.heap.size x ∧ VarQ wx (w.heap.size + 1) y ∧ VarQ wx (w.heap.size + 2) z ∧ Below w.heap.size w wx)
      case first =>
        refine tF Try.f8 4 (lOrzT8 x y) [] 14 0 ?_ ?_
        · refine ⟨fun _ _ F => gR rfl rfl (arm_move (.inl rfl) (F.k 7 (Value.int IntKind.i64 0))).b, ?_⟩
          refine ⟨fun _ _ F => gR rfl rfl (arm_loadF rfl (F.k 3 (Value.pointer (some ⟨w.heap.size, 0, none⟩))) (V0.mono F.below)).b, ?_⟩
          refine ⟨fun _ _ F => gR rfl rfl (arm_loadF rfl (F.k 4 (Value.pointer (some ⟨w.heap.size + 1, 0, none⟩))) (V1.mono F.below)).b, ?_⟩
          refine ⟨fun _ _ F => gR rfl rfl (arm_C2 rfl (enters Try.func34 rfl rfl) (F.f 1 rfl) (F.f 2 rfl) (fun va vb w h1 h2 => q_fSub va vb x y w h1 h2 (hx.mono (by decide)) (hy.mono (by decide))) (fun _ _ h => ofQ h)).b, ?_⟩
          refine ⟨fun _ _ F => gR rfl rfl (arm_C1 rfl (enters Try.func35 rfl rfl) (F.f 3 rfl) (fun va w h1 => q_fSign va (x.sub y) w h1 ((hx.sub hy).mono (by decide))) (fun _ _ h => by have h' : RetV _ _ _ _ := h; rw [K2.out] at h'; exact ofV h')).b, ?_⟩
          refine ⟨fun _ _ F => gR rfl rfl (arm_bin rfl (F.f 0 rfl) (F.f 4 rfl) (fun _ => rfl) (fun _ => rfl)).b, ?_⟩
          refine ⟨fun _ _ F => gR rfl rfl (arm_move (.inl rfl) (F.f 5 rfl)).b, ?_⟩
          refine ⟨fun _ _ F => gG F rfl rfl rfl rfl (arm_loadF rfl (F.k 4 (Value.pointer (some ⟨w.heap.size + 1, 0, none⟩))) (V1.mono F.below)).b, ?_⟩
          refine ⟨fun _ _ F => gG F rfl rfl rfl rfl (arm_loadF rfl (F.k 3 (Value.pointer (some ⟨w.heap.size, 0, none⟩))) (V0.mono F.below)).b, ?_⟩
          refine ⟨fun _ _ F => gG F rfl rfl rfl rfl (arm_C2 rfl (enters Try.func36 rfl rfl) (F.f 7 rfl) (F.f 8 rfl) (fun va vb w h1 h2 => q_fCmp va vb y x w h1 h2 (hy.mono (by decide)) (hx.mono (by decide))) (fun _ _ h => by have h' : RetV _ _ _ _ := h; rw [K3.out] at h'; exact ofV h')).b, ?_⟩
          refine ⟨fun _ _ F => gG F rfl rfl rfl rfl (arm_move (.inl rfl) (F.k 7 (Value.int IntKind.i64 0))).b, ?_⟩
          refine ⟨fun _ _ F => gG F rfl rfl rfl rfl (arm_negI rfl (F.f 10 rfl) (by decide +kernel)).b, ?_⟩
          refine ⟨fun _ _ F => gG F rfl rfl rfl rfl (arm_bin rfl (F.f 9 rfl) (F.f 11 rfl) (fun _ => rfl) (fun _ => rfl)).b, ?_⟩
          refine ⟨fun _ _ F => gR rfl rfl (arm_pick rfl (F.f 6 rfl) (fun h => by cases h) (fun _ => (F.f 12 rfl))).b, ?_⟩
          refine ⟨fun _ _ F => gR rfl rfl (arm_move (.inl rfl) (F.f 13 rfl)).b, ?_⟩
          refine ⟨fun _ _ F => gG F rfl rfl rfl rfl (arm_move (.inl rfl) (F.k 7 (Value.int IntKind.i64 0))).b, ?_⟩
          refine ⟨fun _ _ F => gG F rfl rfl rfl rfl (arm_bin rfl (F.f 15 rfl) Is.const (fun _ => rfl) (fun _ => rfl)).b, ?_⟩
          refine ⟨fun _ _ F => gG F rfl rfl rfl rfl (arm_loadF rfl (F.k 3 (Value.pointer (some ⟨w.heap.size, 0, none⟩))) (V0.mono F.below)).b, ?_⟩
          refine ⟨fun _ _ F => gG F rfl rfl rfl rfl (arm_loadF rfl (F.k 4 (Value.pointer (some ⟨w.heap.size + 1, 0, none⟩))) (V1.mono F.below)).b, ?_⟩
          refine ⟨fun _ _ F => gG F rfl rfl rfl rfl (arm_C2 rfl (enters Try.func16 rfl rfl) (F.f 17 rfl) (F.f 18 rfl) (fun va vb w h1 h2 => q_Same va vb x y w h1 h2 (hx.mono (by decide)) (hy.mono (by decide))) (fun _ _ h => by have h' : RetV _ _ _ _ := h; rw [K4.out] at h'; exact ofV h')).b, ?_⟩
          refine ⟨fun _ _ F => gG F rfl rfl rfl rfl (arm_bin rfl (F.f 16 rfl) (F.f 19 rfl) (fun _ => rfl) (fun _ => rfl)).b, ?_⟩
          refine ⟨fun _ _ F => gR rfl rfl (arm_pick rfl (F.f 14 rfl) (fun h => by cases h) (fun _ => (F.f 20 rfl))).b, ?_⟩
          exact trivial
        intro E' hE gp wp bp G Gs
        obtain rfl : E' = [] := by simpa [subs] using hE
        have e_21 : gp 21 = Value.bool false := G 21 46 _ (by simp) rfl
        clear G Gs hE
        simp only [lOrzT8]
        simp only [qA, setD, qZ, qS, e_21]
        refine wpAny_done (by kernel_rfl) ?_ _
        go_wp2_with fail
        go_meet
        case rel => exact ⟨rfl, (V0.mono bp), (V1.mono bp), (V2.mono bp), (hb1.trans (bp.mono hb1.size))⟩
      case rest =>
      clear V0 V1 V2 hb1
      obtain ⟨rfl, V0, V1, V2, hb1⟩ := hcut
      go_upto_region 6 with (fail)
      go_cut [60] (fun s_60 wx => s_60 = Value.bool false ∧ VarQ wx w.heap.size x ∧ VarQ wx (w.heap.size + 1) y ∧ VarQ wx (w.heap.size + 2) z ∧ Below w.heap.size w wx)
      case first =>
        refine tF Try.f8 6 (lOrzT9 y z l) [] 12 0 ?_ ?_
        · refine ⟨fun _ _ F => gR rfl rfl (arm_move (.inl rfl) (F.k 7 (Value.int IntKind.i64 0))).b, ?_⟩
          refine ⟨fun _ _ F => gR rfl rfl (arm_bin rfl (F.f 0 rfl) Is.const (fun _ => rfl) (fun _ => rfl)).b, ?_⟩
          refine ⟨fun _ _ F => gR rfl rfl (arm_move (.inl rfl) (F.f 1 rfl)).b, ?_⟩
          refine ⟨fun _ _ F => gG F rfl rfl rfl rfl (arm_loadF rfl (F.k 4 (Value.pointer (some ⟨w.heap.size + 1, 0, none⟩))) (V1.mono F.below)).b, ?_⟩
          refine ⟨fun _ _ F => gG F rfl rfl rfl rfl (arm_loadF rfl (F.k 5 (Value.pointer (some ⟨w.heap.size + 2, 0, none⟩))) (V2.mono F.below)).b, ?_⟩
          refine ⟨fun _ _ F => gG F rfl rfl rfl rfl (arm_C2 rfl (enters Try.func36 rfl rfl) (F.f 3 rfl) (F.f 4 rfl) (fun va vb w h1 h2 => q_fCmp va vb y z w h1 h2 (hy.mono (by decide)) (hz.mono (by decide))) (fun _ _ h => by have h' : RetV _ _ _ _ := h; rw [hl.out] at h'; exact ofV h')).b, ?_⟩
          refine ⟨fun _ _ F => gG F rfl rfl rfl rfl (arm_bin rfl (F.f 5 rfl) Is.const (fun _ => rfl) (fun w => by rw [B1.out]; rfl)).b, ?_⟩
          refine ⟨fun _ _ F => gR rfl rfl (arm_pick rfl (F.f 2 rfl) (fun _ => (F.f 6 rfl)) (fun h => by cases h)).b, ?_⟩
          refine ⟨fun _ _ F => gR rfl rfl (arm_move (.inl rfl) (F.f 7 rfl)).b, ?_⟩
          refine ⟨fun _ _ F => gS F rfl rfl rfl rfl rfl rfl, ?_⟩
          refine ⟨fun _ _ F => gS F rfl rfl rfl rfl rfl rfl, ?_⟩
          refine ⟨fun _ _ F => gS F rfl rfl rfl rfl rfl rfl, ?_⟩
          refine ⟨fun _ _ F => gS F rfl rfl rfl rfl rfl rfl, ?_⟩
          refine ⟨fun _ _ F => gR rfl rfl (arm_pick rfl (F.f 8 rfl) (fun h => by cases h) (fun _ => Is.const)).b, ?_⟩
          exact trivial
        intro E' hE gp wp bp G Gs
        obtain rfl : E' = [] := by simpa [subs] using hE
        have e_13 : gp 13 = Value.bool false := G 13 60 _ (by simp) rfl
        clear G Gs hE
        simp only [lOrzT9]
        simp only [qA, setD, qZ, qS, e_13]
        refine wpAny_done (by kernel_rfl) ?_ _
        go_wp2_with fail
        go_meet
        case rel => exact ⟨rfl, (V0.mono bp), (V1.mono bp), (V2.mono bp), (hb1.trans (bp.mono hb1.size))⟩
      case rest =>
      clear V0 V1 V2 hb1
      obtain ⟨rfl, V0, V1, V2, hb1⟩ := hcut
      go_upto_region 8 with (fail)
      go_cut [69] (fun s_69 wx => s_69 = Value.bool false ∧ VarQ wx w.heap.size x ∧ VarQ wx (w.heap.size + 1) y ∧ VarQ wx (w.heap.size + 2) z ∧ Below w.heap.size w wx)
      case first =>
        refine tG Try.f8 8 (lOrzT10 x y z) [] 5 0 ?_ ?_
        · refine ⟨fun _ _ F => gR rfl rfl (arm_loadF rfl (F.k 3 (Value.pointer (some ⟨w.heap.size, 0, none⟩))) (V0.mono F.below)).b, ?_⟩
          refine ⟨fun _ _ F => gR rfl rfl (arm_loadF rfl (F.k 5 (Value.pointer (some ⟨w.heap.size + 2, 0, none⟩))) (V2.mono F.below)).b, ?_⟩
          refine ⟨fun _ _ F => gR rfl rfl (arm_C2 rfl (enters Try.func37 rfl rfl) (F.f 0 rfl) (F.f 1 rfl) (fun va vb w h1 h2 => q_fAdd va vb x z w h1 h2 (hx.mono (by decide)) (hz.mono (by decide))) (fun _ _ h => ofQ h)).b, ?_⟩
          refine ⟨fun _ _ F => gR rfl rfl (arm_loadF rfl (F.k 4 (Value.pointer (some ⟨w.heap.size + 1, 0, none⟩))) (V1.mono F.below)).b, ?_⟩
          refine ⟨fun _ _ F => gR rfl rfl (arm_loadF rfl (F.k 5 (Value.pointer (some ⟨w.heap.size + 2, 0, none⟩))) (V2.mono F.below)).b, ?_⟩
          refine ⟨fun _ _ F => gR rfl rfl (arm_C2 rfl (enters Try.func37 rfl rfl) (F.f 3 rfl) (F.f 4 rfl) (fun va vb w h1 h2 => q_fAdd va vb y z w h1 h2 (hy.mono (by decide)) (hz.mono (by decide))) (fun _ _ h => ofQ h)).b, ?_⟩
          refine ⟨fun _ _ F => gR rfl rfl (arm_C2 rfl (enters Try.func36 rfl rfl) (F.f 2 rfl) (F.f 5 rfl) (fun va vb w h1 h2 => q_fCmp va vb (x.add z) (y.add z) w h1 h2 ((hx.add hz).mono (by decide)) ((hy.add hz).mono (by decide))) (fun _ _ h => by have h' : RetV _ _ _ _ := h; rw [K5.out] at h'; exact ofV h')).b, ?_⟩
          refine ⟨fun _ _ F => gR rfl rfl (arm_move (.inl rfl) (F.k 7 (Value.int IntKind.i64 0))).b, ?_⟩
          refine ⟨fun _ _ F => gR rfl rfl (arm_bin rfl (F.f 6 rfl) (F.f 7 rfl) (fun _ => rfl) (fun _ => rfl)).b, ?_⟩
          exact trivial
        intro E' hE gp wp bp G Gs
        obtain rfl : E' = [] := by simpa [subs] using hE
        have e_8 : gp 8 = Value.bool false := G 8 69 _ (by simp) rfl
        clear G Gs hE
        simp only [lOrzT10]
        simp only [qA, setD, qZ, qS, e_8]
        refine wpAny_done (by kernel_rfl) ?_ _
        go_wp2_with fail
        go_meet
        case rel => exact ⟨rfl, (V0.mono bp), (V1.mono bp), (V2.mono bp), (hb1.trans (bp.mono hb1.size))⟩
      case rest =>
      clear V0 V1 V2 hb1
      obtain ⟨rfl, V0, V1, V2, hb1⟩ := hcut
      go_upto_region 10 with (fail)
      go_cut [6] (fun s_6 wx => s_6 = Value.bool true ∧ VarQ wx w.heap.size x ∧ VarQ wx (w.heap.size + 1) y ∧ VarQ wx (w.heap.size + 2) z ∧ Below w.heap.size w wx)
      case first =>
        refine tG Try.f8 10 (lOrzT11 z s) [] 14 0 ?_ ?_
        · refine ⟨fun _ _ F => gR rfl rfl (arm_loadF rfl (F.k 5 (Value.pointer (some ⟨w.heap.size + 2, 0, none⟩))) (V2.mono F.below)).b, ?_⟩
          refine ⟨fun _ _ F => gR rfl rfl (arm_C1 rfl (enters Try.func35 rfl rfl) (F.f 0 rfl) (fun va w h1 => q_fSign va z w h1 (hz.mono (by decide))) (fun _ _ h => by have h' : RetV _ _ _ _ := h; rw [hs.out] at h'; exact ofV h')).b, ?_⟩
          refine ⟨fun _ _ F => gR rfl rfl (arm_bin rfl (F.f 1 rfl) Is.const (fun _ => rfl) (fun w => by rw [A1.out]; rfl)).b, ?_⟩
          refine ⟨fun _ _ F => gR rfl rfl (arm_move (.inl rfl) (F.f 2 rfl)).b, ?_⟩
          refine ⟨fun _ _ F => gS F rfl rfl rfl rfl rfl rfl, ?_⟩
          refine ⟨fun _ _ F => gS F rfl rfl rfl rfl rfl rfl, ?_⟩
          refine ⟨fun _ _ F => gS F rfl rfl rfl rfl rfl rfl, ?_⟩
          refine ⟨fun _ _ F => gS F rfl rfl rfl rfl rfl rfl, ?_⟩
          refine ⟨fun _ _ F => gS F rfl rfl rfl rfl rfl rfl, ?_⟩
          refine ⟨fun _ _ F => gS F rfl rfl rfl rfl rfl rfl, ?_⟩
          refine ⟨fun _ _ F => gS F rfl rfl rfl rfl rfl rfl, ?_⟩
          refine ⟨fun _ _ F => gS F rfl rfl rfl rfl rfl rfl, ?_⟩
          refine ⟨fun _ _ F => gS F rfl rfl rfl rfl rfl rfl, ?_⟩
          refine ⟨fun _ _ F => gR rfl rfl (arm_pick rfl (F.f 3 rfl) (fun _ => Is.const) (fun h => by cases h)).b, ?_⟩
          refine ⟨fun _ _ F => gR rfl rfl (arm_move (.inl rfl) (F.f 13 rfl)).b, ?_⟩
          refine ⟨fun _ _ F => gG F rfl rfl rfl rfl (arm_C0 rfl (enters Try.func11 rfl rfl)  (fun w => c_awake2 w) (fun _ _ h => ofV h)).b, ?_⟩
          refine ⟨fun _ _ F => gR rfl rfl (arm_pick rfl (F.f 14 rfl) (fun _ => (F.f 15 rfl)) (fun h => by cases h)).b, ?_⟩
          refine ⟨fun _ _ F => gR rfl rfl (arm_move (.inr rfl) (F.f 16 rfl)).b, ?_⟩
          exact trivial
        intro E' hE gp wp bp G Gs
        obtain rfl : E' = [] := by simpa [subs] using hE
        have e_17 : gp 17 = Value.bool true := G 17 6 _ (by simp) rfl
        clear G Gs hE
        simp only [lOrzT11]
        simp only [qA, setD, qZ, qS, e_17]
        refine wpAny_done (by kernel_rfl) ?_ _
        go_wp2_with fail
        go_meet
        case rel => exact ⟨rfl, (V0.mono bp), (V1.mono bp), (V2.mono bp), (hb1.trans (bp.mono hb1.size))⟩
      case rest =>
      clear V0 V1 V2 hb1
      obtain ⟨rfl, V0, V1, V2, hb1⟩ := hcut
      go_wp2
      go_ret
      exact ⟨rfl, hb1⟩
  · have A1 : Hid (false = decide (s ≤ 0)) := Lib.hid (decide_eq_false h0).symm
    have A2 : Hid ((x.mul z).cmp (y.mul z) = 0) := Lib.hid (by rw [o_mul ex ey ez (by rw [hs.out]; omega), hk])
    clear h0
    by_cases h1 : l ≤ 0
    · have B1 : Hid (true = decide (l ≤ 0)) := Lib.hid (decide_eq_true h1).symm
      have B2 := o_trans' ex ey ez hk hl.out hm.out (by decide) h1
      clear h1 hk
      obtain ⟨a0, c0, b0, d0, rfl, m0, k0⟩ := boxF ix
      obtain ⟨a1, c1, b1, d1, rfl, m1, k1⟩ := boxF (iy.mono m0)
      rw [World.size_alloc ] at k1
      have n1 := m0.trans (m1.mono m0.size)
      obtain ⟨a2, c2, b2, d2, rfl, m2, k2⟩ := boxF (iz.mono n1)
      rw [World.size_alloc, World.size_alloc ] at k2
      have n2 := n1.trans (m2.mono n1.size)
      clear ix iy iz
      go_enter Try.func8, Try.ntmps8
      go_upto_region 0 with (fail)
      go_cut [3, 4, 5, 6] (fun s_3 s_4 s_5 s_6 wx => s_3 = Value.pointer (some ⟨w.heap.size, 0, none⟩) ∧ s_4 = Value.pointer (some ⟨w.heap.size + 1, 0, none⟩) ∧ s_5 = Value.pointer (some ⟨w.heap.size + 2, 0, none⟩) ∧ s_6 = Value.bool false ∧ VarQ wx w.heap.size x ∧ VarQ wx (w.heap.size + 1) y ∧ VarQ wx (w.heap.size + 2) z ∧ Below w.heap.size w wx)
      case first =>
        go_wp2_with fail
        go_meet
        case rel => exact ⟨rfl, rfl, rfl, rfl, ((k0.mono m1).mono m2), (k1.mono m2), k2, n2⟩
      case rest =>
      clear m0 k0 m1 k1 m2 k2 n1 n2
      obtain ⟨rfl, rfl, rfl, rfl, V0, V1, V2, hb1⟩ := hcut
      go_upto_region 1 with (fail)
      go_cut [20] (fun s_20 wx => s_20 = Value.bool false ∧ VarQ wx w.heap.size x ∧ VarQ wx (w.heap.size + 1) y ∧ VarQ wx (w.heap.size + 2) z ∧ Below w.heap.size w wx)
      case first =>
        refine tF Try.f8 1 (lOrzT12 x y z) [] 13 0 ?_ ?_
        · refine ⟨fun _ _ F => gR rfl rfl (arm_loadF rfl (F.k 3 (Value.pointer (some ⟨w.heap.size, 0, none⟩))) (V0.mono F.below)).b, ?_⟩
          refine ⟨fun _ _ F => gR rfl rfl (arm_C1 rfl (enters Try.func18 rfl rfl) (F.f 0 rfl) (fun va w h1 => q_fitQ va x w h1 hx ex) (fun _ _ h => ofV h)).b, ?_⟩
          refine ⟨fun _ _ F => gR rfl rfl (arm_not rfl (F.f 1 rfl)).b, ?_⟩
          refine ⟨fun _ _ F => gR rfl rfl (arm_move (.inl rfl) (F.f 2 rfl)).b, ?_⟩
          refine ⟨fun _ _ F => gG F rfl rfl rfl rfl (arm_loadF rfl (F.k 4 (Value.pointer (some ⟨w.heap.size + 1, 0, none⟩))) (V1.mono F.below)).b, ?_⟩
          refine ⟨fun _ _ F => gG F rfl rfl rfl rfl (arm_C1 rfl (enters Try.func18 rfl rfl) (F.f 4 rfl) (fun va w h1 => q_fitQ va y w h1 hy ey) (fun _ _ h => ofV h)).b, ?_⟩
          refine ⟨fun _ _ F => gG F rfl rfl rfl rfl (arm_not rfl (F.f 5 rfl)).b, ?_⟩
          refine ⟨fun _ _ F => gR rfl rfl (arm_pick rfl (F.f 3 rfl) (fun h => by cases h) (fun _ => (F.f 6 rfl))).b, ?_⟩
          refine ⟨fun _ _ F => gR rfl rfl (arm_move (.inl rfl) (F.f 7 rfl)).b, ?_⟩
          refine ⟨fun _ _ F => gG F rfl rfl rfl rfl (arm_loadF rfl (F.k 5 (Value.pointer (some ⟨w.heap.size + 2, 0, none⟩))) (V2.mono F.below)).b, ?_⟩
          refine ⟨fun _ _ F => gG F rfl rfl rfl rfl (arm_C1 rfl (enters Try.func18 rfl rfl) (F.f 9 rfl) (fun va w h1 => q_fitQ va z w h1 hz ez) (fun _ _ h => ofV h)).b, ?_⟩
          refine ⟨fun _ _ F => gG F rfl rfl rfl rfl (arm_not rfl (F.f 10 rfl)).b, ?_⟩
          refine ⟨fun _ _ F => gR rfl rfl (arm_pick rfl (F.f 8 rfl) (fun h => by cases h) (fun _ => (F.f 11 rfl))).b, ?_⟩
          exact trivial
        intro E' hE gp wp bp G Gs
        obtain rfl : E' = [] := by simpa [subs] using hE
        have e_12 : gp 12 = Value.bool false := G 12 20 _ (by simp) rfl
        clear G Gs hE
        simp only [lOrzT12]
        simp only [qA, setD, qZ, qS, e_12]
        refine wpAny_done (by kernel_rfl) ?_ _
        go_wp2_with fail
        go_meet
        case rel => exact ⟨rfl, (V0.mono bp), (V1.mono bp), (V2.mono bp), (hb1.trans (bp.mono hb1.size))⟩
      case rest =>
      clear V0 V1 V2 hb1
      obtain ⟨rfl, V0, V1, V2, hb1⟩ := hcut
      go_upto_region 3 with (fail)
      go_cut [7] (fun s_7 wx => s_7 = Value.int IntKind.i64 0 ∧ VarQ wx w.heap.size x ∧ VarQ wx (w.heap.size + 1) y ∧ VarQ wx (w.heap.size + 2) z ∧ Below w.heap.size w wx)
      case first =>
        refine tF Try.f8 3 (lOrzT13 x y) [] 3 0 ?_ ?_
        · refine ⟨fun _ _ F => gR rfl rfl (arm_loadF rfl (F.k 3 (Value.pointer (some ⟨w.heap.size, 0, none⟩))) (V0.mono F.below)).b, ?_⟩
          refine ⟨fun _ _ F => gR rfl rfl (arm_loadF rfl (F.k 4 (Value.pointer (some ⟨w.heap.size + 1, 0, none⟩))) (V1.mono F.below)).b, ?_⟩
          refine ⟨fun _ _ F => gR rfl rfl (arm_C2 rfl (enters Try.func36 rfl rfl) (F.f 0 rfl) (F.f 1 rfl) (fun va vb w h1 h2 => q_fCmp va vb x y w h1 h2 (hx.mono (by decide)) (hy.mono (by decide))) (fun _ _ h => by have h' : RetV _ _ _ _ := h; rw [K1.out] at h'; exact ofV h')).b, ?_⟩
          refine ⟨fun _ _ F => gR rfl rfl (arm_move (.inr rfl) (F.f 2 rfl)).b, ?_⟩
          exact trivial
        intro E' hE gp wp bp G Gs
        obtain rfl : E' = [] := by simpa [subs] using hE
        have e_3 : gp 3 = Value.int IntKind.i64 0 := G 3 7 _ (by simp) rfl
        clear G Gs hE
        simp only [lOrzT13]
        simp only [qA, setD, qZ, qS, e_3]
        refine wpAny_done (by kernel_rfl) ?_ _
        go_wp2_with fail
        go_meet
        case rel => exact ⟨rfl, (V0.mono bp), (V1.mono bp), (V2.mono bp), (hb1.trans (bp.mono hb1.size))⟩
      case rest =>
      clear V0 V1 V2 hb1
      obtain ⟨rfl, V0, V1, V2, hb1⟩ := hcut
      go_upto_region 4 with (fail)
      go_cut [46] (fun s_46 wx => s_46 = Value.bool false ∧ VarQ wx w.heap.size x ∧ VarQ wx (w.heap.size + 1) y ∧ VarQ wx (w.heap.size + 2) z ∧ Below w.heap.size w wx)
      case first =>
        refine tF Try.f8 4 (lOrzT14 x y) [] 14 0 ?_ ?_
        · refine ⟨fun _ _ F => gR rfl rfl (arm_move (.inl rfl) (F.k 7 (Value.int IntKind.i64 0))).b, ?_⟩
          refine ⟨fun _ _ F => gR rfl rfl (arm_loadF rfl (F.k 3 (Value.pointer (some ⟨w.heap.size, 0, none⟩))) (V0.mono F.below)).b, ?_⟩
          refine ⟨fun _ _ F => gR rfl rfl (arm_loadF rfl (F.k 4 (Value.pointer (some ⟨w.heap.size + 1, 0, none⟩))) (V1.mono F.below)).b, ?_⟩
          refine ⟨fun _ _ F => gR rfl rfl (arm_C2 rfl (enters Try.func34 rfl rfl) (F.f 1 rfl) (F.f 2 rfl) (fun va vb w h1 h2 => q_fSub va vb x y w h1 h2 (hx.mono (by decide)) (hy.mono (by decide))) (fun _ _ h => ofQ h)).b, ?_⟩
          refine ⟨fun _ _ F => gR rfl rfl (arm_C1 rfl (enters Try.func35 rfl rfl) (F.f 3 rfl) (fun va w h1 => q_fSign va (x.sub y) w h1 ((hx.sub hy).mono (by decide))) (fun _ _ h => by have h' : RetV _ _ _ _ := h; rw [K2.out] at h'; exact ofV h')).b, ?_⟩
          refine ⟨fun _ _ F => gR rfl rfl (arm_bin rfl (F.f 0 rfl) (F.f 4 rfl) (fun _ => rfl) (fun _ => rfl)).b, ?_⟩
          refine ⟨fun _ _ F => gR rfl rfl (arm_move (.inl rfl) (F.f 5 rfl)).b, ?_⟩
          refine ⟨fun _ _ F => gG F rfl rfl rfl rfl (arm_loadF rfl (F.k 4 (Value.pointer (some ⟨w.heap.size + 1, 0, none⟩))) (V1.mono F.below)).b, ?_⟩
          refine ⟨fun _ _ F => gG F rfl rfl rfl rfl (arm_loadF rfl (F.k 3 (Value.pointer (some ⟨w.heap.size, 0, none⟩))) (V0.mono F.below)).b, ?_⟩
          refine ⟨fun _ _ F => gG F rfl rfl rfl rfl (arm_C2 rfl (enters Try.func36 rfl rfl) (F.f 7 rfl) (F.f 8 rfl) (fun va vb w h1 h2 => q_fCmp va vb y x w h1 h2 (hy.mono (by decide)) (hx.mono (by decide))) (fun _ _ h => by have h' : RetV _ _ _ _ := h; rw [K3.out] at h'; exact ofV h')).b, ?_⟩
          refine ⟨fun _ _ F => gG F rfl rfl rfl rfl (arm_move (.inl rfl) (F.k 7 (Value.int IntKind.i64 0))).b, ?_⟩
          refine ⟨fun _ _ F => gG F rfl rfl rfl rfl (arm_negI rfl (F.f 10 rfl) (by decide +kernel)).b, ?_⟩
          refine ⟨fun _ _ F => gG F rfl rfl rfl rfl (arm_bin rfl (F.f 9 rfl) (F.f 11 rfl) (fun _ => rfl) (fun _ => rfl)).b, ?_⟩
          refine ⟨fun _ _ F => gR rfl rfl (arm_pick rfl (F.f 6 rfl) (fun h => by cases h) (fun _ => (F.f 12 rfl))).b, ?_⟩
          refine ⟨fun _ _ F => gR rfl rfl (arm_move (.inl rfl) (F.f 13 rfl)).b, ?_⟩
          refine ⟨fun _ _ F => gG F rfl rfl rfl rfl (arm_move (.inl rfl) (F.k 7 (Value.int IntKind.i64 0))).b, ?_⟩
          refine ⟨fun _ _ F => gG F rfl rfl rfl rfl (arm_bin rfl (F.f 15 rfl) Is.const (fun _ => rfl) (fun _ => rfl)).b, ?_⟩
          refine ⟨fun _ _ F => gG F rfl rfl rfl rfl (arm_loadF rfl (F.k 3 (Value.pointer (some ⟨w.heap.size, 0, none⟩))) (V0.mono F.below)).b, ?_⟩
          refine ⟨fun _ _ F => gG F rfl rfl rfl rfl (arm_loadF rfl (F.k 4 (Value.pointer (some ⟨w.heap.size + 1, 0, none⟩))) (V1.mono F.below)).b, ?_⟩
          refine ⟨fun _ _ F => gG F rfl rfl rfl rfl (arm_C2 rfl (enters Try.func16 rfl rfl) (F.f 17 rfl) (F.f 18 rfl) (fun va vb w h1 h2 => q_Same va vb x y w h1 h2 (hx.mono (by decide)) (hy.mono (by decide))) (fun _ _ h => by have h' : RetV _ _ _ _ := h; rw [K4.out] at h'; exact ofV h')).b, ?_⟩
          refine ⟨fun _ _ F => gG F rfl rfl rfl rfl (arm_bin rfl (F.f 16 rfl) (F.f 19 rfl) (fun _ => rfl) (fun _ => rfl)).b, ?_⟩
          refine ⟨fun _ _ F => gR rfl rfl (arm_pick rfl (F.f 14 rfl) (fun h => by cases h) (fun _ => (F.f 20 rfl))).b, ?_⟩
          exact trivial
        intro E' hE gp wp bp G Gs
        obtain rfl : E' = [] := by simpa [subs] using hE
        have e_21 : gp 21 = Value.bool false := G 21 46 _ (by simp) rfl
        clear G Gs hE
        simp only [lOrzT14]
        simp only [qA, setD, qZ, qS, e_21]
        refine wpAny_done (by kernel_rfl) ?_ _
        go_wp2_with fail
        go_meet
        case rel => exact ⟨rfl, (V0.mono bp), (V1.mono bp), (V2.mono bp), (hb1.trans (bp.mono hb1.size))⟩
      case rest =>
      clear V0 V1 V2 hb1
      obtain ⟨rfl, V0, V1, V2, hb1⟩ := hcut
      go_upto_region 6 with (fail)
      go_cut [60] (fun s_60 wx => s_60 = Value.bool false ∧ VarQ wx w.heap.size x ∧ VarQ wx (w.heap.size + 1) y ∧ VarQ wx (w.heap.size + 2) z ∧ Below w.heap.size w wx)
      case first =>
        refine tF Try.f8 6 (lOrzT15 x y z l m) [] 12 0 ?_ ?_
        · refine ⟨fun _ _ F => gR rfl rfl (arm_move (.inl rfl) (F.k 7 (Value.int IntKind.i64 0))).b, ?_⟩
          refine ⟨fun _ _ F => gR rfl rfl (arm_bin rfl (F.f 0 rfl) Is.const (fun _ => rfl) (fun _ => rfl)).b, ?_⟩
          refine ⟨fun _ _ F => gR rfl rfl (arm_move (.inl rfl) (F.f 1 rfl)).b, ?_⟩
          refine ⟨fun _ _ F => gG F rfl rfl rfl rfl (arm_loadF rfl (F.k 4 (Value.pointer (some ⟨w.heap.size + 1, 0, none⟩))) (V1.mono F.below)).b, ?_⟩
          refine ⟨fun _ _ F => gG F rfl rfl rfl rfl (arm_loadF rfl (F.k 5 (Value.pointer (some ⟨w.heap.size + 2, 0, none⟩))) (V2.mono F.below)).b, ?_⟩
          refine ⟨fun _ _ F => gG F rfl rfl rfl rfl (arm_C2 rfl (enters Try.func36 rfl rfl) (F.f 3 rfl) (F.f 4 rfl) (fun va vb w h1 h2 => q_fCmp va vb y z w h1 h2 (hy.mono (by decide)) (hz.mono (by decide))) (fun _ _ h => by have h' : RetV _ _ _ _ := h; rw [hl.out] at h'; exact ofV h')).b, ?_⟩
          refine ⟨fun _ _ F => gG F rfl rfl rfl rfl (arm_bin rfl (F.f 5 rfl) Is.const (fun _ => rfl) (fun w => by rw [B1.out]; rfl)).b, ?_⟩
          refine ⟨fun _ _ F => gR rfl rfl (arm_pick rfl (F.f 2 rfl) (fun _ => (F.f 6 rfl)) (fun h => by cases h)).b, ?_⟩
          refine ⟨fun _ _ F => gR rfl rfl (arm_move (.inl rfl) (F.f 7 rfl)).b, ?_⟩
          refine ⟨fun _ _ F => gG F rfl rfl rfl rfl (arm_loadF rfl (F.k 3 (Value.pointer (some ⟨w.heap.size, 0, none⟩))) (V0.mono F.below)).b, ?_⟩
          refine ⟨fun _ _ F => gG F rfl rfl rfl rfl (arm_loadF rfl (F.k 5 (Value.pointer (some ⟨w.heap.size + 2, 0, none⟩))) (V2.mono F.below)).b, ?_⟩
          refine ⟨fun _ _ F => gG F rfl rfl rfl rfl (arm_C2 rfl (enters Try.func36 rfl rfl) (F.f 9 rfl) (F.f 10 rfl) (fun va vb w h1 h2 => q_fCmp va vb x z w h1 h2 (hx.mono (by decide)) (hz.mono (by decide))) (fun _ _ h => by have h' : RetV _ _ _ _ := h; rw [hm.out] at h'; exact ofV h')).b, ?_⟩
          refine ⟨fun _ _ F => gG F rfl rfl rfl rfl (arm_bin rfl (F.f 11 rfl) Is.const (fun _ => rfl) (fun w => by rw [B2.out]; rfl)).b, ?_⟩
          refine ⟨fun _ _ F => gR rfl rfl (arm_pick rfl (F.f 8 rfl) (fun _ => (F.f 12 rfl)) (fun h => by cases h)).b, ?_⟩
          exact trivial
        intro E' hE gp wp bp G Gs
        obtain rfl : E' = [] := by simpa [subs] using hE
        have e_13 : gp 13 = Value.bool false := G 13 60 _ (by simp) rfl
        clear G Gs hE
        simp only [lOrzT15]
        simp only [qA, setD, qZ, qS, e_13]
        refine wpAny_done (by kernel_rfl) ?_ _
        go_wp2_with fail
        go_meet
        case rel => exact ⟨rfl, (V0.mono bp), (V1.mono bp), (V2.mono bp), (hb1.trans (bp.mono hb1.size))⟩
      case rest =>
      clear V0 V1 V2 hb1
      obtain ⟨rfl, V0, V1, V2, hb1⟩ := hcut
      go_upto_region 8 with (fail)
      go_cut [69] (fun s_69 wx => s_69 = Value.bool false ∧ VarQ wx w.heap.size x ∧ VarQ wx (w.heap.size + 1) y ∧ VarQ wx (w.heap.size + 2) z ∧ Below w.heap.size w wx)
      case first =>
        refine tG Try.f8 8 (lOrzT16 x y z) [] 5 0 ?_ ?_
        · refine ⟨fun _ _ F => gR rfl rfl (arm_loadF rfl (F.k 3 (Value.pointer (some ⟨w.heap.size, 0, none⟩))) (V0.mono F.below)).b, ?_⟩
          refine ⟨fun _ _ F => gR rfl rfl (arm_loadF rfl (F.k 5 (Value.pointer (some ⟨w.heap.size + 2, 0, none⟩))) (V2.mono F.below)).b, ?_⟩
          refine ⟨fun _ _ F => gR rfl rfl (arm_C2 rfl (enters Try.func37 rfl rfl) (F.f 0 rfl) (F.f 1 rfl) (fun va vb w h1 h2 => q_fAdd va vb x z w h1 h2 (hx.mono (by decide)) (hz.mono (by decide))) (fun _ _ h => ofQ h)).b, ?_⟩
          refine ⟨fun _ _ F => gR rfl rfl (arm_loadF rfl (F.k 4 (Value.pointer (some ⟨w.heap.size + 1, 0, none⟩))) (V1.mono F.below)).b, ?_⟩
          refine ⟨fun _ _ F => gR rfl rfl (arm_loadF rfl (F.k 5 (Value.pointer (some ⟨w.heap.size + 2, 0, none⟩))) (V2.mono F.below)).b, ?_⟩
          refine ⟨fun _ _ F => gR rfl rfl (arm_C2 rfl (enters Try.func37 rfl rfl) (F.f 3 rfl) (F.f 4 rfl) (fun va vb w h1 h2 => q_fAdd va vb y z w h1 h2 (hy.mono (by decide)) (hz.mono (by decide))) (fun _ _ h => ofQ h)).b, ?_⟩
          refine ⟨fun _ _ F => gR rfl rfl (arm_C2 rfl (enters Try.func36 rfl rfl) (F.f 2 rfl) (F.f 5 rfl) (fun va vb w h1 h2 => q_fCmp va vb (x.add z) (y.add z) w h1 h2 ((hx.add hz).mono (by decide)) ((hy.add hz).mono (by decide))) (fun _ _ h => by have h' : RetV _ _ _ _ := h; rw [K5.out] at h'; exact ofV h')).b, ?_⟩
          refine ⟨fun _ _ F => gR rfl rfl (arm_move (.inl rfl) (F.k 7 (Value.int IntKind.i64 0))).b, ?_⟩
          refine ⟨fun _ _ F => gR rfl rfl (arm_bin rfl (F.f 6 rfl) (F.f 7 rfl) (fun _ => rfl) (fun _ => rfl)).b, ?_⟩
          exact trivial
        intro E' hE gp wp bp G Gs
        obtain rfl : E' = [] := by simpa [subs] using hE
        have e_8 : gp 8 = Value.bool false := G 8 69 _ (by simp) rfl
        clear G Gs hE
        simp only [lOrzT16]
        simp only [qA, setD, qZ, qS, e_8]
        refine wpAny_done (by kernel_rfl) ?_ _
        go_wp2_with fail
        go_meet
        case rel => exact ⟨rfl, (V0.mono bp), (V1.mono bp), (V2.mono bp), (hb1.trans (bp.mono hb1.size))⟩
      case rest =>
      clear V0 V1 V2 hb1
      obtain ⟨rfl, V0, V1, V2, hb1⟩ := hcut
      go_upto_region 10 with (fail)
      go_cut [6] (fun s_6 wx => s_6 = Value.bool true ∧ VarQ wx w.heap.size x ∧ VarQ wx (w.heap.size + 1) y ∧ VarQ wx (w.heap.size + 2) z ∧ Below w.heap.size w wx)
      case first =>
        refine tG Try.f8 10 (lOrzT17 x y z s) [] 14 0 ?_ ?_
        · refine ⟨fun _ _ F => gR rfl rfl (arm_loadF rfl (F.k 5 (Value.pointer (some ⟨w.heap.size + 2, 0, none⟩))) (V2.mono F.below)).b, ?_⟩
          refine ⟨fun _ _ F => gR rfl rfl (arm_C1 rfl (enters Try.func35 rfl rfl) (F.f 0 rfl) (fun va w h1 => q_fSign va z w h1 (hz.mono (by decide))) (fun _ _ h => by have h' : RetV _ _ _ _ := h; rw [hs.out] at h'; exact ofV h')).b, ?_⟩
          refine ⟨fun _ _ F => gR rfl rfl (arm_bin rfl (F.f 1 rfl) Is.const (fun _ => rfl) (fun w => by rw [A1.out]; rfl)).b, ?_⟩
          refine ⟨fun _ _ F => gR rfl rfl (arm_move (.inl rfl) (F.f 2 rfl)).b, ?_⟩
          refine ⟨fun _ _ F => gG F rfl rfl rfl rfl (arm_loadF rfl (F.k 3 (Value.pointer (some ⟨w.heap.size, 0, none⟩))) (V0.mono F.below)).b, ?_⟩
          refine ⟨fun _ _ F => gG F rfl rfl rfl rfl (arm_loadF rfl (F.k 5 (Value.pointer (some ⟨w.heap.size + 2, 0, none⟩))) (V2.mono F.below)).b, ?_⟩
          refine ⟨fun _ _ F => gG F rfl rfl rfl rfl (arm_C2 rfl (enters Try.func38 rfl rfl) (F.f 4 rfl) (F.f 5 rfl) (fun va vb w h1 h2 => q_fMul va vb x z w h1 h2 (hx.mono (by decide)) (hz.mono (by decide))) (fun _ _ h => ofQ h)).b, ?_⟩
          refine ⟨fun _ _ F => gG F rfl rfl rfl rfl (arm_loadF rfl (F.k 4 (Value.pointer (some ⟨w.heap.size + 1, 0, none⟩))) (V1.mono F.below)).b, ?_⟩
          refine ⟨fun _ _ F => gG F rfl rfl rfl rfl (arm_loadF rfl (F.k 5 (Value.pointer (some ⟨w.heap.size + 2, 0, none⟩))) (V2.mono F.below)).b, ?_⟩
          refine ⟨fun _ _ F => gG F rfl rfl rfl rfl (arm_C2 rfl (enters Try.func38 rfl rfl) (F.f 7 rfl) (F.f 8 rfl) (fun va vb w h1 h2 => q_fMul va vb y z w h1 h2 (hy.mono (by decide)) (hz.mono (by decide))) (fun _ _ h => ofQ h)).b, ?_⟩
          refine ⟨fun _ _ F => gG F rfl rfl rfl rfl (arm_C2 rfl (enters Try.func36 rfl rfl) (F.f 6 rfl) (F.f 9 rfl) (fun va vb w h1 h2 => q_fCmp va vb (x.mul z) (y.mul z) w h1 h2 ((hx.mul hz).mono (by decide)) ((hy.mul hz).mono (by decide))) (fun _ _ h => by have h' : RetV _ _ _ _ := h; rw [A2.out] at h'; exact ofV h')).b, ?_⟩
          refine ⟨fun _ _ F => gG F rfl rfl rfl rfl (arm_move (.inl rfl) (F.k 7 (Value.int IntKind.i64 0))).b, ?_⟩
          refine ⟨fun _ _ F => gG F rfl rfl rfl rfl (arm_bin rfl (F.f 10 rfl) (F.f 11 rfl) (fun _ => rfl) (fun _ => rfl)).b, ?_⟩
          refine ⟨fun _ _ F => gR rfl rfl (arm_pick rfl (F.f 3 rfl) (fun h => by cases h) (fun _ => (F.f 12 rfl))).b, ?_⟩
          refine ⟨fun _ _ F => gR rfl rfl (arm_move (.inl rfl) (F.f 13 rfl)).b, ?_⟩
          refine ⟨fun _ _ F => gG F rfl rfl rfl rfl (arm_C0 rfl (enters Try.func11 rfl rfl)  (fun w => c_awake2 w) (fun _ _ h => ofV h)).b, ?_⟩
          refine ⟨fun _ _ F => gR rfl rfl (arm_pick rfl (F.f 14 rfl) (fun _ => (F.f 15 rfl)) (fun h => by cases h)).b, ?_⟩
          refine ⟨fun _ _ F => gR rfl rfl (arm_move (.inr rfl) (F.f 16 rfl)).b, ?_⟩
          exact trivial
        intro E' hE gp wp bp G Gs
        obtain rfl : E' = [] := by simpa [subs] using hE
        have e_17 : gp 17 = Value.bool true := G 17 6 _ (by simp) rfl
        clear G Gs hE
        simp only [lOrzT17]
        simp only [qA, setD, qZ, qS, e_17]
        refine wpAny_done (by kernel_rfl) ?_ _
        go_wp2_with fail
        go_meet
        case rel => exact ⟨rfl, (V0.mono bp), (V1.mono bp), (V2.mono bp), (hb1.trans (bp.mono hb1.size))⟩
      case rest =>
      clear V0 V1 V2 hb1
      obtain ⟨rfl, V0, V1, V2, hb1⟩ := hcut
      go_wp2
      go_ret
      exact ⟨rfl, hb1⟩
    · have B1 : Hid (false = decide (l ≤ 0)) := Lib.hid (decide_eq_false h1).symm
      clear h1 hk
      obtain ⟨a0, c0, b0, d0, rfl, m0, k0⟩ := boxF ix
      obtain ⟨a1, c1, b1, d1, rfl, m1, k1⟩ := boxF (iy.mono m0)
      rw [World.size_alloc ] at k1
      have n1 := m0.trans (m1.mono m0.size)
      obtain ⟨a2, c2, b2, d2, rfl, m2, k2⟩ := boxF (iz.mono n1)
      rw [World.size_alloc, World.size_alloc ] at k2
      have n2 := n1.trans (m2.mono n1.size)
      clear ix iy iz
      go_enter Try.func8, Try.ntmps8
      go_upto_region 0 with (fail)
      go_cut [3, 4, 5, 6] (fun s_3 s_4 s_5 s_6 wx => s_3 = Value.pointer (some ⟨w.heap.size, 0, none⟩) ∧ s_4 = Value.pointer (some ⟨w.heap.size + 1, 0, none⟩) ∧ s_5 = Value.pointer (some ⟨w.heap.size + 2, 0, none⟩) ∧ s_6 = Value.bool false ∧ VarQ wx w.heap.size x ∧ VarQ wx (w.heap.size + 1) y ∧ VarQ wx (w.heap.size + 2) z ∧ Below w.heap.size w wx)
      case first =>
        go_wp2_with fail
        go_meet
        case rel => exact ⟨rfl, rfl, rfl, rfl, ((k0.mono m1).mono m2), (k1.mono m2), k2, n2⟩
      case rest =>
      clear m0 k0 m1 k1 m2 k2 n1 n2
      obtain ⟨rfl, rfl, rfl, rfl, V0, V1, V2, hb1⟩ := hcut
      go_upto_region 1 with (fail)
      go_cut [20] (fun s_20 wx => s_20 = Value.bool false ∧ VarQ wx w.heap.size x ∧ VarQ wx (w.heap.size + 1) y ∧ VarQ wx (w.heap.size + 2) z ∧ Below w.heap.size w wx)
      case first =>
        refine tF Try.f8 1 (lOrzT18 x y z) [] 13 0 ?_ ?_
        · refine ⟨fun _ _ F => gR rfl rfl (arm_loadF rfl (F.k 3 (Value.pointer (some ⟨w.heap.size, 0, none⟩))) (V0.mono F.below)).b, ?_⟩
          refine ⟨fun _ _ F => gR rfl rfl (arm_C1 rfl (enters Try.func18 rfl rfl) (F.f 0 rfl) (fun va w h1 => q_fitQ va x w h1 hx ex) (fun _ _ h => ofV h)).b, ?_⟩
          refine ⟨fun _ _ F => gR rfl rfl (arm_not rfl (F.f 1 rfl)).b, ?_⟩
          refine ⟨fun _ _ F => gR rfl rfl (arm_move (.inl rfl) (F.f 2 rfl)).b, ?_⟩
          refine ⟨fun _ _ F => gG F rfl rfl rfl rfl (arm_loadF rfl (F.k 4 (Value.pointer (some ⟨w.heap.size + 1, 0, none⟩))) (V1.mono F.below)).b, ?_⟩
          refine ⟨fun _ _ F => gG F rfl rfl rfl rfl (arm_C1 rfl (enters Try.func18 rfl rfl) (F.f 4 rfl) (fun va w h1 => q_fitQ va y w h1 hy ey) (fun _ _ h => ofV h)).b, ?_⟩
          refine ⟨fun _ _ F => gG F rfl rfl rfl rfl (arm_not rfl (F.f 5 rfl)).b, ?_⟩
          refine ⟨fun _ _ F => gR rfl rfl (arm_pick rfl (F.f 3 rfl) (fun h => by cases h) (fun _ => (F.f 6 rfl))).b, ?_⟩
          refine ⟨fun _ _ F => gR rfl rfl (arm_move (.inl rfl) (F.f 7 rfl)).b, ?_⟩
          refine ⟨fun _ _ F => gG F rfl rfl rfl rfl (arm_loadF rfl (F.k 5 (Value.pointer (some ⟨w.heap.size + 2, 0, none⟩))) (V2.mono F.below)).b, ?_⟩
          refine ⟨fun _ _ F => gG F rfl rfl rfl rfl (arm_C1 rfl (enters Try.func18 rfl rfl) (F.f 9 rfl) (fun va w h1 => q_fitQ va z w h1 hz ez) (fun _ _ h => ofV h)).b, ?_⟩
          refine ⟨fun _ _ F => gG F rfl rfl rfl rfl (arm_not rfl (F.f 10 rfl)).b, ?_⟩
          refine ⟨fun _ _ F => gR rfl rfl (arm_pick rfl (F.f 8 rfl) (fun h => by cases h) (fun _ => (F.f 11 rfl))).b, ?_⟩
          exact trivial
        intro E' hE gp wp bp G Gs
        obtain rfl : E' = [] := by simpa [subs] using hE
        have e_12 : gp 12 = Value.bool false := G 12 20 _ (by simp) rfl
        clear G Gs hE
        simp only [lOrzT18]
        simp only [qA, setD, qZ, qS, e_12]
        refine wpAny_done (by kernel_rfl) ?_ _
        go_wp2_with fail
        go_meet
        case rel => exact ⟨rfl, (V0.mono bp), (V1.mono bp), (V2.mono bp), (hb1.trans (bp.mono hb1.size))⟩
      case rest =>
      clear V0 V1 V2 hb1
      obtain ⟨rfl, V0, V1, V2, hb1⟩ := hcut
      go_upto_region 3 with (fail)
      go_cut [7] (fun s_7 wx => s_7 = Value.int IntKind.i64 0 ∧ VarQ wx w.heap.size x ∧ VarQ wx (w.heap.size + 1) y ∧ VarQ wx (w.heap.size + 2) z ∧ Below w.heap.size w wx)
      case first =>
        refine tF Try.f8 3 (lOrzT19 x y) [] 3 0 ?_ ?_
        · refine ⟨fun _ _ F => gR rfl rfl (arm_loadF rfl (F.k 3 (Value.pointer (some ⟨w.heap.size, 0, none⟩))) (V0.mono F.below)).b, ?_⟩
          refine ⟨fun _ _ F => gR rfl rfl (arm_loadF rfl (F.k 4 (Value.pointer (some ⟨w.heap.size + 1, 0, none⟩))) (V1.mono F.below)).b, ?_⟩
          refine ⟨fun _ _ F => gR rfl rfl (arm_C2 rfl (enters Try.func36 rfl rfl) (F.f 0 rfl) (F.f 1 rfl) (fun va vb w h1 h2 => q_fCmp va vb x y w h1 h2 (hx.mono (by decide)) (hy.mono (by decide))) (fun _ _ h => by have h' : RetV _ _ _ _ := h; rw [K1.out] at h'; exact ofV h')).b, ?_⟩
          refine ⟨fun _ _ F => gR rfl rfl (arm_move (.inr rfl) (F.f 2 rfl)).b, ?_⟩
          exact trivial
        intro E' hE gp wp bp G Gs
        obtain rfl : E' = [] := by simpa [subs] using hE
        have e_3 : gp 3 = Value.int IntKind.i64 0 := G 3 7 _ (by simp) rfl
        clear G Gs hE
        simp only [lOrzT19]
        simp only [qA, setD, qZ, qS, e_3]
        refine wpAny_done (by kernel_rfl) ?_ _
        go_wp2_with fail
        go_meet
        case rel => exact ⟨rfl, (V0.mono bp), (V1.mono bp), (V2.mono bp), (hb1.trans (bp.mono hb1.size))⟩
      case rest =>
      clear V0 V1 V2 hb1
      obtain ⟨rfl, V0, V1, V2, hb1⟩ := hcut
      go_upto_region 4 with (fail)
      go_cut [46] (fun s_46 wx => s_46 = Value.bool false ∧ VarQ wx w.heap.size x ∧ VarQ wx (w.heap.size + 1) y ∧ VarQ wx (w.heap.size + 2) z ∧ Below w.heap.size w wx)
      case first =>
        refine tF Try.f8 4 (lOrzT20 x y) [] 14 0 ?_ ?_
        · refine ⟨fun _ _ F => gR rfl rfl (arm_move (.inl rfl) (F.k 7 (Value.int IntKind.i64 0))).b, ?_⟩
          refine ⟨fun _ _ F => gR rfl rfl (arm_loadF rfl (F.k 3 (Value.pointer (some ⟨w.heap.size, 0, none⟩))) (V0.mono F.below)).b, ?_⟩
          refine ⟨fun _ _ F => gR rfl rfl (arm_loadF rfl (F.k 4 (Value.pointer (some ⟨w.heap.size + 1, 0, none⟩))) (V1.mono F.below)).b, ?_⟩
          refine ⟨fun _ _ F => gR rfl rfl (arm_C2 rfl (enters Try.func34 rfl rfl) (F.f 1 rfl) (F.f 2 rfl) (fun va vb w h1 h2 => q_fSub va vb x y w h1 h2 (hx.mono (by decide)) (hy.mono (by decide))) (fun _ _ h => ofQ h)).b, ?_⟩
          refine ⟨fun _ _ F => gR rfl rfl (arm_C1 rfl (enters Try.func35 rfl rfl) (F.f 3 rfl) (fun va w h1 => q_fSign va (x.sub y) w h1 ((hx.sub hy).mono (by decide))) (fun _ _ h => by have h' : RetV _ _ _ _ := h; rw [K2.out] at h'; exact ofV h')).b, ?_⟩
          refine ⟨fun _ _ F => gR rfl rfl (arm_bin rfl (F.f 0 rfl) (F.f 4 rfl) (fun _ => rfl) (fun _ => rfl)).b, ?_⟩
          refine ⟨fun _ _ F => gR rfl rfl (arm_move (.inl rfl) (F.f 5 rfl)).b, ?_⟩
          refine ⟨fun _ _ F => gG F rfl rfl rfl rfl (arm_loadF rfl (F.k 4 (Value.pointer (some ⟨w.heap.size + 1, 0, none⟩))) (V1.mono F.below)).b, ?_⟩
          refine ⟨fun _ _ F => gG F rfl rfl rfl rfl (arm_loadF rfl (F.k 3 (Value.pointer (some ⟨w.heap.size, 0, none⟩))) (V0.mono F.below)).b, ?_⟩
          refine ⟨fun _ _ F => gG F rfl rfl rfl rfl (arm_C2 rfl (enters Try.func36 rfl rfl) (F.f 7 rfl) (F.f 8 rfl) (fun va vb w h1 h2 => q_fCmp va vb y x w h1 h2 (hy.mono (by decide)) (hx.mono (by decide))) (fun _ _ h => by have h' : RetV _ _ _ _ := h; rw [K3.out] at h'; exact ofV h')).b, ?_⟩
          refine ⟨fun _ _ F => gG F rfl rfl rfl rfl (arm_move (.inl rfl) (F.k 7 (Value.int IntKind.i64 0))).b, ?_⟩
          refine ⟨fun _ _ F => gG F rfl rfl rfl rfl (arm_negI rfl (F.f 10 rfl) (by decide +kernel)).b, ?_⟩
          refine ⟨fun _ _ F => gG F rfl rfl rfl rfl (arm_bin rfl (F.f 9 rfl) (F.f 11 rfl) (fun _ => rfl) (fun _ => rfl)).b, ?_⟩
          refine ⟨fun _ _ F => gR rfl rfl (arm_pick rfl (F.f 6 rfl) (fun h => by cases h) (fun _ => (F.f 12 rfl))).b, ?_⟩
          refine ⟨fun _ _ F => gR rfl rfl (arm_move (.inl rfl) (F.f 13 rfl)).b, ?_⟩
          refine ⟨fun _ _ F => gG F rfl rfl rfl rfl (arm_move (.inl rfl) (F.k 7 (Value.int IntKind.i64 0))).b, ?_⟩
          refine ⟨fun _ _ F => gG F rfl rfl rfl rfl (arm_bin rfl (F.f 15 rfl) Is.const (fun _ => rfl) (fun _ => rfl)).b, ?_⟩
          refine ⟨fun _ _ F => gG F rfl rfl rfl rfl (arm_loadF rfl (F.k 3 (Value.pointer (some ⟨w.heap.size, 0, none⟩))) (V0.mono F.below)).b, ?_⟩
          refine ⟨fun _ _ F => gG F rfl rfl rfl rfl (arm_loadF rfl (F.k 4 (Value.pointer (some ⟨w.heap.size + 1, 0, none⟩))) (V1.mono F.below)).b, ?_⟩
          refine ⟨fun _ _ F => gG F rfl rfl rfl rfl (arm_C2 rfl (enters Try.func16 rfl rfl) (F.f 17 rfl) (F.f 18 rfl) (fun va vb w h1 h2 => q_Same va vb x y w h1 h2 (hx.mono (by decide)) (hy.mono (by decide))) (fun _ _ h => by have h' : RetV _ _ _ _ := h; rw [K4.out] at h'; exact ofV h')).b, ?_⟩
          refine ⟨fun _ _ F => gG F rfl rfl rfl rfl (arm_bin rfl (F.f 16 rfl) (F.f 19 rfl) (fun _ => rfl) (fun _ => rfl)).b, ?_⟩
          refine ⟨fun _ _ F => gR rfl rfl (arm_pick rfl (F.f 14 rfl) (fun h => by cases h) (fun _ => (F.f 20 rfl))).b, ?_⟩
          exact trivial
        intro E' hE gp wp bp G Gs
        obtain rfl : E' = [] := by simpa [subs] using hE
        have e_21 : gp 21 = Value.bool false := G 21 46 _ (by simp) rfl
        clear G Gs hE
        simp only [lOrzT20]
        simp only [qA, setD, qZ, qS, e_21]
        refine wpAny_done (by kernel_rfl) ?_ _
        go_wp2_with fail
        go_meet
        case rel => exact ⟨rfl, (V0.mono bp), (V1.mono bp), (V2.mono bp), (hb1.trans (bp.mono hb1.size))⟩
      case rest =>
      clear V0 V1 V2 hb1
      obtain ⟨rfl, V0, V1, V2, hb1⟩ := hcut
      go_upto_region 6 with (fail)
      go_cut [60] (fun s_60 wx => s_60 = Value.bool false ∧ VarQ wx w.heap.size x ∧ VarQ wx (w.heap.size + 1) y ∧ VarQ wx (w.heap.size + 2) z ∧ Below w.heap.size w wx)
      case first =>
        refine tF Try.f8 6 (lOrzT21 y z l) [] 12 0 ?_ ?_
        · refine ⟨fun _ _ F => gR rfl rfl (arm_move (.inl rfl) (F.k 7 (Value.int IntKind.i64 0))).b, ?_⟩
          refine ⟨fun _ _ F => gR rfl rfl (arm_bin rfl (F.f 0 rfl) Is.const (fun _ => rfl) (fun _ => rfl)).b, ?_⟩
          refine ⟨fun _ _ F => gR rfl rfl (arm_move (.inl rfl) (F.f 1 rfl)).b, ?_⟩
          refine ⟨fun _ _ F => gG F rfl rfl rfl rfl (arm_loadF rfl (F.k 4 (Value.pointer (some ⟨w.heap.size + 1, 0, none⟩))) (V1.mono F.below)).b, ?_⟩
          refine ⟨fun _ _ F => gG F rfl rfl rfl rfl (arm_loadF rfl (F.k 5 (Value.pointer (some ⟨w.heap.size + 2, 0, none⟩))) (V2.mono F.below)).b, ?_⟩
          refine ⟨fun _ _ F => gG F rfl rfl rfl rfl (arm_C2 rfl (enters Try.func36 rfl rfl) (F.f 3 rfl) (F.f 4 rfl) (fun va vb w h1 h2 => q_fCmp va vb y z w h1 h2 (hy.mono (by decide)) (hz.mono (by decide))) (fun _ _ h => by have h' : RetV _ _ _ _ := h; rw [hl.out] at h'; exact ofV h')).b, ?_⟩
          refine ⟨fun _ _ F => gG F rfl rfl rfl rfl (arm_bin rfl (F.f 5 rfl) Is.const (fun _ => rfl) (fun w => by rw [B1.out]; rfl)).b, ?_⟩
          refine ⟨fun _ _ F => gR rfl rfl (arm_pick rfl (F.f 2 rfl) (fun _ => (F.f 6 rfl)) (fun h => by cases h)).b, ?_⟩
          refine ⟨fun _ _ F => gR rfl rfl (arm_move (.inl rfl) (F.f 7 rfl)).b, ?_⟩
          refine ⟨fun _ _ F => gS F rfl rfl rfl rfl rfl rfl, ?_⟩
          refine ⟨fun _ _ F => gS F rfl rfl rfl rfl rfl rfl, ?_⟩
          refine ⟨fun _ _ F => gS F rfl rfl rfl rfl rfl rfl, ?_⟩
          refine ⟨fun _ _ F => gS F rfl rfl rfl rfl rfl rfl, ?_⟩
          refine ⟨fun _ _ F => gR rfl rfl (arm_pick rfl (F.f 8 rfl) (fun h => by cases h) (fun _ => Is.const)).b, ?_⟩
          exact trivial
        intro E' hE gp wp bp G Gs
        obtain rfl : E' = [] := by simpa [subs] using hE
        have e_13 : gp 13 = Value.bool false := G 13 60 _ (by simp) rfl
        clear G Gs hE
        simp only [lOrzT21]
        simp only [qA, setD, qZ, qS, e_13]
        refine wpAny_done (by kernel_rfl) ?_ _
        go_wp2_with fail
        go_meet
        case rel => exact ⟨rfl, (V0.mono bp), (V1.mono bp), (V2.mono bp), (hb1.trans (bp.mono hb1.size))⟩
      case rest =>
      clear V0 V1 V2 hb1
      obtain ⟨rfl, V0, V1, V2, hb1⟩ := hcut
      go_upto_region 8 with (fail)
      go_cut [69] (fun s_69 wx => s_69 = Value.bool false ∧ VarQ wx w.heap.size x ∧ VarQ wx (w.heap.size + 1) y ∧ VarQ wx (w.heap.size + 2) z ∧ Below w.heap.size w wx)
      case first =>
        refine tG Try.f8 8 (lOrzT22 x y z) [] 5 0 ?_ ?_
        · refine ⟨fun _ _ F => gR rfl rfl (arm_loadF rfl (F.k 3 (Value.pointer (some ⟨w.heap.size, 0, none⟩))) (V0.mono F.below)).b, ?_⟩
          refine ⟨fun _ _ F => gR rfl rfl (arm_loadF rfl (F.k 5 (Value.pointer (some ⟨w.heap.size + 2, 0, none⟩))) (V2.mono F.below)).b, ?_⟩
          refine ⟨fun _ _ F => gR rfl rfl (arm_C2 rfl (enters Try.func37 rfl rfl) (F.f 0 rfl) (F.f 1 rfl) (fun va vb w h1 h2 => q_fAdd va vb x z w h1 h2 (hx.mono (by decide)) (hz.mono (by decide))) (fun _ _ h => ofQ h)).b, ?_⟩
          refine ⟨fun _ _ F => gR rfl rfl (arm_loadF rfl (F.k 4 (Value.pointer (some ⟨w.heap.size + 1, 0, none⟩))) (V1.mono F.below)).b, ?_⟩
          refine ⟨fun _ _ F => gR rfl rfl (arm_loadF rfl (F.k 5 (Value.pointer (some ⟨w.heap.size + 2, 0, none⟩))) (V2.mono F.below)).b, ?_⟩
          refine ⟨fun _ _ F => gR rfl rfl (arm_C2 rfl (enters Try.func37 rfl rfl) (F.f 3 rfl) (F.f 4 rfl) (fun va vb w h1 h2 => q_fAdd va vb y z w h1 h2 (hy.mono (by decide)) (hz.mono (by decide))) (fun _ _ h => ofQ h)).b, ?_⟩
          refine ⟨fun _ _ F => gR rfl rfl (arm_C2 rfl (enters Try.func36 rfl rfl) (F.f 2 rfl) (F.f 5 rfl) (fun va vb w h1 h2 => q_fCmp va vb (x.add z) (y.add z) w h1 h2 ((hx.add hz).mono (by decide)) ((hy.add hz).mono (by decide))) (fun _ _ h => by have h' : RetV _ _ _ _ := h; rw [K5.out] at h'; exact ofV h')).b, ?_⟩
          refine ⟨fun _ _ F => gR rfl rfl (arm_move (.inl rfl) (F.k 7 (Value.int IntKind.i64 0))).b, ?_⟩
          refine ⟨fun _ _ F => gR rfl rfl (arm_bin rfl (F.f 6 rfl) (F.f 7 rfl) (fun _ => rfl) (fun _ => rfl)).b, ?_⟩
          exact trivial
        intro E' hE gp wp bp G Gs
        obtain rfl : E' = [] := by simpa [subs] using hE
        have e_8 : gp 8 = Value.bool false := G 8 69 _ (by simp) rfl
        clear G Gs hE
        simp only [lOrzT22]
        simp only [qA, setD, qZ, qS, e_8]
        refine wpAny_done (by kernel_rfl) ?_ _
        go_wp2_with fail
        go_meet
        case rel => exact ⟨rfl, (V0.mono bp), (V1.mono bp), (V2.mono bp), (hb1.trans (bp.mono hb1.size))⟩
      case rest =>
      clear V0 V1 V2 hb1
      obtain ⟨rfl, V0, V1, V2, hb1⟩ := hcut
      go_upto_region 10 with (fail)
      go_cut [6] (fun s_6 wx => s_6 = Value.bool true ∧ VarQ wx w.heap.size x ∧ VarQ wx (w.heap.size + 1) y ∧ VarQ wx (w.heap.size + 2) z ∧ Below w.heap.size w wx)
      case first =>
        refine tG Try.f8 10 (lOrzT23 x y z s) [] 14 0 ?_ ?_
        · refine ⟨fun _ _ F => gR rfl rfl (arm_loadF rfl (F.k 5 (Value.pointer (some ⟨w.heap.size + 2, 0, none⟩))) (V2.mono F.below)).b, ?_⟩
          refine ⟨fun _ _ F => gR rfl rfl (arm_C1 rfl (enters Try.func35 rfl rfl) (F.f 0 rfl) (fun va w h1 => q_fSign va z w h1 (hz.mono (by decide))) (fun _ _ h => by have h' : RetV _ _ _ _ := h; rw [hs.out] at h'; exact ofV h')).b, ?_⟩
          refine ⟨fun _ _ F => gR rfl rfl (arm_bin rfl (F.f 1 rfl) Is.const (fun _ => rfl) (fun w => by rw [A1.out]; rfl)).b, ?_⟩
          refine ⟨fun _ _ F => gR rfl rfl (arm_move (.inl rfl) (F.f 2 rfl)).b, ?_⟩
          refine ⟨fun _ _ F => gG F rfl rfl rfl rfl (arm_loadF rfl (F.k 3 (Value.pointer (some ⟨w.heap.size, 0, none⟩))) (V0.mono F.below)).b, ?_⟩
          refine ⟨fun _ _ F => gG F rfl rfl rfl rfl (arm_loadF rfl (F.k 5 (Value.pointer (some ⟨w.heap.size + 2, 0, none⟩))) (V2.mono F.below)).b, ?_⟩
          refine ⟨fun _ _ F => gG F rfl rfl rfl rfl (arm_C2 rfl (enters Try.func38 rfl rfl) (F.f 4 rfl) (F.f 5 rfl) (fun va vb w h1 h2 => q_fMul va vb x z w h1 h2 (hx.mono (by decide)) (hz.mono (by decide))) (fun _ _ h => ofQ h)).b, ?_⟩
          refine ⟨fun _ _ F => gG F rfl rfl rfl rfl (arm_loadF rfl (F.k 4 (Value.pointer (some ⟨w.heap.size + 1, 0, none⟩))) (V1.mono F.below)).b, ?_⟩
          refine ⟨fun _ _ F => gG F rfl rfl rfl rfl (arm_loadF rfl (F.k 5 (Value.pointer (some ⟨w.heap.size + 2, 0, none⟩))) (V2.mono F.below)).b, ?_⟩
          refine ⟨fun _ _ F => gG F rfl rfl rfl rfl (arm_C2 rfl (enters Try.func38 rfl rfl) (F.f 7 rfl) (F.f 8 rfl) (fun va vb w h1 h2 => q_fMul va vb y z w h1 h2 (hy.mono (by decide)) (hz.mono (by decide))) (fun _ _ h => ofQ h)).b, ?_⟩
          refine ⟨fun _ _ F => gG F rfl rfl rfl rfl (arm_C2 rfl (enters Try.func36 rfl rfl) (F.f 6 rfl) (F.f 9 rfl) (fun va vb w h1 h2 => q_fCmp va vb (x.mul z) (y.mul z) w h1 h2 ((hx.mul hz).mono (by decide)) ((hy.mul hz).mono (by decide))) (fun _ _ h => by have h' : RetV _ _ _ _ := h; rw [A2.out] at h'; exact ofV h')).b, ?_⟩
          refine ⟨fun _ _ F => gG F rfl rfl rfl rfl (arm_move (.inl rfl) (F.k 7 (Value.int IntKind.i64 0))).b, ?_⟩
          refine ⟨fun _ _ F => gG F rfl rfl rfl rfl (arm_bin rfl (F.f 10 rfl) (F.f 11 rfl) (fun _ => rfl) (fun _ => rfl)).b, ?_⟩
          refine ⟨fun _ _ F => gR rfl rfl (arm_pick rfl (F.f 3 rfl) (fun h => by cases h) (fun _ => (F.f 12 rfl))).b, ?_⟩
          refine ⟨fun _ _ F => gR rfl rfl (arm_move (.inl rfl) (F.f 13 rfl)).b, ?_⟩
          refine ⟨fun _ _ F => gG F rfl rfl rfl rfl (arm_C0 rfl (enters Try.func11 rfl rfl)  (fun w => c_awake2 w) (fun _ _ h => ofV h)).b, ?_⟩
          refine ⟨fun _ _ F => gR rfl rfl (arm_pick rfl (F.f 14 rfl) (fun _ => (F.f 15 rfl)) (fun h => by cases h)).b, ?_⟩
          refine ⟨fun _ _ F => gR rfl rfl (arm_move (.inr rfl) (F.f 16 rfl)).b, ?_⟩
          exact trivial
        intro E' hE gp wp bp G Gs
        obtain rfl : E' = [] := by simpa [subs] using hE
        have e_17 : gp 17 = Value.bool true := G 17 6 _ (by simp) rfl
        clear G Gs hE
        simp only [lOrzT23]
        simp only [qA, setD, qZ, qS, e_17]
        refine wpAny_done (by kernel_rfl) ?_ _
        go_wp2_with fail
        go_meet
        case rel => exact ⟨rfl, (V0.mono bp), (V1.mono bp), (V2.mono bp), (hb1.trans (bp.mono hb1.size))⟩
      case rest =>
      clear V0 V1 V2 hb1
      obtain ⟨rfl, V0, V1, V2, hb1⟩ := hcut
      go_wp2
      go_ret
      exact ⟨rfl, hb1⟩
def lOrpT0 (x : Fq) (y : Fq) (z : Fq) : List (Nat × Tmp × Sp) :=
   [(0, 8, .fq x),
    (1, 9, .val (Value.bool true)),
    (2, 10, .val (Value.bool false)),
    (3, 11, .val (Value.bool false)),
    (4, 12, .fq y),
    (5, 13, .val (Value.bool true)),
    (6, 14, .val (Value.bool false)),
    (7, 15, .val (Value.bool false)),
    (8, 16, .val (Value.bool false)),
    (9, 17, .fq z),
    (10, 18, .val (Value.bool true)),
    (11, 19, .val (Value.bool false)),
    (12, 20, .val (Value.bool false))]
def lOrpT1 (x : Fq) (y : Fq) : List (Nat × Tmp × Sp) :=
   [(0, 22, .fq x),
    (1, 23, .fq y),
    (2, 24, .val (Value.int IntKind.i64 1)),
    (3, 7, .val (Value.int IntKind.i64 1))]
def lOrpT2 (x : Fq) (y : Fq) : List (Nat × Tmp × Sp) :=
   [(0, 25, .val (Value.int IntKind.i64 1)),
    (1, 26, .fq x),
    (2, 27, .fq y),
    (3, 28, .fq (x.sub y)),
    (4, 29, .val (Value.int IntKind.i64 1)),
    (5, 30, .val (Value.bool false)),
    (6, 31, .val (Value.bool false)),
    (7, 32, .fq y),
    (8, 33, .fq x),
    (9, 34, .val (Value.int IntKind.i64 (-1))),
    (10, 35, .val (Value.int IntKind.i64 1)),
    (11, 36, .val (Value.int IntKind.i64 (-1))),
    (12, 37, .val (Value.bool false)),
    (13, 38, .val (Value.bool false)),
    (14, 39, .val (Value.bool false)),
    (15, 40, .val (Value.int IntKind.i64 1)),
    (16, 41, .val (Value.bool false)),
    (17, 42, .fq x),
    (18, 43, .fq y),
    (19, 44, .val (Value.bool false)),
    (20, 45, .val (Value.bool false)),
    (21, 46, .val (Value.bool false))]
def lOrpT3  : List (Nat × Tmp × Sp) :=
   [(0, 47, .val (Value.int IntKind.i64 1)),
    (1, 48, .val (Value.bool false)),
    (2, 49, .val (Value.bool false)),
    (3, 50, .val undef),
    (4, 51, .val undef),
    (5, 52, .val undef),
    (6, 53, .val undef),
    (7, 54, .val (Value.bool false)),
    (8, 55, .val (Value.bool false)),
    (9, 56, .val undef),
    (10, 57, .val undef),
    (11, 58, .val undef),
    (12, 59, .val undef),
    (13, 60, .val (Value.bool false))]
def lOrpT4 (x : Fq) (y : Fq) (z : Fq) : List (Nat × Tmp × Sp) :=
   [(0, 61, .fq x),
    (1, 62, .fq z),
    (2, 63, .fq (x.add z)),
    (3, 64, .fq y),
    (4, 65, .fq z),
    (5, 66, .fq (y.add z)),
    (6, 67, .val (Value.int IntKind.i64 1)),
    (7, 68, .val (Value.int IntKind.i64 1)),
    (8, 69, .val (Value.bool false))]
def lOrpT5 (z : Fq) (s : Int) : List (Nat × Tmp × Sp) :=
   [(0, 70, .fq z),
    (1, 71, .val (Value.int IntKind.i64 s)),
    (2, 72, .val (Value.bool true)),
    (3, 73, .val (Value.bool true)),
    (4, 74, .val undef),
    (5, 75, .val undef),
    (6, 76, .val undef),
    (7, 77, .val undef),
    (8, 78, .val undef),
    (9, 79, .val undef),
    (10, 80, .val undef),
    (11, 81, .val undef),
    (12, 82, .val undef),
    (13, 83, .val (Value.bool true)),
    (14, 84, .val (Value.bool true)),
    (15, 85, .val (Value.bool true)),
    (16, 86, .val (Value.bool true)),
    (17, 6, .val (Value.bool true))]
def lOrpT6 (x : Fq) (y : Fq) (z : Fq) : List (Nat × Tmp × Sp) :=
   [(0, 8, .fq x),
    (1, 9, .val (Value.bool true)),
    (2, 10, .val (Value.bool false)),
    (3, 11, .val (Value.bool false)),
    (4, 12, .fq y),
    (5, 13, .val (Value.bool true)),
    (6, 14, .val (Value.bool false)),
    (7, 15, .val (Value.bool false)),
    (8, 16, .val (Value.bool false)),
    (9, 17, .fq z),
    (10, 18, .val (Value.bool true)),
    (11, 19, .val (Value.bool false)),
    (12, 20, .val (Value.bool false))]
def lOrpT7 (x : Fq) (y : Fq) : List (Nat × Tmp × Sp) :=
   [(0, 22, .fq x),
    (1, 23, .fq y),
    (2, 24, .val (Value.int IntKind.i64 1)),
    (3, 7, .val (Value.int IntKind.i64 1))]
def lOrpT8 (x : Fq) (y : Fq) : List (Nat × Tmp × Sp) :=
   [(0, 25, .val (Value.int IntKind.i64 1)),
    (1, 26, .fq x),
    (2, 27, .fq y),
    (3, 28, .fq (x.sub y)),
    (4, 29, .val (Value.int IntKind.i64 1)),
    (5, 30, .val (Value.bool false)),
    (6, 31, .val (Value.bool false)),
    (7, 32, .fq y),
    (8, 33, .fq x),
    (9, 34, .val (Value.int IntKind.i64 (-1))),
    (10, 35, .val (Value.int IntKind.i64 1)),
    (11, 36, .val (Value.int IntKind.i64 (-1))),
    (12, 37, .val (Value.bool false)),
    (13, 38, .val (Value.bool false)),
    (14, 39, .val (Value.bool false)),
    (15, 40, .val (Value.int IntKind.i64 1)),
    (16, 41, .val (Value.bool false)),
    (17, 42, .fq x),
    (18, 43, .fq y),
    (19, 44, .val (Value.bool false)),
    (20, 45, .val (Value.bool false)),
    (21, 46, .val (Value.bool false))]
def lOrpT9  : List (Nat × Tmp × Sp) :=
   [(0, 47, .val (Value.int IntKind.i64 1)),
    (1, 48, .val (Value.bool false)),
    (2, 49, .val (Value.bool false)),
    (3, 50, .val undef),
    (4, 51, .val undef),
    (5, 52, .val undef),
    (6, 53, .val undef),
    (7, 54, .val (Value.bool false)),
    (8, 55, .val (Value.bool false)),
    (9, 56, .val undef),
    (10, 57, .val undef),
    (11, 58, .val undef),
    (12, 59, .val undef),
    (13, 60, .val (Value.bool false))]
def lOrpT10 (x : Fq) (y : Fq) (z : Fq) : List (Nat × Tmp × Sp) :=
   [(0, 61, .fq x),
    (1, 62, .fq z),
    (2, 63, .fq (x.add z)),
    (3, 64, .fq y),
    (4, 65, .fq z),
    (5, 66, .fq (y.add z)),
    (6, 67, .val (Value.int IntKind.i64 1)),
    (7, 68, .val (Value.int IntKind.i64 1)),
    (8, 69, .val (Value.bool false))]
def lOrpT11 (x : Fq) (y : Fq) (z : Fq) (s : Int) : List (Nat × Tmp × Sp) :=
   [(0, 70, .fq z),
    (1, 71, .val (Value.int IntKind.i64 s)),
    (2, 72, .val (Value.bool false)),
    (3, 73, .val (Value.bool false)),
    (4, 74, .fq x),
    (5, 75, .fq z),
    (6, 76, .fq (x.mul z)),
    (7, 77, .fq y),
    (8, 78, .fq z),
    (9, 79, .fq (y.mul z)),
    (10, 80, .val (Value.int IntKind.i64 1)),
    (11, 81, .val (Value.int IntKind.i64 1)),
    (12, 82, .val (Value.bool true)),
    (13, 83, .val (Value.bool true)),
    (14, 84, .val (Value.bool true)),
    (15, 85, .val (Value.bool true)),
    (16, 86, .val (Value.bool true)),
    (17, 6, .val (Value.bool true))]
set_option maxHeartbeats 4000000 in
theorem c_lOrp (vx vy vz : Value) (x y z : Fq) (w : World) (ix : IsQ w vx x) (iy : IsQ w vy y) (iz : IsQ w vz z) (hx : x.ok 12) (ex : x.valid = true) (hy : y.ok 12) (ey : y.valid = true) (hz : z.ok 12) (ez : z.valid = true) (hk : x.cmp y = 1) :
    Calls Try.prog 8 #[vx, vy, vz] w fun e w' => RetV w (.bool true) e w' := by
  have K1 : Hid (x.cmp y = 1) := Lib.hid hk
  have K2 : Hid ((x.sub y).sgn = 1) := Lib.hid hk
  have K3 : Hid (y.cmp x = (-1)) := Lib.hid (by rw [o_anti ex ey, hk])
  have K4 : Hid (x.same y = false) := Lib.hid (by rw [Bool.eq_false_iff]; intro h9; have h8 := (o_zero ex ey).2 (Fq.same_iff.1 h9); rw [hk] at h8; cases h8)
  have K5 : Hid ((x.add z).cmp (y.add z) = 1) := Lib.hid (by rw [o_add ex ey ez, hk])
  obtain ⟨l, hl⟩ : ∃ l, Hid (y.cmp z = l) := ⟨_, Lib.hid rfl⟩
  obtain ⟨m, hm⟩ : ∃ m, Hid (x.cmp z = m) := ⟨_, Lib.hid rfl⟩
  obtain ⟨s, hs⟩ : ∃ s, Hid (z.sgn = s) := ⟨_, Lib.hid rfl⟩
  by_cases h0 : s ≤ 0
  · have A1 : Hid (true = decide (s ≤ 0)) := Lib.hid (decide_eq_true h0).symm
    clear h0
    clear hk
    obtain ⟨a0, c0, b0, d0, rfl, m0, k0⟩ := boxF ix
    obtain ⟨a1, c1, b1, d1, rfl, m1, k1⟩ := boxF (iy.mono m0)
    rw [World.size_alloc ] at k1
    have n1 := m0.trans (m1.mono m0.size)
    obtain ⟨a2, c2, b2, d2, rfl, m2, k2⟩ := boxF (iz.mono n1)
    rw [World.size_alloc, World.size_alloc ] at k2
    have n2 := n1.trans (m2.mono n1.size)
    clear ix iy iz
    go_enter Try.func8, Try.ntmps8
    go_upto_region 0 with (fail)
    go_cut [3, 4, 5, 6] (fun s_3 s_4 s_5 s_6 wx => s_3 = Value.pointer (some ⟨w.heap.size, 0, none⟩) ∧ s_4 = Value.pointer (some ⟨w.heap.size + 1, 0, none⟩) ∧ s_5 = Value.pointer (some ⟨w.heap.size + 2, 0, none⟩) ∧ s_6 = Value.bool false ∧ VarQ wx w.heap.size x ∧ VarQ wx (w.heap.size + 1) y ∧ VarQ wx (w.heap.size + 2) z ∧ Below w.heap.size w wx)
    case first =>
      go_wp2_with fail
      go_meet
      case rel => exact ⟨rfl, rfl, rfl, rfl, ((k0.mono m1).mono m2), (k1.mono m2), k2, n2⟩
    case rest =>
    clear m0 k0 m1 k1 m2 k2 n1 n2
    obtain ⟨rfl, rfl, rfl, rfl, V0, V1, V2, hb1⟩ := hcut
    go_upto_region 1 with (fail)
    go_cut [20] (fun s_20 wx => s_20 = Value.bool false ∧ VarQ wx w.heap.size x ∧ VarQ wx (w.heap.size + 1) y ∧ VarQ wx (w.heap.size + 2) z ∧ Below w.heap.size w wx)
    case first =>
      refine tF Try.f8 1 (lOrpT0 x y z) [] 13 0 ?_ ?_
      · refine ⟨fun _ _ F => gR rfl rfl (arm_loadF rfl (F.k 3 (Value.pointer (some ⟨w.heap.size, 0, none⟩))) (V0.mono F.below)).b, ?_⟩
        refine ⟨fun _ _ F => gR rfl rfl (arm_C1 rfl (enters Try.func18 rfl rfl) (F.f 0 rfl) (fun va w h1 => q_fitQ va x w h1 hx ex) (fun _ _ h => ofV h)).b, ?_⟩
        refine ⟨fun _ _ F => gR rfl rfl (arm_not rfl (F.f 1 rfl)).b, ?_⟩
        refine ⟨fun _ _ F => gR rfl rfl (arm_move (.inl rfl) (F.f 2 rfl)).b, ?_⟩
        refine ⟨fun _ _ F => gG F rfl rfl rfl rfl (arm_loadF rfl (F.k 4 (Value.pointer (some ⟨w.heap.size + 1, 0, none⟩))) (V1.mono F.below)).b, ?_⟩
        refine ⟨fun _ _ F => gG F rfl rfl rfl rfl (arm_C1 rfl (enters Try.func18 rfl rfl) (F.f 4 rfl) (fun va w h1 => q_fitQ va y w h1 hy ey) (fun _ _ h => ofV h)).b, ?_⟩
        refine ⟨fun _ _ F => gG F rfl rfl rfl rfl (arm_not rfl (F.f 5 rfl)).b, ?_⟩
        refine ⟨fun _ _ F => gR rfl rfl (arm_pick rfl (F.f 3 rfl) (fun h => by cases h) (fun _ => (F.f 6 rfl))).b, ?_⟩
        refine ⟨fun _ _ F => gR rfl rfl (arm_move (.inl rfl) (F.f 7 rfl)).b, ?_⟩
        refine ⟨fun _ _ F => gG F rfl rfl rfl rfl (arm_loadF rfl (F.k 5 (Value.pointer (some ⟨w.heap.size + 2, 0, none⟩))) (V2.mono F.below)).b, ?_⟩
        refine ⟨fun _ _ F => gG F rfl rfl rfl rfl (arm_C1 rfl (enters Try.func18 rfl rfl) (F.f 9 rfl) (fun va w h1 => q_fitQ va z w h1 hz ez) (fun _ _ h => ofV h)).b, ?_⟩
        refine ⟨fun _ _ F => gG F rfl rfl rfl rfl (arm_not rfl (F.f 10 rfl)).b, ?_⟩
        refine ⟨fun _ _ F => gR rfl rfl (arm_pick rfl (F.f 8 rfl) (fun h => by cases h) (fun _ => (F.f 11 rfl))).b, ?_⟩
        exact trivial
      intro E' hE gp wp bp G Gs
      obtain rfl : E' = [] := by simpa [subs] using hE
      have e_12 : gp 12 = Value.bool false := G 12 20 _ (by simp) rfl
      clear G Gs hE
      simp only [lOrpT0]
      simp only [qA, setD, qZ, qS, e_12]
      refine wpAny_done (by kernel_rfl) ?_ _
      go_wp2_with fail
      go_meet
      case rel => exact ⟨rfl, (V0.mono bp), (V1.mono bp), (V2.mono bp), (hb1.trans (bp.mono hb1.size))⟩
    case rest =>
    clear V0 V1 V2 hb1
    obtain ⟨rfl, V0, V1, V2, hb1⟩ := hcut
    go_upto_region 3 with (fail)
    go_cut [7] (fun s_7 wx => s_7 = Value.int IntKind.i64 1 ∧ VarQ wx w.heap.size x ∧ VarQ wx (w.heap.size + 1) y ∧ VarQ wx (w.heap.size + 2) z ∧ Below w.heap.size w wx)
    case first =>
      refine tF Try.f8 3 (lOrpT1 x y) [] 3 0 ?_ ?_
      · refine ⟨fun _ _ F => gR rfl rfl (arm_loadF rfl (F.k 3 (Value.pointer (some ⟨w.heap.size, 0, none⟩))) (V0.mono F.below)).b, ?_⟩
        refine ⟨fun _ _ F => gR rfl rfl (arm_loadF rfl (F.k 4 (Value.pointer (some ⟨w.heap.size + 1, 0, none⟩))) (V1.mono F.below)).b, ?_⟩
        refine ⟨fun _ _ F => gR rfl rfl (arm_C2 rfl (enters Try.func36 rfl rfl) (F.f 0 rfl) (F.f 1 rfl) (fun va vb w h1 h2 => q_fCmp va vb x y w h1 h2 (hx.mono (by decide)) (hy.mono (by decide))) (fun _ _ h => by have h' : RetV _ _ _ _ := h; rw [K1.out] at h'; exact ofV h')).b, ?_⟩
        refine ⟨fun _ _ F => gR rfl rfl (arm_move (.inr rfl) (F.f 2 rfl)).b, ?_⟩
        exact trivial
      intro E' hE gp wp bp G Gs
      obtain rfl : E' = [] := by simpa [subs] using hE
      have e_3 : gp 3 = Value.int IntKind.i64 1 := G 3 7 _ (by simp) rfl
      clear G Gs hE
      simp only [lOrpT1]
      simp only [qA, setD, qZ, qS, e_3]
      refine wpAny_done (by kernel_rfl) ?_ _
      go_wp2_with fail
      go_meet
      case rel => exact ⟨rfl, (V0.mono bp), (V1.mono bp), (V2.mono bp), (hb1.trans (bp.mono hb1.size))⟩
    case rest =>
    clear V0 V1 V2 hb1
    obtain ⟨rfl, V0, V1, V2, hb1⟩ := hcut
    go_upto_region 4 with (fail)
    go_cut [46] (fun s_46 wx => s_46 = Value.bool false ∧ VarQ wx w.heap.size x ∧ VarQ wx (w.heap.size + 1) y ∧ VarQ wx (w.heap.size + 2) z ∧ Below w.heap.size w wx)
    case first =>
      refine tF Try.f8 4 (lOrpT2 x y) [] 14 0 ?_ ?_
      · refine ⟨fun _ _ F => gR rfl rfl (arm_move (.inl rfl) (F.k 7 (Value.int IntKind.i64 1))).b, ?_⟩
        refine ⟨fun _ _ F => gR rfl rfl (arm_loadF rfl (F.k 3 (Value.pointer (some ⟨w.heap.size, 0, none⟩))) (V0.mono F.below)).b, ?_⟩
        refine ⟨fun _ _ F => gR rfl rfl (arm_loadF rfl (F.k 4 (Value.pointer (some ⟨w.heap.size + 1, 0, none⟩))) (V1.mono F.below)).b, ?_⟩
        refine ⟨fun _ _ F => gR rfl rfl (arm_C2 rfl (enters Try.func34 rfl rfl) (F.f 1 rfl) (F.f 2 rfl) (fun va vb w h1 h2 => q_fSub va vb x y w h1 h2 (hx.mono (by decide)) (hy.mono (by decide))) (fun _ _ h => ofQ h)).b, ?_⟩
        refine ⟨fun _ _ F => gR rfl rfl (arm_C1 rfl (enters Try.func35 rfl rfl) (F.f 3 rfl) (fun va w h1 => q_fSign va (x.sub y) w h1 ((hx.sub hy).mono (by decide))) (fun _ _ h => by have h' : RetV _ _ _ _ := h; rw [K2.out] at h'; exact ofV h')).b, ?_⟩
        refine ⟨fun _ _ F => gR rfl rfl (arm_bin rfl (F.f 0 rfl) (F.f 4 rfl) (fun _ => rfl) (fun _ => rfl)).b, ?_⟩
        refine ⟨fun _ _ F => gR rfl rfl (arm_move (.inl rfl) (F.f 5 rfl)).b, ?_⟩
        refine ⟨fun _ _ F => gG F rfl rfl rfl rfl (arm_loadF rfl (F.k 4 (Value.pointer (some ⟨w.heap.size + 1, 0, none⟩))) (V1.mono F.below)).b, ?_⟩
        refine ⟨fun _ _ F => gG F rfl rfl rfl rfl (arm_loadF rfl (F.k 3 (Value.pointer (some ⟨w.heap.size, 0, none⟩))) (V0.mono F.below)).b, ?_⟩
        refine ⟨fun _ _ F => gG F rfl rfl rfl rfl (arm_C2 rfl (enters Try.func36 rfl rfl) (F.f 7 rfl) (F.f 8 rfl) (fun va vb w h1 h2 => q_fCmp va vb y x w h1 h2 (hy.mono (by decide)) (hx.mono (by decide))) (fun _ _ h => by have h' : RetV _ _ _ _ := h; rw [K3.out] at h'; exact ofV h')).b, ?_⟩
        refine ⟨fun _ _ F => gG F rfl rfl rfl rfl (arm_move (.inl rfl) (F.k 7 (Value.int IntKind.i64 1))).b, ?_⟩
        refine ⟨fun _ _ F => gG F rfl rfl rfl rfl (arm_negI rfl (F.f 10 rfl) (by decide +kernel)).b, ?_⟩
        refine ⟨fun _ _ F => gG F rfl rfl rfl rfl (arm_bin rfl (F.f 9 rfl) (F.f 11 rfl) (fun _ => rfl) (fun _ => rfl)).b, ?_⟩
        refine ⟨fun _ _ F => gR rfl rfl (arm_pick rfl (F.f 6 rfl) (fun h => by cases h) (fun _ => (F.f 12 rfl))).b, ?_⟩
        refine ⟨fun _ _ F => gR rfl rfl (arm_move (.inl rfl) (F.f 13 rfl)).b, ?_⟩
        refine ⟨fun _ _ F => gG F rfl rfl rfl rfl (arm_move (.inl rfl) (F.k 7 (Value.int IntKind.i64 1))).b, ?_⟩
        refine ⟨fun _ _ F => gG F rfl rfl rfl rfl (arm_bin rfl (F.f 15 rfl) Is.const (fun _ => rfl) (fun _ => rfl)).b, ?_⟩
        refine ⟨fun _ _ F => gG F rfl rfl rfl rfl (arm_loadF rfl (F.k 3 (Value.pointer (some ⟨w.heap.size, 0, none⟩))) (V0.mono F.below)).b, ?_⟩
        refine ⟨fun _ _ F => gG F rfl rfl rfl rfl (arm_loadF rfl (F.k 4 (Value.pointer (some ⟨w.heap.size + 1, 0, none⟩))) (V1.mono F.below)).b, ?_⟩
        refine ⟨fun _ _ F => gG F rfl rfl rfl rfl (arm_C2 rfl (enters Try.func16 rfl rfl) (F.f 17 rfl) (F.f 18 rfl) (fun va vb w h1 h2 => q_Same va vb x y w h1 h2 (hx.mono (by decide)) (hy.mono (by decide))) (fun _ _ h => by have h' : RetV _ _ _ _ := h; rw [K4.out] at h'; exact ofV h')).b, ?_⟩
        refine ⟨fun _ _ F => gG F rfl rfl rfl rfl (arm_bin rfl (F.f 16 rfl) (F.f 19 rfl) (fun _ => rfl) (fun _ => rfl)).b, ?_⟩
        refine ⟨fun _ _ F => gR rfl rfl (arm_pick rfl (F.f 14 rfl) (fun h => by cases h) (fun _ => (F.f 20 rfl))).b, ?_⟩
        exact trivial
      intro E' hE gp wp bp G Gs
      obtain rfl : E' = [] := by simpa [subs] using hE
      have e_21 : gp 21 = Value.bool false := G 21 46 _ (by simp) rfl
      clear G Gs hE
      simp only [lOrpT2]
      simp only [qA, setD, qZ, qS, e_21]
      refine wpAny_done (by kernel_rfl) ?_ _
      go_wp2_with fail
      go_meet
      case rel => exact ⟨rfl, (V0.mono bp), (V1.mono bp), (V2.mono bp), (hb1.trans (bp.mono hb1.size))⟩
    case rest =>
    clear V0 V1 V2 hb1
    obtain ⟨rfl, V0, V1, V2, hb1⟩ := hcut
    go_upto_region 6 with (fail)
    go_cut [60] (fun s_60 wx => s_60 = Value.bool false ∧ VarQ wx w.heap.size x ∧ VarQ wx (w.heap.size + 1) y ∧ VarQ wx (w.heap.size + 2) z ∧ Below w.heap.size w wx)
    case first =>
      refine tF Try.f8 6 (lOrpT3 ) [] 12 0 ?_ ?_
      · refine ⟨fun _ _ F => gR rfl rfl (arm_move (.inl rfl) (F.k 7 (Value.int IntKind.i64 1))).b, ?_⟩
        refine ⟨fun _ _ F => gR rfl rfl (arm_bin rfl (F.f 0 rfl) Is.const (fun _ => rfl) (fun _ => rfl)).b, ?_⟩
        refine ⟨fun _ _ F => gR rfl rfl (arm_move (.inl rfl) (F.f 1 rfl)).b, ?_⟩
        refine ⟨fun _ _ F => gS F rfl rfl rfl rfl rfl rfl, ?_⟩
        refine ⟨fun _ _ F => gS F rfl rfl rfl rfl rfl rfl, ?_⟩
        refine ⟨fun _ _ F => gS F rfl rfl rfl rfl rfl rfl, ?_⟩
        refine ⟨fun _ _ F => gS F rfl rfl rfl rfl rfl rfl, ?_⟩
        refine ⟨fun _ _ F => gR rfl rfl (arm_pick rfl (F.f 2 rfl) (fun h => by cases h) (fun _ => Is.const)).b, ?_⟩
        refine ⟨fun _ _ F => gR rfl rfl (arm_move (.inl rfl) (F.f 7 rfl)).b, ?_⟩
        refine ⟨fun _ _ F => gS F rfl rfl rfl rfl rfl rfl, ?_⟩
        refine ⟨fun _ _ F => gS F rfl rfl rfl rfl rfl rfl, ?_⟩
        refine ⟨fun _ _ F => gS F rfl rfl rfl rfl rfl rfl, ?_⟩
        refine ⟨fun _ _ F => gS F rfl rfl rfl rfl rfl rfl, ?_⟩
        refine ⟨fun _ _ F => gR rfl rfl (arm_pick rfl (F.f 8 rfl) (fun h => by cases h) (fun _ => Is.const)).b, ?_⟩
        exact trivial
      intro E' hE gp wp bp G Gs
      obtain rfl : E' = [] := by simpa [subs] using hE
      have e_13 : gp 13 = Value.bool false := G 13 60 _ (by simp) rfl
      clear G Gs hE
      simp only [lOrpT3]
      simp only [qA, setD, qZ, qS, e_13]
      refine wpAny_done (by kernel_rfl) ?_ _
      go_wp2_with fail
      go_meet
      case rel => exact ⟨rfl, (V0.mono bp), (V1.mono bp), (V2.mono bp), (hb1.trans (bp.mono hb1.size))⟩
    case rest =>
    clear V0 V1 V2 hb1
    obtain ⟨rfl, V0, V1, V2, hb1⟩ := hcut
    go_upto_region 8 with (fail)
    go_cut [69] (fun s_69 wx => s_69 = Value.bool false ∧ VarQ wx w.heap.size x ∧ VarQ wx (w.heap.size + 1) y ∧ VarQ wx (w.heap.size + 2) z ∧ Below w.heap.size w wx)
    case first =>
      refine tG Try.f8 8 (lOrpT4 x y z) [] 5 0 ?_ ?_
      · refine ⟨fun _ _ F => gR rfl rfl (arm_loadF rfl (F.k 3 (Value.pointer (some ⟨w.heap.size, 0, none⟩))) (V0.mono F.below)).b, ?_⟩
        refine ⟨fun _ _ F => gR rfl rfl (arm_loadF rfl (F.k 5 (Value.pointer (some ⟨w.heap.size + 2, 0, none⟩))) (V2.mono F.below)).b, ?_⟩
        refine ⟨fun _ _ F => gR rfl rfl (arm_C2 rfl (enters Try.func37 rfl rfl) (F.f 0 rfl) (F.f 1 rfl) (fun va vb w h1 h2 => q_fAdd va vb x z w h1 h2 (hx.mono (by decide)) (hz.mono (by decide))) (fun _ _ h => ofQ h)).b, ?_⟩
        refine ⟨fun _ _ F => gR rfl rfl (arm_loadF rfl (F.k 4 (Value.pointer (some ⟨w.heap.size + 1, 0, none⟩))) (V1.mono F.below)).b, ?_⟩
        refine ⟨fun _ _ F => gR rfl rfl (arm_loadF rfl (F.k 5 (Value.pointer (some ⟨w.heap.size + 2, 0, none⟩))) (V2.mono F.below)).b, ?_⟩
        refine ⟨fun _ _ F => gR rfl rfl (arm_C2 rfl (enters Try.func37 rfl rfl) (F.f 3 rfl) (F.f 4 rfl) (fun va vb w h1 h2 => q_fAdd va vb y z w h1 h2 (hy.mono (by decide)) (hz.mono (by decide))) (fun _ _ h => ofQ h)).b, ?_⟩
        refine ⟨fun _ _ F => gR rfl rfl (arm_C2 rfl (enters Try.func36 rfl rfl) (F.f 2 rfl) (F.f 5 rfl) (fun va vb w h1 h2 => q_fCmp va vb (x.add z) (y.add z) w h1 h2 ((hx.add hz).mono (by decide)) ((hy.add hz).mono (by decide))) (fun _ _ h => by have h' : RetV _ _ _ _ := h; rw [K5.out] at h'; exact ofV h')).b, ?_⟩
        refine ⟨fun _ _ F => gR rfl rfl (arm_move (.inl rfl) (F.k 7 (Value.int IntKind.i64 1))).b, ?_⟩
        refine ⟨fun _ _ F => gR rfl rfl (arm_bin rfl (F.f 6 rfl) (F.f 7 rfl) (fun _ => rfl) (fun _ => rfl)).b, ?_⟩
        exact trivial
      intro E' hE gp wp bp G Gs
      obtain rfl : E' = [] := by simpa [subs] using hE
      have e_8 : gp 8 = Value.bool false := G 8 69 _ (by simp) rfl
      clear G Gs hE
      simp only [lOrpT4]
      simp only [qA, setD, qZ, qS, e_8]
      refine wpAny_done (by kernel_rfl) ?_ _
      go_wp2_with fail
      go_meet
      case rel => exact ⟨rfl, (V0.mono bp), (V1.mono bp), (V2.mono bp), (hb1.trans (bp.mono hb1.size))⟩
    case rest =>
    clear V0 V1 V2 hb1
    obtain ⟨rfl, V0, V1, V2, hb1⟩ := hcut
    go_upto_region 10 with (fail)
    go_cut [6] (fun s_6 wx => s_6 = Value.bool true ∧ VarQ wx w.heap.size x ∧ VarQ wx (w.heap.size + 1) y ∧ VarQ wx (w.heap.size + 2) z ∧ Below w.heap.size w wx)
    case first =>
      refine tG Try.f8 10 (lOrpT5 z s) [] 14 0 ?_ ?_
      · refine ⟨fun _ _ F => gR rfl rfl (arm_loadF rfl (F.k 5 (Value.pointer (some ⟨w.heap.size + 2, 0, none⟩))) (V2.mono F.below)).b, ?_⟩
        refine ⟨fun _ _ F => gR rfl rfl (arm_C1 rfl (enters Try.func35 rfl rfl) (F.f 0 rfl) (fun va w h1 => q_fSign va z w h1 (hz.mono (by decide))) (fun _ _ h => by have h' : RetV _ _ _ _ := h; rw [hs.out] at h'; exact ofV h')).b, ?_⟩
        refine ⟨fun _ _ F => gR rfl rfl (arm_bin rfl (F.f 1 rfl) Is.const (fun _ => rfl) (fun w => by rw [A1.out]; rfl)).b, ?_⟩
        refine ⟨fun _ _ F => gR rfl rfl (arm_move (.inl rfl) (F.f 2 rfl)).b, ?_⟩
        refine ⟨fun _ _ F => gS F rfl rfl rfl rfl rfl rfl, ?_⟩
        refine ⟨fun _ _ F => gS F rfl rfl rfl rfl rfl rfl, ?_⟩
        refine ⟨fun _ _ F => gS F rfl rfl rfl rfl rfl rfl, ?_⟩
        refine ⟨fun _ _ F => gS F rfl rfl rfl rfl rfl rfl, ?_⟩
        refine ⟨fun _ _ F => gS F rfl rfl rfl rfl rfl rfl, ?_⟩
        refine ⟨fun _ _ F => gS F rfl rfl rfl rfl rfl rfl, ?_⟩
        refine ⟨fun _ _ F => gS F rfl rfl rfl rfl rfl rfl, ?_⟩
        refine ⟨fun _ _ F => gS F rfl rfl rfl rfl rfl rfl, ?_⟩
        refine ⟨fun _ _ F => gS F rfl rfl rfl rfl rfl rfl, ?_⟩
        refine ⟨fun _ _ F => gR rfl rfl (arm_pick rfl (F.f 3 rfl) (fun _ => Is.const) (fun h => by cases h)).b, ?_⟩
        refine ⟨fun _ _ F => gR rfl rfl (arm_move (.inl rfl) (F.f 13 rfl)).b, ?_⟩
        refine ⟨fun _ _ F => gG F rfl rfl rfl rfl (arm_C0 rfl (enters Try.func11 rfl rfl)  (fun w => c_awake2 w) (fun _ _ h => ofV h)).b, ?_⟩
        refine ⟨fun _ _ F => gR rfl rfl (arm_pick rfl (F.f 14 rfl) (fun _ => (F.f 15 rfl)) (fun h => by cases h)).b, ?_⟩
        refine ⟨fun _ _ F => gR rfl rfl (arm_move (.inr rfl) (F.f 16 rfl)).b, ?_⟩
        exact trivial
      intro E' hE gp wp bp G Gs
      obtain rfl : E' = [] := by simpa [subs] using hE
      have e_17 : gp 17 = Value.bool true := G 17 6 _ (by simp) rfl
      clear G Gs hE
      simp only [lOrpT5]
      simp only [qA, setD, qZ, qS, e_17]
      refine wpAny_done (by kernel_rfl) ?_ _
      go_wp2_with fail
      go_meet
      case rel => exact ⟨rfl, (V0.mono bp), (V1.mono bp), (V2.mono bp), (hb1.trans (bp.mono hb1.size))⟩
    case rest =>
    clear V0 V1 V2 hb1
    obtain ⟨rfl, V0, V1, V2, hb1⟩ := hcut
    go_wp2
    go_ret
    exact ⟨rfl, hb1⟩
  · have A1 : Hid (false = decide (s ≤ 0)) := Lib.hid (decide_eq_false h0).symm
    have A2 : Hid ((x.mul z).cmp (y.mul z) = 1) := Lib.hid (by rw [o_mul ex ey ez (by rw [hs.out]; omega), hk])
    clear h0
    clear hk
    obtain ⟨a0, c0, b0, d0, rfl, m0, k0⟩ := boxF ix
    obtain ⟨a1, c1, b1, d1, rfl, m1, k1⟩ := boxF (iy.mono m0)
    rw [World.size_alloc ] at k1
    have n1 := m0.trans (m1.mono m0.size)
    obtain ⟨a2, c2, b2, d2, rfl, m2, k2⟩ := boxF (iz.mono n1)
    rw [World.size_alloc, World.size_alloc ] at k2
    have n2 := n1.trans (m2.mono n1.size)
    clear ix iy iz
    go_enter Try.func8, Try.ntmps8
    go_upto_region 0 with (fail)
    go_cut [3, 4, 5, 6] (fun s_3 s_4 s_5 s_6 wx => s_3 = Value.pointer (some ⟨w.heap.size, 0, none⟩) ∧ s_4 = Value.pointer (some ⟨w.heap.size + 1, 0, none⟩) ∧ s_5 = Value.pointer (some ⟨w.heap.size + 2, 0, none⟩) ∧ s_6 = Value.bool false ∧ VarQ wx w.heap.size x ∧ VarQ wx (w.heap.size + 1) y ∧ VarQ wx (w.heap.size + 2) z ∧ Below w.heap.size w wx)
    case first =>
      go_wp2_with fail
      go_meet
      case rel => exact ⟨rfl, rfl, rfl, rfl, ((k0.mono m1).mono m2), (k1.mono m2), k2, n2⟩
    case rest =>
    clear m0 k0 m1 k1 m2 k2 n1 n2
    obtain ⟨rfl, rfl, rfl, rfl, V0, V1, V2, hb1⟩ := hcut
    go_upto_region 1 with (fail)
    go_cut [20] (fun s_20 wx => s_20 = Value.bool false ∧ VarQ wx w.heap.size x ∧ VarQ wx (w.heap.size + 1) y ∧ VarQ wx (w.heap.size + 2) z ∧ Below w.heap.size w wx)
    case first =>
      refine tF Try.f8 1 (lOrpT6 x y z) [] 13 0 ?_ ?_
      · refine ⟨fun _ _ F => gR rfl rfl (arm_loadF rfl (F.k 3 (Value.pointer (some ⟨w.heap.size, 0, none⟩))) (V0.mono F.below)).b, ?_⟩
        refine ⟨fun _ _ F => gR rfl rfl (arm_C1 rfl (enters Try.func18 rfl rfl) (F.f 0 rfl) (fun va w h1 => q_fitQ va x w h1 hx ex) (fun _ _ h => ofV h)).b, ?_⟩
        refine ⟨fun _ _ F => gR rfl rfl (arm_not rfl (F.f 1 rfl)).b, ?_⟩
        refine ⟨fun _ _ F => gR rfl rfl (arm_move (.inl rfl) (F.f 2 rfl)).b, ?_⟩
        refine ⟨fun _ _ F => gG F rfl rfl rfl rfl (arm_loadF rfl (F.k 4 (Value.pointer (some ⟨w.heap.size + 1, 0, none⟩))) (V1.mono F.below)).b, ?_⟩
        refine ⟨fun _ _ F => gG F rfl rfl rfl rfl (arm_C1 rfl (enters Try.func18 rfl rfl) (F.f 4 rfl) (fun va w h1 => q_fitQ va y w h1 hy ey) (fun _ _ h => ofV h)).b, ?_⟩
        refine ⟨fun _ _ F => gG F rfl rfl rfl rfl (arm_not rfl (F.f 5 rfl)).b, ?_⟩
        refine ⟨fun _ _ F => gR rfl rfl (arm_pick rfl (F.f 3 rfl) (fun h => by cases h) (fun _ => (F.f 6 rfl))).b, ?_⟩
        refine ⟨fun _ _ F => gR rfl rfl (arm_move (.inl rfl) (F.f 7 rfl)).b, ?_⟩
        refine ⟨fun _ _ F => gG F rfl rfl rfl rfl (arm_loadF rfl (F.k 5 (Value.pointer (some ⟨w.heap.size + 2, 0, none⟩))) (V2.mono F.below)).b, ?_⟩
        refine ⟨fun _ _ F => gG F rfl rfl rfl rfl (arm_C1 rfl (enters Try.func18 rfl rfl) (F.f 9 rfl) (fun va w h1 => q_fitQ va z w h1 hz ez) (fun _ _ h => ofV h)).b, ?_⟩
        refine ⟨fun _ _ F => gG F rfl rfl rfl rfl (arm_not rfl (F.f 10 rfl)).b, ?_⟩
        refine ⟨fun _ _ F => gR rfl rfl (arm_pick rfl (F.f 8 rfl) (fun h => by cases h) (fun _ => (F.f 11 rfl))).b, ?_⟩
        exact trivial
      intro E' hE gp wp bp G Gs
      obtain rfl : E' = [] := by simpa [subs] using hE
      have e_12 : gp 12 = Value.bool false := G 12 20 _ (by simp) rfl
      clear G Gs hE
      simp only [lOrpT6]
      simp only [qA, setD, qZ, qS, e_12]
      refine wpAny_done (by kernel_rfl) ?_ _
      go_wp2_with fail
      go_meet
      case rel => exact ⟨rfl, (V0.mono bp), (V1.mono bp), (V2.mono bp), (hb1.trans (bp.mono hb1.size))⟩
    case rest =>
    clear V0 V1 V2 hb1
    obtain ⟨rfl, V0, V1, V2, hb1⟩ := hcut
    go_upto_region 3 with (fail)
    go_cut [7] (fun s_7 wx => s_7 = Value.int IntKind.i64 1 ∧ VarQ wx w.heap.size x ∧ VarQ wx (w.heap.size + 1) y ∧ VarQ wx (w.heap.size + 2) z ∧ Below w.heap.size w wx)
    case first =>
      refine tF Try.f8 3 (lOrpT7 x y) [] 3 0 ?_ ?_
      · refine ⟨fun _ _ F => gR rfl rfl (arm_loadF rfl (F.k 3 (Value.pointer (some ⟨w.heap.size, 0, none⟩))) (V0.mono F.below)).b, ?_⟩
        refine ⟨fun _ _ F => gR rfl rfl (arm_loadF rfl (F.k 4 (Value.pointer (some ⟨w.heap.size + 1, 0, none⟩))) (V1.mono F.below)).b, ?_⟩
        refine ⟨fun _ _ F => gR rfl rfl (arm_C2 rfl (enters Try.func36 rfl rfl) (F.f 0 rfl) (F.f 1 rfl) (fun va vb w h1 h2 => q_fCmp va vb x y w h1 h2 (hx.mono (by decide)) (hy.mono (by decide))) (fun _ _ h => by have h' : RetV _ _ _ _ := h; rw [K1.out] at h'; exact ofV h')).b, ?_⟩
        refine ⟨fun _ _ F => gR rfl rfl (arm_move (.inr rfl) (F.f 2 rfl)).b, ?_⟩
        exact trivial
      intro E' hE gp wp bp G Gs
      obtain rfl : E' = [] := by simpa [subs] using hE
      have e_3 : gp 3 = Value.int IntKind.i64 1 := G 3 7 _ (by simp) rfl
      clear G Gs hE
      simp only [lOrpT7]
      simp only [qA, setD, qZ, qS, e_3]
      refine wpAny_done (by kernel_rfl) ?_ _
      go_wp2_with fail
      go_meet
      case rel => exact ⟨rfl, (V0.mono bp), (V1.mono bp), (V2.mono bp), (hb1.trans (bp.mono hb1.size))⟩
    case rest =>
    clear V0 V1 V2 hb1
    obtain ⟨rfl, V0, V1, V2, hb1⟩ := hcut
    go_upto_region 4 with (fail)
    go_cut [46] (fun s_46 wx => s_46 = Value.bool false ∧ VarQ wx w.heap.size x ∧ VarQ wx (w.heap.size + 1) y ∧ VarQ wx (w.heap.size + 2) z ∧ Below w.heap.size w wx)
    case first =>
      refine tF Try.f8 4 (lOrpT8 x y) [] 14 0 ?_ ?_
      · refine ⟨fun _ _ F => gR rfl rfl (arm_move (.inl rfl) (F.k 7 (Value.int IntKind.i64 1))).b, ?_⟩
        refine ⟨fun _ _ F => gR rfl rfl (arm_loadF rfl (F.k 3 (Value.pointer (some ⟨w.heap.size, 0, none⟩))) (V0.mono F.below)).b, ?_⟩
        refine ⟨fun _ _ F => gR rfl rfl (arm_loadF rfl (F.k 4 (Value.pointer (some ⟨w.heap.size + 1, 0, none⟩))) (V1.mono F.below)).b, ?_⟩
        refine ⟨fun _ _ F => gR rfl rfl (arm_C2 rfl (enters Try.func34 rfl rfl) (F.f 1 rfl) (F.f 2 rfl) (fun va vb w h1 h2 => q_fSub va vb x y w h1 h2 (hx.mono (by decide)) (hy.mono (by decide))) (fun _ _ h => ofQ h)).b, ?_⟩
        refine ⟨fun _ _ F => gR rfl rfl (arm_C1 rfl (enters Try.func35 rfl rfl) (F.f 3 rfl) (fun va w h1 => q_fSign va (x.sub y) w h1 ((hx.sub hy).mono (by decide))) (fun _ _ h => by have h' : RetV _ _ _ _ := h; rw [K2.out] at h'; exact ofV h')).b, ?_⟩
        refine ⟨fun _ _ F => gR rfl rfl (arm_bin rfl (F.f 0 rfl) (F.f 4 rfl) (fun _ => rfl) (fun _ => rfl)).b, ?_⟩
        refine ⟨fun _ _ F => gR rfl rfl (arm_move (.inl rfl) (F.f 5 rfl)).b, ?_⟩
        refine ⟨fun _ _ F => gG F rfl rfl rfl rfl (arm_loadF rfl (F.k 4 (Value.pointer (some ⟨w.heap.size + 1, 0, none⟩))) (V1.mono F.below)).b, ?_⟩
        refine ⟨fun _ _ F => gG F rfl rfl rfl rfl (arm_loadF rfl (F.k 3 (Value.pointer (some ⟨w.heap.size, 0, none⟩))) (V0.mono F.below)).b, ?_⟩
        refine ⟨fun _ _ F => gG F rfl rfl rfl rfl (arm_C2 rfl (enters Try.func36 rfl rfl) (F.f 7 rfl) (F.f 8 rfl) (fun va vb w h1 h2 => q_fCmp va vb y x w h1 h2 (hy.mono (by decide)) (hx.mono (by decide))) (fun _ _ h => by have h' : RetV _ _ _ _ := h; rw [K3.out] at h'; exact ofV h')).b, ?_⟩
        refine ⟨fun _ _ F => gG F rfl rfl rfl rfl (arm_move (.inl rfl) (F.k 7 (Value.int IntKind.i64 1))).b, ?_⟩
        refine ⟨fun _ _ F => gG F rfl rfl rfl rfl (arm_negI rfl (F.f 10 rfl) (by decide +kernel)).b, ?_⟩
        refine ⟨fun _ _ F => gG F rfl rfl rfl rfl (arm_bin rfl (F.f 9 rfl) (F.f 11 rfl) (fun _ => rfl) (fun _ => rfl)).b, ?_⟩
        refine ⟨fun _ _ F => gR rfl rfl (arm_pick rfl (F.f 6 rfl) (fun h => by cases h) (fun _ => (F.f 12 rfl))).b, ?_⟩
        refine ⟨fun _ _ F => gR rfl rfl (arm_move (.inl rfl) (F.f 13 rfl)).b, ?_⟩
        refine ⟨fun _ _ F => gG F rfl rfl rfl rfl (arm_move (.inl rfl) (F.k 7 (Value.int IntKind.i64 1))).b, ?_⟩
        refine ⟨fun _ _ F => gG F rfl rfl rfl rfl (arm_bin rfl (F.f 15 rfl) Is.const (fun _ => rfl) (fun _ => rfl)).b, ?_⟩
        refine ⟨fun _ _ F => gG F rfl rfl rfl rfl (arm_loadF rfl (F.k 3 (Value.pointer (some ⟨w.heap.size, 0, none⟩))) (V0.mono F.below)).b, ?_⟩
        refine ⟨fun _ _ F => gG F rfl rfl rfl rfl (arm_loadF rfl (F.k 4 (Value.pointer (some ⟨w.heap.size + 1, 0, none⟩))) (V1.mono F.below)).b, ?_⟩
        refine ⟨fun _ _ F => gG F rfl rfl rfl rfl (arm_C2 rfl (enters Try.func16 rfl rfl) (F.f 17 rfl) (F.f 18 rfl) (fun va vb w h1 h2 => q_Same va vb x y w h1 h2 (hx.mono (by decide)) (hy.mono (by decide))) (fun _ _ h => by have h' : RetV _ _ _ _ := h; rw [K4.out] at h'; exact ofV h')).b, ?_⟩
        refine ⟨fun _ _ F => gG F rfl rfl rfl rfl (arm_bin rfl (F.f 16 rfl) (F.f 19 rfl) (fun _ => rfl) (fun _ => rfl)).b, ?_⟩
        refine ⟨fun _ _ F => gR rfl rfl (arm_pick rfl (F.f 14 rfl) (fun h => by cases h) (fun _ => (F.f 20 rfl))).b, ?_⟩
        exact trivial
      intro E' hE gp wp bp G Gs
      obtain rfl : E' = [] := by simpa [subs] using hE
      have e_21 : gp 21 = Value.bool false := G 21 46 _ (by simp) rfl
      clear G Gs hE
      simp only [lOrpT8]
      simp only [qA, setD, qZ, qS, e_21]
      refine wpAny_done (by kernel_rfl) ?_ _
      go_wp2_with fail
      go_meet
      case rel => exact ⟨rfl, (V0.mono bp), (V1.mono bp), (V2.mono bp), (hb1.trans (bp.mono hb1.size))⟩
    case rest =>
    clear V0 V1 V2 hb1
    obtain ⟨rfl, V0, V1, V2, hb1⟩ := hcut
    go_upto_region 6 with (fail)
    go_cut [60] (fun s_60 wx => s_60 = Value.bool false ∧ VarQ wx w.heap.size x ∧ VarQ wx (w.heap.size + 1) y ∧ VarQ wx (w.heap.size + 2) z ∧ Below w.heap.size w wx)
    case first =>
      refine tF Try.f8 6 (lOrpT9 ) [] 12 0 ?_ ?_
      · refine ⟨fun _ _ F => gR rfl rfl (arm_move (.inl rfl) (F.k 7 (Value.int IntKind.i64 1))).b, ?_⟩
        refine ⟨fun _ _ F => gR rfl rfl (arm_bin rfl (F.f 0 rfl) Is.const (fun _ => rfl) (fun _ => rfl)).b, ?_⟩
        refine ⟨fun _ _ F => gR rfl rfl (arm_move (.inl rfl) (F.f 1 rfl)).b, ?_⟩
        refine ⟨fun _ _ F => gS F rfl rfl rfl rfl rfl rfl, ?_⟩
        refine ⟨fun _ _ F => gS F rfl rfl rfl rfl rfl rfl, ?_⟩
        refine ⟨fun _ _ F => gS F rfl rfl rfl rfl rfl rfl, ?_⟩
        refine ⟨fun _ _ F => gS F rfl rfl rfl rfl rfl rfl, ?_⟩
        refine ⟨fun _ _ F => gR rfl rfl (arm_pick rfl (F.f 2 rfl) (fun h => by cases h) (fun _ => Is.const)).b, ?_⟩
        refine ⟨fun _ _ F => gR rfl rfl (arm_move (.inl rfl) (F.f 7 rfl)).b, ?_⟩
        refine ⟨fun _ _ F => gS F rfl rfl rfl rfl rfl rfl, ?_⟩
        refine ⟨fun _ _ F => gS F rfl rfl rfl rfl rfl rfl, ?_⟩
        refine ⟨fun _ _ F => gS F rfl rfl rfl rfl rfl rfl, ?_⟩
        refine ⟨fun _ _ F => gS F rfl rfl rfl rfl rfl rfl, ?_⟩
        refine ⟨fun _ _ F => gR rfl rfl (arm_pick rfl (F.f 8 rfl) (fun h => by cases h) (fun _ => Is.const)).b, ?_⟩
        exact trivial
      intro E' hE gp wp bp G Gs
      obtain rfl : E' = [] := by simpa [subs] using hE
      have e_13 : gp 13 = Value.bool false := G 13 60 _ (by simp) rfl
      clear G Gs hE
      simp only [lOrpT9]
      simp only [qA, setD, qZ, qS, e_13]
      refine wpAny_done (by kernel_rfl) ?_ _
      go_wp2_with fail
      go_meet
      case rel => exact ⟨rfl, (V0.mono bp), (V1.mono bp), (V2.mono bp), (hb1.trans (bp.mono hb1.size))⟩
    case rest =>
    clear V0 V1 V2 hb1
    obtain ⟨rfl, V0, V1, V2, hb1⟩ := hcut
    go_upto_region 8 with (fail)
    go_cut [69] (fun s_69 wx => s_69 = Value.bool false ∧ VarQ wx w.heap.size x ∧ VarQ wx (w.heap.size + 1) y ∧ VarQ wx (w.heap.size + 2) z ∧ Below w.heap.size w wx)
    case first =>
      refine tG Try.f8 8 (lOrpT10 x y z) [] 5 0 ?_ ?_
      · refine ⟨fun _ _ F => gR rfl rfl (arm_loadF rfl (F.k 3 (Value.pointer (some ⟨w.heap.size, 0, none⟩))) (V0.mono F.below)).b, ?_⟩
        refine ⟨fun _ _ F => gR rfl rfl (arm_loadF rfl (F.k 5 (Value.pointer (some ⟨w.heap.size + 2, 0, none⟩))) (V2.mono F.below)).b, ?_⟩
        refine ⟨fun _ _ F => gR rfl rfl (arm_C2 rfl (enters Try.func37 rfl rfl) (F.f 0 rfl) (F.f 1 rfl) (fun va vb w h1 h2 => q_fAdd va vb x z w h1 h2 (hx.mono (by decide)) (hz.mono (by decide))) (fun _ _ h => ofQ h)).b, ?_⟩
        refine ⟨fun _ _ F => gR rfl rfl (arm_loadF rfl (F.k 4 (Value.pointer (some ⟨w.heap.size + 1, 0, none⟩))) (V1.mono F.below)).b, ?_⟩
        refine ⟨fun _ _ F => gR rfl rfl (arm_loadF rfl (F.k 5 (Value.pointer (some ⟨w.heap.size + 2, 0, none⟩))) (V2.mono F.below)).b, ?_⟩
        refine ⟨fun _ _ F => gR rfl rfl (arm_C2 rfl (enters Try.func37 rfl rfl) (F.f 3 rfl) (F.f 4 rfl) (fun va vb w h1 h2 => q_fAdd va vb y z w h1 h2 (hy.mono (by decide)) (hz.mono (by decide))) (fun _ _ h => ofQ h)).b, ?_⟩
        refine ⟨fun _ _ F => gR rfl rfl (arm_C2 rfl (enters Try.func36 rfl rfl) (F.f 2 rfl) (F.f 5 rfl) (fun va vb w h1 h2 => q_fCmp va vb (x.add z) (y.add z) w h1 h2 ((hx.add hz).mono (by decide)) ((hy.add hz).mono (by decide))) (fun _ _ h => by have h' : RetV _ _ _ _ := h; rw [K5.out] at h'; exact ofV h')).b, ?_⟩
        refine ⟨fun _ _ F => gR rfl rfl (arm_move (.inl rfl) (F.k 7 (Value.int IntKind.i64 1))).b, ?_⟩
        refine ⟨fun _ _ F => gR rfl rfl (arm_bin rfl (F.f 6 rfl) (F.f 7 rfl) (fun _ => rfl) (fun _ => rfl)).b, ?_⟩
        exact trivial
      intro E' hE gp wp bp G Gs
      obtain rfl : E' = [] := by simpa [subs] using hE
      have e_8 : gp 8 = Value.bool false := G 8 69 _ (by simp) rfl
      clear G Gs hE
      simp only [lOrpT10]
      simp only [qA, setD, qZ, qS, e_8]
      refine wpAny_done (by kernel_rfl) ?_ _
      go_wp2_with fail
      go_meet
      case rel => exact ⟨rfl, (V0.mono bp), (V1.mono bp), (V2.mono bp), (hb1.trans (bp.mono hb1.size))⟩
    case rest =>
    clear V0 V1 V2 hb1
    obtain ⟨rfl, V0, V1, V2, hb1⟩ := hcut
    go_upto_region 10 with (fail)
    go_cut [6] (fun s_6 wx => s_6 = Value.bool true ∧ VarQ wx w.heap.size x ∧ VarQ wx (w.heap.size + 1) y ∧ VarQ wx (w.heap.size + 2) z ∧ Below w.heap.size w wx)
    case first =>
      refine tG Try.f8 10 (lOrpT11 x y z s) [] 14 0 ?_ ?_
      · refine ⟨fun _ _ F => gR rfl rfl (arm_loadF rfl (F.k 5 (Value.pointer (some ⟨w.heap.size + 2, 0, none⟩))) (V2.mono F.below)).b, ?_⟩
        refine ⟨fun _ _ F => gR rfl rfl (arm_C1 rfl (enters Try.func35 rfl rfl) (F.f 0 rfl) (fun va w h1 => q_fSign va z w h1 (hz.mono (by decide))) (fun _ _ h => by have h' : RetV _ _ _ _ := h; rw [hs.out] at h'; exact ofV h')).b, ?_⟩
        refine ⟨fun _ _ F => gR rfl rfl (arm_bin rfl (F.f 1 rfl) Is.const (fun _ => rfl) (fun w => by rw [A1.out]; rfl)).b, ?_⟩
        refine ⟨fun _ _ F => gR rfl rfl (arm_move (.inl rfl) (F.f 2 rfl)).b, ?_⟩
        refine ⟨fun _ _ F => gG F rfl rfl rfl rfl (arm_loadF rfl (F.k 3 (Value.pointer (some ⟨w.heap.size, 0, none⟩))) (V0.mono F.below)).b, ?_⟩
        refine ⟨fun _ _ F => gG F rfl rfl rfl rfl (arm_loadF rfl (F.k 5 (Value.pointer (some ⟨w.heap.size + 2, 0, none⟩))) (V2.mono F.below)).b, ?_⟩
        refine ⟨fun _ _ F => gG F rfl rfl rfl rfl (arm_C2 rfl (enters Try.func38 rfl rfl) (F.f 4 rfl) (F.f 5 rfl) (fun va vb w h1 h2 => q_fMul va vb x z w h1 h2 (hx.mono (by decide)) (hz.mono (by decide))) (fun _ _ h => ofQ h)).b, ?_⟩
        refine ⟨fun _ _ F => gG F rfl rfl rfl rfl (arm_loadF rfl (F.k 4 (Value.pointer (some ⟨w.heap.size + 1, 0, none⟩))) (V1.mono F.below)).b, ?_⟩
        refine ⟨fun _ _ F => gG F rfl rfl rfl rfl (arm_loadF rfl (F.k 5 (Value.pointer (some ⟨w.heap.size + 2, 0, none⟩))) (V2.mono F.below)).b, ?_⟩
        refine ⟨fun _ _ F => gG F rfl rfl rfl rfl (arm_C2 rfl (enters Try.func38 rfl rfl) (F.f 7 rfl) (F.f 8 rfl) (fun va vb w h1 h2 => q_fMul va vb y z w h1 h2 (hy.mono (by decide)) (hz.mono (by decide))) (fun _ _ h => ofQ h)).b, ?_⟩
        refine ⟨fun _ _ F => gG F rfl rfl rfl rfl (arm_C2 rfl (enters Try.func36 rfl rfl) (F.f 6 rfl) (F.f 9 rfl) (fun va vb w h1 h2 => q_fCmp va vb (x.mul z) (y.mul z) w h1 h2 ((hx.mul hz).mono (by decide)) ((hy.mul hz).mono (by decide))) (fun _ _ h => by have h' : RetV _ _ _ _ := h; rw [A2.out] at h'; exact ofV h')).b, ?_⟩
        refine ⟨fun _ _ F => gG F rfl rfl rfl rfl (arm_move (.inl rfl) (F.k 7 (Value.int IntKind.i64 1))).b, ?_⟩
        refine ⟨fun _ _ F => gG F rfl rfl rfl rfl (arm_bin rfl (F.f 10 rfl) (F.f 11 rfl) (fun _ => rfl) (fun _ => rfl)).b, ?_⟩
        refine ⟨fun _ _ F => gR rfl rfl (arm_pick rfl (F.f 3 rfl) (fun h => by cases h) (fun _ => (F.f 12 rfl))).b, ?_⟩
        refine ⟨fun _ _ F => gR rfl rfl (arm_move (.inl rfl) (F.f 13 rfl)).b, ?_⟩
        refine ⟨fun _ _ F => gG F rfl rfl rfl rfl (arm_C0 rfl (enters Try.func11 rfl rfl)  (fun w => c_awake2 w) (fun _ _ h => ofV h)).b, ?_⟩
        refine ⟨fun _ _ F => gR rfl rfl (arm_pick rfl (F.f 14 rfl) (fun _ => (F.f 15 rfl)) (fun h => by cases h)).b, ?_⟩
        refine ⟨fun _ _ F => gR rfl rfl (arm_move (.inr rfl) (F.f 16 rfl)).b, ?_⟩
        exact trivial
      intro E' hE gp wp bp G Gs
      obtain rfl : E' = [] := by simpa [subs] using hE
      have e_17 : gp 17 = Value.bool true := G 17 6 _ (by simp) rfl
      clear G Gs hE
      simp only [lOrpT11]
      simp only [qA, setD, qZ, qS, e_17]
      refine wpAny_done (by kernel_rfl) ?_ _
      go_wp2_with fail
      go_meet
      case rel => exact ⟨rfl, (V0.mono bp), (V1.mono bp), (V2.mono bp), (hb1.trans (bp.mono hb1.size))⟩
    case rest =>
    clear V0 V1 V2 hb1
    obtain ⟨rfl, V0, V1, V2, hb1⟩ := hcut
    go_wp2
    go_ret
    exact ⟨rfl, hb1⟩
theorem c_lOrT (vx vy vz : Value) (x y z : Fq) (w : World) (ix : IsQ w vx x) (iy : IsQ w vy y) (iz : IsQ w vz z) (hx : x.ok 12) (ex : x.valid = true) (hy : y.ok 12) (ey : y.valid = true) (hz : z.ok 12) (ez : z.valid = true) :
    Calls Try.prog 8 #[vx, vy, vz] w fun e w' => RetV w (.bool true) e w' := by
  rcases sgn_range (x.sub y) with h | h | h
  · exact c_lOrm vx vy vz x y z w ix iy iz hx ex hy ey hz ez h
  · exact c_lOrz vx vy vz x y z w ix iy iz hx ex hy ey hz ez h
  · exact c_lOrp vx vy vz x y z w ix iy iz hx ex hy ey hz ez h
def lOrUT0 (sx : Bool) (Lx : Nat) (px : Nat) (Nx : Nat) (qx : Nat) (sy : Bool) (Ly : Nat) (py : Nat) (Ny : Nat) (qy : Nat) (sz : Bool) (Lz : Nat) (pz : Nat) (Nz : Nat) (qz : Nat) : List (Nat × Tmp × Sp) :=
   [(0, 8, .frR sx Lx px Nx qx),
    (1, 9, .val (Value.bool true)),
    (2, 10, .val (Value.bool false)),
    (3, 11, .val (Value.bool false)),
    (4, 12, .frR sy Ly py Ny qy),
    (5, 13, .val (Value.bool true)),
    (6, 14, .val (Value.bool false)),
    (7, 15, .val (Value.bool false)),
    (8, 16, .val (Value.bool false)),
    (9, 17, .frR sz Lz pz Nz qz),
    (10, 18, .val (Value.bool false)),
    (11, 19, .val (Value.bool true)),
    (12, 20, .val (Value.bool true))]
def lOrUT1  : List (Nat × Tmp × Sp) :=
   [(0, 21, .val (Value.bool true)),
    (1, 6, .val (Value.bool true))]
def lOrUT2 (sx : Bool) (Lx : Nat) (px : Nat) (Nx : Nat) (qx : Nat) (sy : Bool) (Ly : Nat) (py : Nat) (Ny : Nat) (qy : Nat) : List (Nat × Tmp × Sp) :=
   [(0, 8, .frR sx Lx px Nx qx),
    (1, 9, .val (Value.bool true)),
    (2, 10, .val (Value.bool false)),
    (3, 11, .val (Value.bool false)),
    (4, 12, .frR sy Ly py Ny qy),
    (5, 13, .val (Value.bool false)),
    (6, 14, .val (Value.bool true)),
    (7, 15, .val (Value.bool true)),
    (8, 16, .val (Value.bool true)),
    (9, 17, .val undef),
    (10, 18, .val undef),
    (11, 19, .val undef),
    (12, 20, .val (Value.bool true))]
def lOrUT3  : List (Nat × Tmp × Sp) :=
   [(0, 21, .val (Value.bool true)),
    (1, 6, .val (Value.bool true))]
def lOrUT4 (sx : Bool) (Lx : Nat) (px : Nat) (Nx : Nat) (qx : Nat) : List (Nat × Tmp × Sp) :=
   [(0, 8, .frR sx Lx px Nx qx),
    (1, 9, .val (Value.bool false)),
    (2, 10, .val (Value.bool true)),
    (3, 11, .val (Value.bool true)),
    (4, 12, .val undef),
    (5, 13, .val undef),
    (6, 14, .val undef),
    (7, 15, .val (Value.bool true)),
    (8, 16, .val (Value.bool true)),
    (9, 17, .val undef),
    (10, 18, .val undef),
    (11, 19, .val undef),
    (12, 20, .val (Value.bool true))]
def lOrUT5  : List (Nat × Tmp × Sp) :=
   [(0, 21, .val (Value.bool true)),
    (1, 6, .val (Value.bool true))]
set_option maxHeartbeats 4000000 in
theorem c_lOrU (vx : Value) (sx : Bool) (Lx px Nx qx : Nat) (vy : Value) (sy : Bool) (Ly py Ny qy : Nat) (vz : Value) (sz : Bool) (Lz pz Nz qz : Nat) (w : World) (ix : IsFR w vx sx Lx px Nx qx) (iy : IsFR w vy sy Ly py Ny qy) (iz : IsFR w vz sz Lz pz Nz qz) (hn : ¬(FitP sx Lx px Nx qx ∧ FitP sy Ly py Ny qy ∧ FitP sz Lz pz Nz qz)) :
    Calls Try.prog 8 #[vx, vy, vz] w fun e w' => RetV w (.bool true) e w' := by
  by_cases fx : FitP sx Lx px Nx qx
  · by_cases fy : FitP sy Ly py Ny qy
    · have fz : ¬ FitP sz Lz pz Nz qz := fun h9 => hn ⟨fx, fy, h9⟩
      clear hn
      obtain ⟨a0, c0, b0, d0, rfl, m0, k0⟩ := boxR ix
      obtain ⟨a1, c1, b1, d1, rfl, m1, k1⟩ := boxR (iy.mono m0)
      rw [World.size_alloc ] at k1
      have n1 := m0.trans (m1.mono m0.size)
      obtain ⟨a2, c2, b2, d2, rfl, m2, k2⟩ := boxR (iz.mono n1)
      rw [World.size_alloc, World.size_alloc ] at k2
      have n2 := n1.trans (m2.mono n1.size)
      clear ix iy iz
      go_enter Try.func8, Try.ntmps8
      go_upto_region 0 with (fail)
      go_cut [3, 4, 5, 6] (fun s_3 s_4 s_5 s_6 wx => s_3 = Value.pointer (some ⟨w.heap.size, 0, none⟩) ∧ s_4 = Value.pointer (some ⟨w.heap.size + 1, 0, none⟩) ∧ s_5 = Value.pointer (some ⟨w.heap.size + 2, 0, none⟩) ∧ s_6 = Value.bool false ∧ VarFR wx w.heap.size sx Lx px Nx qx ∧ VarFR wx (w.heap.size + 1) sy Ly py Ny qy ∧ VarFR wx (w.heap.size + 2) sz Lz pz Nz qz ∧ Below w.heap.size w wx)
      case first =>
        go_wp2_with fail
        go_meet
        case rel => exact ⟨rfl, rfl, rfl, rfl, ((k0.mono m1).mono m2), (k1.mono m2), k2, n2⟩
      case rest =>
      clear m0 k0 m1 k1 m2 k2 n1 n2
      obtain ⟨rfl, rfl, rfl, rfl, V0, V1, V2, hb1⟩ := hcut
      go_upto_region 1 with (fail)
      go_cut [20] (fun s_20 wx => s_20 = Value.bool true ∧ VarFR wx w.heap.size sx Lx px Nx qx ∧ VarFR wx (w.heap.size + 1) sy Ly py Ny qy ∧ VarFR wx (w.heap.size + 2) sz Lz pz Nz qz ∧ Below w.heap.size w wx)
      case first =>
        refine tF Try.f8 1 (lOrUT0 sx Lx px Nx qx sy Ly py Ny qy sz Lz pz Nz qz) [] 13 0 ?_ ?_
        · refine ⟨fun _ _ F => gR rfl rfl (arm_loadFR rfl (F.k 3 (Value.pointer (some ⟨w.heap.size, 0, none⟩))) (V0.mono F.below)).b, ?_⟩
          refine ⟨fun _ _ F => gR rfl rfl (arm_C1 rfl (enters Try.func18 rfl rfl) (F.f 0 rfl) (fun va w h1 => q_fitT va sx Lx px Nx qx w h1 fx) (fun _ _ h => ofV h)).b, ?_⟩
          refine ⟨fun _ _ F => gR rfl rfl (arm_not rfl (F.f 1 rfl)).b, ?_⟩
          refine ⟨fun _ _ F => gR rfl rfl (arm_move (.inl rfl) (F.f 2 rfl)).b, ?_⟩
          refine ⟨fun _ _ F => gG F rfl rfl rfl rfl (arm_loadFR rfl (F.k 4 (Value.pointer (some ⟨w.heap.size + 1, 0, none⟩))) (V1.mono F.below)).b, ?_⟩
          refine ⟨fun _ _ F => gG F rfl rfl rfl rfl (arm_C1 rfl (enters Try.func18 rfl rfl) (F.f 4 rfl) (fun va w h1 => q_fitT va sy Ly py Ny qy w h1 fy) (fun _ _ h => ofV h)).b, ?_⟩
          refine ⟨fun _ _ F => gG F rfl rfl rfl rfl (arm_not rfl (F.f 5 rfl)).b, ?_⟩
          refine ⟨fun _ _ F => gR rfl rfl (arm_pick rfl (F.f 3 rfl) (fun h => by cases h) (fun _ => (F.f 6 rfl))).b, ?_⟩
          refine ⟨fun _ _ F => gR rfl rfl (arm_move (.inl rfl) (F.f 7 rfl)).b, ?_⟩
          refine ⟨fun _ _ F => gG F rfl rfl rfl rfl (arm_loadFR rfl (F.k 5 (Value.pointer (some ⟨w.heap.size + 2, 0, none⟩))) (V2.mono F.below)).b, ?_⟩
          refine ⟨fun _ _ F => gG F rfl rfl rfl rfl (arm_C1 rfl (enters Try.func18 rfl rfl) (F.f 9 rfl) (fun va w h1 => q_fitF va sz Lz pz Nz qz w h1 fz) (fun _ _ h => ofV h)).b, ?_⟩
          refine ⟨fun _ _ F => gG F rfl rfl rfl rfl (arm_not rfl (F.f 10 rfl)).b, ?_⟩
          refine ⟨fun _ _ F => gR rfl rfl (arm_pick rfl (F.f 8 rfl) (fun h => by cases h) (fun _ => (F.f 11 rfl))).b, ?_⟩
          exact trivial
        intro E' hE gp wp bp G Gs
        obtain rfl : E' = [] := by simpa [subs] using hE
        have e_12 : gp 12 = Value.bool true := G 12 20 _ (by simp) rfl
        clear G Gs hE
        simp only [lOrUT0]
        simp only [qA, setD, qZ, qS, e_12]
        refine wpAny_done (by kernel_rfl) ?_ _
        go_wp2_with fail
        go_meet
        case rel => exact ⟨rfl, (V0.mono bp), (V1.mono bp), (V2.mono bp), (hb1.trans (bp.mono hb1.size))⟩
      case rest =>
      clear V0 V1 V2 hb1
      obtain ⟨rfl, V0, V1, V2, hb1⟩ := hcut
      go_upto_region 2 with (fail)
      go_cut [6] (fun s_6 wx => s_6 = Value.bool true ∧ VarFR wx w.heap.size sx Lx px Nx qx ∧ VarFR wx (w.heap.size + 1) sy Ly py Ny qy ∧ VarFR wx (w.heap.size + 2) sz Lz pz Nz qz ∧ Below w.heap.size w wx)
      case first =>
        refine tF Try.f8 2 (lOrUT1 ) [] 2 0 ?_ ?_
        · refine ⟨fun _ _ F => gR rfl rfl (arm_C0 rfl (enters Try.func11 rfl rfl)  (fun w => c_awake2 w) (fun _ _ h => ofV h)).b, ?_⟩
          refine ⟨fun _ _ F => gR rfl rfl (arm_move (.inr rfl) (F.f 0 rfl)).b, ?_⟩
          exact trivial
        intro E' hE gp wp bp G Gs
        obtain rfl : E' = [] := by simpa [subs] using hE
        have e_1 : gp 1 = Value.bool true := G 1 6 _ (by simp) rfl
        clear G Gs hE
        simp only [lOrUT1]
        simp only [qA, setD, qZ, qS, e_1]
        refine wpAny_done (by kernel_rfl) ?_ _
        go_wp2_with fail
        go_meet
        case rel => exact ⟨rfl, (V0.mono bp), (V1.mono bp), (V2.mono bp), (hb1.trans (bp.mono hb1.size))⟩
      case rest =>
      clear V0 V1 V2 hb1
      obtain ⟨rfl, V0, V1, V2, hb1⟩ := hcut
      go_wp2
      go_ret
      exact ⟨rfl, hb1⟩
    · clear hn
      obtain ⟨a0, c0, b0, d0, rfl, m0, k0⟩ := boxR ix
      obtain ⟨a1, c1, b1, d1, rfl, m1, k1⟩ := boxR (iy.mono m0)
      rw [World.size_alloc ] at k1
      have n1 := m0.trans (m1.mono m0.size)
      obtain ⟨a2, c2, b2, d2, rfl, m2, k2⟩ := boxR (iz.mono n1)
      rw [World.size_alloc, World.size_alloc ] at k2
      have n2 := n1.trans (m2.mono n1.size)
      clear ix iy iz
      go_enter Try.func8, Try.ntmps8
      go_upto_region 0 with (fail)
      go_cut [3, 4, 5, 6] (fun s_3 s_4 s_5 s_6 wx => s_3 = Value.pointer (some ⟨w.heap.size, 0, none⟩) ∧ s_4 = Value.pointer (some ⟨w.heap.size + 1, 0, none⟩) ∧ s_5 = Value.pointer (some ⟨w.heap.size + 2, 0, none⟩) ∧ s_6 = Value.bool false ∧ VarFR wx w.heap.size sx Lx px Nx qx ∧ VarFR wx (w.heap.size + 1) sy Ly py Ny qy ∧ VarFR wx (w.heap.size + 2) sz Lz pz Nz qz ∧ Below w.heap.size w wx)
      case first =>
        go_wp2_with fail
        go_meet
        case rel => exact ⟨rfl, rfl, rfl, rfl, ((k0.mono m1).mono m2), (k1.mono m2), k2, n2⟩
      case rest =>
      clear m0 k0 m1 k1 m2 k2 n1 n2
      obtain ⟨rfl, rfl, rfl, rfl, V0, V1, V2, hb1⟩ := hcut
      go_upto_region 1 with (fail)
      go_cut [20] (fun s_20 wx => s_20 = Value.bool true ∧ VarFR wx w.heap.size sx Lx px Nx qx ∧ VarFR wx (w.heap.size + 1) sy Ly py Ny qy ∧ VarFR wx (w.heap.size + 2) sz Lz pz Nz qz ∧ Below w.heap.size w wx)
      case first =>
        refine tF Try.f8 1 (lOrUT2 sx Lx px Nx qx sy Ly py Ny qy) [] 13 0 ?_ ?_
        · refine ⟨fun _ _ F => gR rfl rfl (arm_loadFR rfl (F.k 3 (Value.pointer (some ⟨w.heap.size, 0, none⟩))) (V0.mono F.below)).b, ?_⟩
          refine ⟨fun _ _ F => gR rfl rfl (arm_C1 rfl (enters Try.func18 rfl rfl) (F.f 0 rfl) (fun va w h1 => q_fitT va sx Lx px Nx qx w h1 fx) (fun _ _ h => ofV h)).b, ?_⟩
          refine ⟨fun _ _ F => gR rfl rfl (arm_not rfl (F.f 1 rfl)).b, ?_⟩
          refine ⟨fun _ _ F => gR rfl rfl (arm_move (.inl rfl) (F.f 2 rfl)).b, ?_⟩
          refine ⟨fun _ _ F => gG F rfl rfl rfl rfl (arm_loadFR rfl (F.k 4 (Value.pointer (some ⟨w.heap.size + 1, 0, none⟩))) (V1.mono F.below)).b, ?_⟩
          refine ⟨fun _ _ F => gG F rfl rfl rfl rfl (arm_C1 rfl (enters Try.func18 rfl rfl) (F.f 4 rfl) (fun va w h1 => q_fitF va sy Ly py Ny qy w h1 fy) (fun _ _ h => ofV h)).b, ?_⟩
          refine ⟨fun _ _ F => gG F rfl rfl rfl rfl (arm_not rfl (F.f 5 rfl)).b, ?_⟩
          refine ⟨fun _ _ F => gR rfl rfl (arm_pick rfl (F.f 3 rfl) (fun h => by cases h) (fun _ => (F.f 6 rfl))).b, ?_⟩
          refine ⟨fun _ _ F => gR rfl rfl (arm_move (.inl rfl) (F.f 7 rfl)).b, ?_⟩
          refine ⟨fun _ _ F => gS F rfl rfl rfl rfl rfl rfl, ?_⟩
          refine ⟨fun _ _ F => gS F rfl rfl rfl rfl rfl rfl, ?_⟩
          refine ⟨fun _ _ F => gS F rfl rfl rfl rfl rfl rfl, ?_⟩
          refine ⟨fun _ _ F => gR rfl rfl (arm_pick rfl (F.f 8 rfl) (fun _ => Is.const) (fun h => by cases h)).b, ?_⟩
          exact trivial
        intro E' hE gp wp bp G Gs
        obtain rfl : E' = [] := by simpa [subs] using hE
        have e_12 : gp 12 = Value.bool true := G 12 20 _ (by simp) rfl
        clear G Gs hE
        simp only [lOrUT2]
        simp only [qA, setD, qZ, qS, e_12]
        refine wpAny_done (by kernel_rfl) ?_ _
        go_wp2_with fail
        go_meet
        case rel => exact ⟨rfl, (V0.mono bp), (V1.mono bp), (V2.mono bp), (hb1.trans (bp.mono hb1.size))⟩
      case rest =>
      clear V0 V1 V2 hb1
      obtain ⟨rfl, V0, V1, V2, hb1⟩ := hcut
      go_upto_region 2 with (fail)
      go_cut [6] (fun s_6 wx => s_6 = Value.bool true ∧ VarFR wx w.heap.size sx Lx px Nx qx ∧ VarFR wx (w.heap.size + 1) sy Ly py Ny qy ∧ VarFR wx (w.heap.size + 2) sz Lz pz Nz qz ∧ Below w.heap.size w wx)
      case first =>
        refine tF Try.f8 2 (lOrUT3 ) [] 2 0 ?_ ?_
        · refine ⟨fun _ _ F => gR rfl rfl (arm_C0 rfl (enters Try.func11 rfl rfl)  (fun w => c_awake2 w) (fun _ _ h => ofV h)).b, ?_⟩
          refine ⟨fun _ _ F => gR rfl rfl (arm_move (.inr rfl) (F.f 0 rfl)).b, ?_⟩
          exact trivial
        intro E' hE gp wp bp G Gs
        obtain rfl : E' = [] := by simpa [subs] using hE
        have e_1 : gp 1 = Value.bool true := G 1 6 _ (by simp) rfl
        clear G Gs hE
        simp only [lOrUT3]
        simp only [qA, setD, qZ, qS, e_1]
        refine wpAny_done (by kernel_rfl) ?_ _
        go_wp2_with fail
        go_meet
        case rel => exact ⟨rfl, (V0.mono bp), (V1.mono bp), (V2.mono bp), (hb1.trans (bp.mono hb1.size))⟩
      case rest =>
      clear V0 V1 V2 hb1
      obtain ⟨rfl, V0, V1, V2, hb1⟩ := hcut
      go_wp2
      go_ret
      exact ⟨rfl, hb1⟩
  · clear hn
    obtain ⟨a0, c0, b0, d0, rfl, m0, k0⟩ := boxR ix
    obtain ⟨a1, c1, b1, d1, rfl, m1, k1⟩ := boxR (iy.mono m0)
    rw [World.size_alloc ] at k1
    have n1 := m0.trans (m1.mono m0.size)
    obtain ⟨a2, c2, b2, d2, rfl, m2, k2⟩ := boxR (iz.mono n1)
    rw [World.size_alloc, World.size_alloc ] at k2
    have n2 := n1.trans (m2.mono n1.size)
    clear ix iy iz
    go_enter Try.func8, Try.ntmps8
    go_upto_region 0 with (fail)
    go_cut [3, 4, 5, 6] (fun s_3 s_4 s_5 s_6 wx => s_3 = Value.pointer (some ⟨w.heap.size, 0, none⟩) ∧ s_4 = Value.pointer (some ⟨w.heap.size + 1, 0, none⟩) ∧ s_5 = Value.pointer (some ⟨w.heap.size + 2, 0, none⟩) ∧ s_6 = Value.bool false ∧ VarFR wx w.heap.size sx Lx px Nx qx ∧ VarFR wx (w.heap.size + 1) sy Ly py Ny qy ∧ VarFR wx (w.heap.size + 2) sz Lz pz Nz qz ∧ Below w.heap.size w wx)
    case first =>
      go_wp2_with fail
      go_meet
      case rel => exact ⟨rfl, rfl, rfl, rfl, ((k0.mono m1).mono m2), (k1.mono m2), k2, n2⟩
    case rest =>
    clear m0 k0 m1 k1 m2 k2 n1 n2
    obtain ⟨rfl, rfl, rfl, rfl, V0, V1, V2, hb1⟩ := hcut
    go_upto_region 1 with (fail)
    go_cut [20] (fun s_20 wx => s_20 = Value.bool true ∧ VarFR wx w.heap.size sx Lx px Nx qx ∧ VarFR wx (w.heap.size + 1) sy Ly py Ny qy ∧ VarFR wx (w.heap.size + 2) sz Lz pz Nz qz ∧ Below w.heap.size w wx)
    case first =>
      refine tF Try.f8 1 (lOrUT4 sx Lx px Nx qx) [] 13 0 ?_ ?_
      · refine ⟨fun _ _ F => gR rfl rfl (arm_loadFR rfl (F.k 3 (Value.pointer (some ⟨w.heap.size, 0, none⟩))) (V0.mono F.below)).b, ?_⟩
        refine ⟨fun _ _ F => gR rfl rfl (arm_C1 rfl (enters Try.func18 rfl rfl) (F.f 0 rfl) (fun va w h1 => q_fitF va sx Lx px Nx qx w h1 fx) (fun _ _ h => ofV h)).b, ?_⟩
        refine ⟨fun _ _ F => gR rfl rfl (arm_not rfl (F.f 1 rfl)).b, ?_⟩
        refine ⟨fun _ _ F => gR rfl rfl (arm_move (.inl rfl) (F.f 2 rfl)).b, ?_⟩
        refine ⟨fun _ _ F => gS F rfl rfl rfl rfl rfl rfl, ?_⟩
        refine ⟨fun _ _ F => gS F rfl rfl rfl rfl rfl rfl, ?_⟩
        refine ⟨fun _ _ F => gS F rfl rfl rfl rfl rfl rfl, ?_⟩
        refine ⟨fun _ _ F => gR rfl rfl (arm_pick rfl (F.f 3 rfl) (fun _ => Is.const) (fun h => by cases h)).b, ?_⟩
        refine ⟨fun _ _ F => gR rfl rfl (arm_move (.inl rfl) (F.f 7 rfl)).b, ?_⟩
        refine ⟨fun _ _ F => gS F rfl rfl rfl rfl rfl rfl, ?_⟩
        refine ⟨fun _ _ F => gS F rfl rfl rfl rfl rfl rfl, ?_⟩
        refine ⟨fun _ _ F => gS F rfl rfl rfl rfl rfl rfl, ?_⟩
        refine ⟨fun _ _ F => gR rfl rfl (arm_pick rfl (F.f 8 rfl) (fun _ => Is.const) (fun h => by cases h)).b, ?_⟩
        exact trivial
      intro E' hE gp wp bp G Gs
      obtain rfl : E' = [] := by simpa [subs] using hE
      have e_12 : gp 12 = Value.bool true := G 12 20 _ (by simp) rfl
      clear G Gs hE
      simp only [lOrUT4]
      simp only [qA, setD, qZ, qS, e_12]
      refine wpAny_done (by kernel_rfl) ?_ _
      go_wp2_with fail
      go_meet
      case rel => exact ⟨rfl, (V0.mono bp), (V1.mono bp), (V2.mono bp), (hb1.trans (bp.mono hb1.size))⟩
    case rest =>
    clear V0 V1 V2 hb1
    obtain ⟨rfl, V0, V1, V2, hb1⟩ := hcut
    go_upto_region 2 with (fail)
    go_cut [6] (fun s_6 wx => s_6 = Value.bool true ∧ VarFR wx w.heap.size sx Lx px Nx qx ∧ VarFR wx (w.heap.size + 1) sy Ly py Ny qy ∧ VarFR wx (w.heap.size + 2) sz Lz pz Nz qz ∧ Below w.heap.size w wx)
    case first =>
      refine tF Try.f8 2 (lOrUT5 ) [] 2 0 ?_ ?_
      · refine ⟨fun _ _ F => gR rfl rfl (arm_C0 rfl (enters Try.func11 rfl rfl)  (fun w => c_awake2 w) (fun _ _ h => ofV h)).b, ?_⟩
        refine ⟨fun _ _ F => gR rfl rfl (arm_move (.inr rfl) (F.f 0 rfl)).b, ?_⟩
        exact trivial
      intro E' hE gp wp bp G Gs
      obtain rfl : E' = [] := by simpa [subs] using hE
      have e_1 : gp 1 = Value.bool true := G 1 6 _ (by simp) rfl
      clear G Gs hE
      simp only [lOrUT5]
      simp only [qA, setD, qZ, qS, e_1]
      refine wpAny_done (by kernel_rfl) ?_ _
      go_wp2_with fail
      go_meet
      case rel => exact ⟨rfl, (V0.mono bp), (V1.mono bp), (V2.mono bp), (hb1.trans (bp.mono hb1.size))⟩
    case rest =>
    clear V0 V1 V2 hb1
    obtain ⟨rfl, V0, V1, V2, hb1⟩ := hcut
    go_wp2
    go_ret
    exact ⟨rfl, hb1⟩
theorem c_FractionOrders (vx : Value) (sx : Bool) (Lx px Nx qx : Nat) (vy : Value) (sy : Bool) (Ly py Ny qy : Nat) (vz : Value) (sz : Bool) (Lz pz Nz qz : Nat) (w : World) (ix : IsFR w vx sx Lx px Nx qx) (iy : IsFR w vy sy Ly py Ny qy) (iz : IsFR w vz sz Lz pz Nz qz) :
    Calls Try.prog 8 #[vx, vy, vz] w fun e w' => RetV w (.bool true) e w' := by
  by_cases hn : FitP sx Lx px Nx qx ∧ FitP sy Ly py Ny qy ∧ FitP sz Lz pz Nz qz
  · obtain ⟨fx, fy, fz⟩ := hn
    obtain ⟨x, jx, hx, ex⟩ := FitP.split fx ix
    obtain ⟨y, jy, hy, ey⟩ := FitP.split fy iy
    obtain ⟨z, jz, hz, ez⟩ := FitP.split fz iz
    exact c_lOrT vx vy vz x y z w jx jy jz hx ex hy ey hz ez
  · exact c_lOrU vx sx Lx px Nx qx vy sy Ly py Ny qy vz sz Lz pz Nz qz w ix iy iz hn
end Go.Proofs.Ytldnimohnbjfaaa
