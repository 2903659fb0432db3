/- The law FractionLerps. -/
import Derived.Test.YtldnimohnbjfaaaP16
namespace Go.Proofs.Ytldnimohnbjfaaa
set_option linter.unusedSimpArgs false
set_option linter.unusedVariables false
set_option maxRecDepth 100000
open Go.RowKit
def lLeT0 (x : Fq) (y : Fq) (z : Fq) : List (Nat × Tmp × Sp) :=
   [(0, 8, .fq x),
    (1, 9, .val (Value.bool true)),
    (2, 10, .val (Value.bool false)),
    (3, 11, .val (Value.bool false)),
    (4, 12, .fq y),
    (5, 13, .val (Value.bool true)),
    (6, 14, .val (Value.bool false)),
    (7, 15, .val (Value.bool false)),
    (8, 16, .val (Value.bool false)),
    (9, 17, .fq z),
    (10, 18, .val (Value.bool true)),
    (11, 19, .val (Value.bool false)),
    (12, 20, .val (Value.bool false))]
def lLeT1 (x : Fq) (y : Fq) (z : Fq) (base : Nat) : List (Nat × Tmp × Sp) :=
   [(0, 22, .fq x),
    (1, 23, .fq y),
    (2, 24, .fq z),
    (3, 25, .fq (x.lerp y z)),
    (4, 7, .varF base)]
def lLeT2 (x : Fq) (y : Fq) (z : Fq) : List (Nat × Tmp × Sp) :=
   [(0, 26, .fq (x.lerp y z)),
    (1, 27, .fq x),
    (2, 28, .fq y),
    (3, 29, .fq z),
    (4, 30, .fq (x.lerp y z)),
    (5, 31, .val (Value.bool true)),
    (6, 32, .val (Value.bool false)),
    (7, 33, .val (Value.bool false)),
    (8, 34, .fq x),
    (9, 35, .fq y),
    (10, 36, .fq (Fq.ofInt 0)),
    (11, 37, .fq (x.lerp y (Fq.ofInt 0))),
    (12, 38, .fq x),
    (13, 39, .val (Value.bool true)),
    (14, 40, .val (Value.bool false)),
    (15, 41, .val (Value.bool false)),
    (16, 42, .val (Value.bool false)),
    (17, 43, .fq x),
    (18, 44, .fq y),
    (19, 45, .fq (Fq.ofInt 1)),
    (20, 46, .fq (x.lerp y (Fq.ofInt 1))),
    (21, 47, .fq y),
    (22, 48, .val (Value.bool true)),
    (23, 49, .val (Value.bool false)),
    (24, 50, .val (Value.bool false))]
def lLeT3 (x : Fq) (y : Fq) (z : Fq) : List (Nat × Tmp × Sp) :=
   [(0, 51, .fq y),
    (1, 52, .fq x),
    (2, 53, .fq (Fq.ofInt 1)),
    (3, 54, .fq z),
    (4, 55, .fq ((Fq.ofInt 1).sub z)),
    (5, 56, .fq (y.lerp x ((Fq.ofInt 1).sub z))),
    (6, 57, .fq (x.lerp y z)),
    (7, 58, .val (Value.bool true)),
    (8, 59, .val (Value.bool false))]
def lLeT4 (z : Fq) (k : Int) : List (Nat × Tmp × Sp) :=
   [(0, 60, .fq z),
    (1, 61, .val (Value.int IntKind.i64 k)),
    (2, 62, .val (Value.bool true)),
    (3, 63, .val (Value.bool true)),
    (4, 64, .val undef),
    (5, 65, .val undef),
    (6, 66, .val undef),
    (7, 67, .val undef),
    (8, 68, .val (Value.bool true))]
def lLeT5  : List (Nat × Tmp × Sp) :=
   [(0, 69, .val (Value.bool true)),
    (1, 6, .val (Value.bool true))]
def lLeT6 (x : Fq) (y : Fq) (z : Fq) : List (Nat × Tmp × Sp) :=
   [(0, 8, .fq x),
    (1, 9, .val (Value.bool true)),
    (2, 10, .val (Value.bool false)),
    (3, 11, .val (Value.bool false)),
    (4, 12, .fq y),
    (5, 13, .val (Value.bool true)),
    (6, 14, .val (Value.bool false)),
    (7, 15, .val (Value.bool false)),
    (8, 16, .val (Value.bool false)),
    (9, 17, .fq z),
    (10, 18, .val (Value.bool true)),
    (11, 19, .val (Value.bool false)),
    (12, 20, .val (Value.bool false))]
def lLeT7 (x : Fq) (y : Fq) (z : Fq) (base : Nat) : List (Nat × Tmp × Sp) :=
   [(0, 22, .fq x),
    (1, 23, .fq y),
    (2, 24, .fq z),
    (3, 25, .fq (x.lerp y z)),
    (4, 7, .varF base)]
def lLeT8 (x : Fq) (y : Fq) (z : Fq) : List (Nat × Tmp × Sp) :=
   [(0, 26, .fq (x.lerp y z)),
    (1, 27, .fq x),
    (2, 28, .fq y),
    (3, 29, .fq z),
    (4, 30, .fq (x.lerp y z)),
    (5, 31, .val (Value.bool true)),
    (6, 32, .val (Value.bool false)),
    (7, 33, .val (Value.bool false)),
    (8, 34, .fq x),
    (9, 35, .fq y),
    (10, 36, .fq (Fq.ofInt 0)),
    (11, 37, .fq (x.lerp y (Fq.ofInt 0))),
    (12, 38, .fq x),
    (13, 39, .val (Value.bool true)),
    (14, 40, .val (Value.bool false)),
    (15, 41, .val (Value.bool false)),
    (16, 42, .val (Value.bool false)),
    (17, 43, .fq x),
    (18, 44, .fq y),
    (19, 45, .fq (Fq.ofInt 1)),
    (20, 46, .fq (x.lerp y (Fq.ofInt 1))),
    (21, 47, .fq y),
    (22, 48, .val (Value.bool true)),
    (23, 49, .val (Value.bool false)),
    (24, 50, .val (Value.bool false))]
def lLeT9 (x : Fq) (y : Fq) (z : Fq) : List (Nat × Tmp × Sp) :=
   [(0, 51, .fq y),
    (1, 52, .fq x),
    (2, 53, .fq (Fq.ofInt 1)),
    (3, 54, .fq z),
    (4, 55, .fq ((Fq.ofInt 1).sub z)),
    (5, 56, .fq (y.lerp x ((Fq.ofInt 1).sub z))),
    (6, 57, .fq (x.lerp y z)),
    (7, 58, .val (Value.bool true)),
    (8, 59, .val (Value.bool false))]
def lLeT10 (z : Fq) (k : Int) (l : Int) : List (Nat × Tmp × Sp) :=
   [(0, 60, .fq z),
    (1, 61, .val (Value.int IntKind.i64 k)),
    (2, 62, .val (Value.bool false)),
    (3, 63, .val (Value.bool false)),
    (4, 64, .fq z),
    (5, 65, .fq (Fq.ofInt 1)),
    (6, 66, .val (Value.int IntKind.i64 l)),
    (7, 67, .val (Value.bool true)),
    (8, 68, .val (Value.bool true))]
def lLeT11  : List (Nat × Tmp × Sp) :=
   [(0, 69, .val (Value.bool true)),
    (1, 6, .val (Value.bool true))]
def lLeT12 (x : Fq) (y : Fq) (z : Fq) : List (Nat × Tmp × Sp) :=
   [(0, 8, .fq x),
    (1, 9, .val (Value.bool true)),
    (2, 10, .val (Value.bool false)),
    (3, 11, .val (Value.bool false)),
    (4, 12, .fq y),
    (5, 13, .val (Value.bool true)),
    (6, 14, .val (Value.bool false)),
    (7, 15, .val (Value.bool false)),
    (8, 16, .val (Value.bool false)),
    (9, 17, .fq z),
    (10, 18, .val (Value.bool true)),
    (11, 19, .val (Value.bool false)),
    (12, 20, .val (Value.bool false))]
def lLeT13 (x : Fq) (y : Fq) (z : Fq) (base : Nat) : List (Nat × Tmp × Sp) :=
   [(0, 22, .fq x),
    (1, 23, .fq y),
    (2, 24, .fq z),
    (3, 25, .fq (x.lerp y z)),
    (4, 7, .varF base)]
def lLeT14 (x : Fq) (y : Fq) (z : Fq) : List (Nat × Tmp × Sp) :=
   [(0, 26, .fq (x.lerp y z)),
    (1, 27, .fq x),
    (2, 28, .fq y),
    (3, 29, .fq z),
    (4, 30, .fq (x.lerp y z)),
    (5, 31, .val (Value.bool true)),
    (6, 32, .val (Value.bool false)),
    (7, 33, .val (Value.bool false)),
    (8, 34, .fq x),
    (9, 35, .fq y),
    (10, 36, .fq (Fq.ofInt 0)),
    (11, 37, .fq (x.lerp y (Fq.ofInt 0))),
    (12, 38, .fq x),
    (13, 39, .val (Value.bool true)),
    (14, 40, .val (Value.bool false)),
    (15, 41, .val (Value.bool false)),
    (16, 42, .val (Value.bool false)),
    (17, 43, .fq x),
    (18, 44, .fq y),
    (19, 45, .fq (Fq.ofInt 1)),
    (20, 46, .fq (x.lerp y (Fq.ofInt 1))),
    (21, 47, .fq y),
    (22, 48, .val (Value.bool true)),
    (23, 49, .val (Value.bool false)),
    (24, 50, .val (Value.bool false))]
def lLeT15 (x : Fq) (y : Fq) (z : Fq) : List (Nat × Tmp × Sp) :=
   [(0, 51, .fq y),
    (1, 52, .fq x),
    (2, 53, .fq (Fq.ofInt 1)),
    (3, 54, .fq z),
    (4, 55, .fq ((Fq.ofInt 1).sub z)),
    (5, 56, .fq (y.lerp x ((Fq.ofInt 1).sub z))),
    (6, 57, .fq (x.lerp y z)),
    (7, 58, .val (Value.bool true)),
    (8, 59, .val (Value.bool false))]
def lLeT16 (z : Fq) (k : Int) (l : Int) : List (Nat × Tmp × Sp) :=
   [(0, 60, .fq z),
    (1, 61, .val (Value.int IntKind.i64 k)),
    (2, 62, .val (Value.bool false)),
    (3, 63, .val (Value.bool false)),
    (4, 64, .fq z),
    (5, 65, .fq (Fq.ofInt 1)),
    (6, 66, .val (Value.int IntKind.i64 l)),
    (7, 67, .val (Value.bool false)),
    (8, 68, .val (Value.bool false))]
def lLeT17 (x : Fq) (y : Fq) (z : Fq) (c : Int) (d : Int) : List (Nat × Tmp × Sp) :=
   [(0, 70, .fq x),
    (1, 71, .fq (x.lerp y z)),
    (2, 72, .val (Value.int IntKind.i64 c)),
    (3, 73, .fq (x.lerp y z)),
    (4, 74, .fq y),
    (5, 75, .val (Value.int IntKind.i64 d)),
    (6, 76, .val (Value.int IntKind.i64 (c * d))),
    (7, 77, .val (Value.bool true)),
    (8, 78, .val (Value.bool true)),
    (9, 79, .val (Value.bool true)),
    (10, 80, .val (Value.bool true)),
    (11, 6, .val (Value.bool true))]
set_option maxHeartbeats 4000000 in
theorem c_lLeT (vx vy vz : Value) (x y z : Fq) (w : World) (ix : IsQ w vx x) (iy : IsQ w vy y) (iz : IsQ w vz z) (hx : x.ok 12) (ex : x.valid = true) (hy : y.ok 12) (ey : y.valid = true) (hz : z.ok 12) (ez : z.valid = true) :
    Calls Try.prog 6 #[vx, vy, vz] w fun e w' => RetV w (.bool true) e w' := by
  have S0 : Hid ((x.lerp y (Fq.ofInt 0)).same x = true) := Lib.hid (same_of (l_zero ex ey))
  have S1 : Hid ((x.lerp y (Fq.ofInt 1)).same y = true) := Lib.hid (same_of (l_one ex ey))
  have S2 : Hid ((y.lerp x ((Fq.ofInt 1).sub z)).same (x.lerp y z) = true) := Lib.hid (same_of (l_back ex ey ez))
  obtain ⟨k, hk⟩ : ∃ k, Hid (z.sgn = k) := ⟨_, Lib.hid rfl⟩
  obtain ⟨l, hl⟩ : ∃ l, Hid (z.cmp (Fq.ofInt 1) = l) := ⟨_, Lib.hid rfl⟩
  by_cases h0 : k < 0
  · have G0 : Hid (true = decide (k < 0)) := Lib.hid (decide_eq_true h0).symm
    clear h0
    obtain ⟨a0, c0, b0, d0, rfl, m0, k0⟩ := boxF ix
    obtain ⟨a1, c1, b1, d1, rfl, m1, k1⟩ := boxF (iy.mono m0)
    rw [World.size_alloc ] at k1
    have n1 := m0.trans (m1.mono m0.size)
    obtain ⟨a2, c2, b2, d2, rfl, m2, k2⟩ := boxF (iz.mono n1)
    rw [World.size_alloc, World.size_alloc ] at k2
    have n2 := n1.trans (m2.mono n1.size)
    clear ix iy iz
    go_enter Try.func6, Try.ntmps6
    go_upto_region 0 with (fail)
    go_cut [3, 4, 5, 6] (fun s_3 s_4 s_5 s_6 wx => s_3 = Value.pointer (some ⟨w.heap.size, 0, none⟩) ∧ s_4 = Value.pointer (some ⟨w.heap.size + 1, 0, none⟩) ∧ s_5 = Value.pointer (some ⟨w.heap.size + 2, 0, none⟩) ∧ s_6 = Value.bool false ∧ VarQ wx w.heap.size x ∧ VarQ wx (w.heap.size + 1) y ∧ VarQ wx (w.heap.size + 2) z ∧ Below w.heap.size w wx)
    case first =>
      go_wp2_with fail
      go_meet
      case rel => exact ⟨rfl, rfl, rfl, rfl, ((k0.mono m1).mono m2), (k1.mono m2), k2, n2⟩
    case rest =>
    clear m0 k0 m1 k1 m2 k2 n1 n2
    obtain ⟨rfl, rfl, rfl, rfl, V0, V1, V2, hb1⟩ := hcut
    go_upto_region 1 with (fail)
    go_cut [20] (fun s_20 wx => s_20 = Value.bool false ∧ VarQ wx w.heap.size x ∧ VarQ wx (w.heap.size + 1) y ∧ VarQ wx (w.heap.size + 2) z ∧ Below w.heap.size w wx)
    case first =>
      refine tF Try.f6 1 (lLeT0 x y z) [] 13 0 ?_ ?_
      · refine ⟨fun _ _ F => gR rfl rfl (arm_loadF rfl (F.k 3 (Value.pointer (some ⟨w.heap.size, 0, none⟩))) (V0.mono F.below)).b, ?_⟩
        refine ⟨fun _ _ F => gR rfl rfl (arm_C1 rfl (enters Try.func18 rfl rfl) (F.f 0 rfl) (fun va w h1 => q_fitQ va x w h1 hx ex) (fun _ _ h => ofV h)).b, ?_⟩
        refine ⟨fun _ _ F => gR rfl rfl (arm_not rfl (F.f 1 rfl)).b, ?_⟩
        refine ⟨fun _ _ F => gR rfl rfl (arm_move (.inl rfl) (F.f 2 rfl)).b, ?_⟩
        refine ⟨fun _ _ F => gG F rfl rfl rfl rfl (arm_loadF rfl (F.k 4 (Value.pointer (some ⟨w.heap.size + 1, 0, none⟩))) (V1.mono F.below)).b, ?_⟩
        refine ⟨fun _ _ F => gG F rfl rfl rfl rfl (arm_C1 rfl (enters Try.func18 rfl rfl) (F.f 4 rfl) (fun va w h1 => q_fitQ va y w h1 hy ey) (fun _ _ h => ofV h)).b, ?_⟩
        refine ⟨fun _ _ F => gG F rfl rfl rfl rfl (arm_not rfl (F.f 5 rfl)).b, ?_⟩
        refine ⟨fun _ _ F => gR rfl rfl (arm_pick rfl (F.f 3 rfl) (fun h => by cases h) (fun _ => (F.f 6 rfl))).b, ?_⟩
        refine ⟨fun _ _ F => gR rfl rfl (arm_move (.inl rfl) (F.f 7 rfl)).b, ?_⟩
        refine ⟨fun _ _ F => gG F rfl rfl rfl rfl (arm_loadF rfl (F.k 5 (Value.pointer (some ⟨w.heap.size + 2, 0, none⟩))) (V2.mono F.below)).b, ?_⟩
        refine ⟨fun _ _ F => gG F rfl rfl rfl rfl (arm_C1 rfl (enters Try.func18 rfl rfl) (F.f 9 rfl) (fun va w h1 => q_fitQ va z w h1 hz ez) (fun _ _ h => ofV h)).b, ?_⟩
        refine ⟨fun _ _ F => gG F rfl rfl rfl rfl (arm_not rfl (F.f 10 rfl)).b, ?_⟩
        refine ⟨fun _ _ F => gR rfl rfl (arm_pick rfl (F.f 8 rfl) (fun h => by cases h) (fun _ => (F.f 11 rfl))).b, ?_⟩
        exact trivial
      intro E' hE gp wp bp G Gs
      obtain rfl : E' = [] := by simpa [subs] using hE
      have e_12 : gp 12 = Value.bool false := G 12 20 _ (by simp) rfl
      clear G Gs hE
      simp only [lLeT0]
      simp only [qA, setD, qZ, qS, e_12]
      refine wpAny_done (by kernel_rfl) ?_ _
      go_wp2_with fail
      go_meet
      case rel => exact ⟨rfl, (V0.mono bp), (V1.mono bp), (V2.mono bp), (hb1.trans (bp.mono hb1.size))⟩
    case rest =>
    clear V0 V1 V2 hb1
    obtain ⟨rfl, V0, V1, V2, hb1⟩ := hcut
    go_upto_region 3 with (fail)
    go_cut [7] (fun s_7 wx => ∃ g7, s_7 = Value.pointer (some ⟨g7, 0, none⟩) ∧ w.heap.size + 3 ≤ g7 ∧ VarQ wx g7 (x.lerp y z) ∧ VarQ wx w.heap.size x ∧ VarQ wx (w.heap.size + 1) y ∧ VarQ wx (w.heap.size + 2) z ∧ Below w.heap.size w wx)
    case first =>
      obtain ⟨base, hbase0⟩ : ∃ b : Nat, Hid (b = wc.heap.size) := ⟨_, Lib.hid rfl⟩
      have hbase : base ≤ wc.heap.size := by rw [hbase0.out]; exact Nat.le_refl _
      have hbw : w.heap.size + 3 ≤ base := by have := hb1.size; have h1 := V2.lt; rw [hbase0.out]; omega
      have l_V0 : w.heap.size < base := by rw [hbase0.out]; exact V0.lt
      have l_V1 : w.heap.size + 1 < base := by rw [hbase0.out]; exact V1.lt
      have l_V2 : w.heap.size + 2 < base := by rw [hbase0.out]; exact V2.lt
      refine wp_tabGF Try.f6 3 (lLeT1 x y z base) [] (fun i => i == 4) 3 1 (by kernel_rfl) (by kernel_rfl) (by kernel_rfl) (by kernel_rfl) (by kernel_rfl) ⟨fun h => (by cases h), ⟨fun h => (by cases h), ⟨fun h => (by cases h), ⟨fun h => (by cases h), ⟨fun _ w v h => Sp.varF_lt h, trivial⟩⟩⟩⟩⟩ ?_ ?_
      · refine ⟨fun _ _ F => gR rfl rfl (arm_loadF rfl (F.k 3 (Value.pointer (some ⟨w.heap.size, 0, none⟩))) (V0.mono F.below)).b, ?_⟩
        refine ⟨fun _ _ F => gR rfl rfl (arm_loadF rfl (F.k 4 (Value.pointer (some ⟨w.heap.size + 1, 0, none⟩))) (V1.mono F.below)).b, ?_⟩
        refine ⟨fun _ _ F => gR rfl rfl (arm_loadF rfl (F.k 5 (Value.pointer (some ⟨w.heap.size + 2, 0, none⟩))) (V2.mono F.below)).b, ?_⟩
        refine ⟨fun _ _ F => gR rfl rfl (arm_C3 rfl (enters Try.func27 rfl rfl) (F.f 0 rfl) (F.f 1 rfl) (F.f 2 rfl) (fun va vb vc w h1 h2 h3 => q_fLerp va vb vc x y z w h1 h2 h3 (hx.mono (by decide)) (hy.mono (by decide)) (hz.mono (by decide))) (fun _ _ h => ofQ h)).b, ?_⟩
        refine ⟨fun _ _ F => gR rfl rfl (arm_allocF rfl (Nat.le_trans hbase F.below.size)), ?_⟩
        exact trivial
      intro E' hE gp wp bp G Gs
      obtain rfl : E' = [] := by simpa [subs] using hE
      obtain ⟨g7, e_4, lg_4, hv_4⟩ := G 4 7 _ (by simp) rfl
      have n_3 : (Sp.fq (x.lerp y z)).p wp (gp 3) := G 3 25 _ (by simp) rfl
      clear G Gs hE
      simp only [lLeT1]
      simp only [qA, setD, qZ, qS, e_4]
      have T0 := hv_4
      refine wpAny_storeFr (j := 5) (by kernel_rfl) rfl rfl rfl rfl rfl n_3 T0.any ?_
      intro w0 u0 v0
      have O0 := T0.own
      refine wpAny_done (by kernel_rfl) ?_ _
      go_wp2_with fail
      go_meet
      case rel => exact ⟨g7, rfl, (by omega), v0, ((V0.mono bp).upd O0 u0 (by omega)), ((V1.mono bp).upd O0 u0 (by omega)), ((V2.mono bp).upd O0 u0 (by omega)), (Upd.below (hb1.trans (bp.mono hb1.size)) u0 (by omega))⟩
    case rest =>
    clear V0 V1 V2 hb1
    obtain ⟨g7, rfl, lg7, V7, V0, V1, V2, hb1⟩ := hcut
    go_upto_region 4 with (fail)
    go_cut [50] (fun s_50 wx => s_50 = Value.bool false ∧ VarQ wx w.heap.size x ∧ VarQ wx (w.heap.size + 1) y ∧ VarQ wx (w.heap.size + 2) z ∧ VarQ wx g7 (x.lerp y z) ∧ Below w.heap.size w wx)
    case first =>
      refine tG Try.f6 4 (lLeT2 x y z) [] 16 0 ?_ ?_
      · refine ⟨fun _ _ F => gR rfl rfl (arm_loadF rfl (F.k 7 (Value.pointer (some ⟨g7, 0, none⟩))) (V7.mono F.below)).b, ?_⟩
        refine ⟨fun _ _ F => gR rfl rfl (arm_loadF rfl (F.k 3 (Value.pointer (some ⟨w.heap.size, 0, none⟩))) (V0.mono F.below)).b, ?_⟩
        refine ⟨fun _ _ F => gR rfl rfl (arm_loadF rfl (F.k 4 (Value.pointer (some ⟨w.heap.size + 1, 0, none⟩))) (V1.mono F.below)).b, ?_⟩
        refine ⟨fun _ _ F => gR rfl rfl (arm_loadF rfl (F.k 5 (Value.pointer (some ⟨w.heap.size + 2, 0, none⟩))) (V2.mono F.below)).b, ?_⟩
        refine ⟨fun _ _ F => gR rfl rfl (arm_C3 rfl (enters Try.func28 rfl rfl) (F.f 1 rfl) (F.f 2 rfl) (F.f 3 rfl) (fun va vb vc w h1 h2 h3 => q_rLerp va vb vc x y z w h1 h2 h3 (hx.mono (by decide)) (hy.mono (by decide)) (hz.mono (by decide))) (fun _ _ h => ofQ h)).b, ?_⟩
        refine ⟨fun _ _ F => gR rfl rfl (arm_C2 rfl (enters Try.func16 rfl rfl) (F.f 0 rfl) (F.f 4 rfl) (fun va vb w h1 h2 => q_Same va vb (x.lerp y z) (x.lerp y z) w h1 h2 ((hx.add (hz.mul (hy.sub hx))).mono (by decide)) ((hx.add (hz.mul (hy.sub hx))).mono (by decide))) (fun _ _ h => by have h' : RetV _ _ _ _ := h; rw [Fq.same_refl (x.lerp y z)] at h'; exact ofV h')).b, ?_⟩
        refine ⟨fun _ _ F => gR rfl rfl (arm_not rfl (F.f 5 rfl)).b, ?_⟩
        refine ⟨fun _ _ F => gR rfl rfl (arm_move (.inl rfl) (F.f 6 rfl)).b, ?_⟩
        refine ⟨fun _ _ F => gG F rfl rfl rfl rfl (arm_loadF rfl (F.k 3 (Value.pointer (some ⟨w.heap.size, 0, none⟩))) (V0.mono F.below)).b, ?_⟩
        refine ⟨fun _ _ F => gG F rfl rfl rfl rfl (arm_loadF rfl (F.k 4 (Value.pointer (some ⟨w.heap.size + 1, 0, none⟩))) (V1.mono F.below)).b, ?_⟩
        refine ⟨fun _ _ F => gG F rfl rfl rfl rfl (arm_C1 rfl (enters Try.func23 rfl rfl) Is.const (fun va w h1 => by have e_va : va = _ := h1; subst e_va; exact q_rInt 0 w (by decide) (by decide)) (fun _ _ h => ofQ h)).b, ?_⟩
        refine ⟨fun _ _ F => gG F rfl rfl rfl rfl (arm_C3 rfl (enters Try.func27 rfl rfl) (F.f 8 rfl) (F.f 9 rfl) (F.f 10 rfl) (fun va vb vc w h1 h2 h3 => q_fLerp va vb vc x y (Fq.ofInt 0) w h1 h2 h3 (hx.mono (by decide)) (hy.mono (by decide)) ((ok_int (by decide) (by decide)).mono (by decide))) (fun _ _ h => ofQ h)).b, ?_⟩
        refine ⟨fun _ _ F => gG F rfl rfl rfl rfl (arm_loadF rfl (F.k 3 (Value.pointer (some ⟨w.heap.size, 0, none⟩))) (V0.mono F.below)).b, ?_⟩
        refine ⟨fun _ _ F => gG F rfl rfl rfl rfl (arm_C2 rfl (enters Try.func16 rfl rfl) (F.f 11 rfl) (F.f 12 rfl) (fun va vb w h1 h2 => q_Same va vb (x.lerp y (Fq.ofInt 0)) x w h1 h2 ((hx.add ((ok_int (by decide) (by decide)).mul (hy.sub hx))).mono (by decide)) (hx.mono (by decide))) (fun _ _ h => by have h' : RetV _ _ _ _ := h; rw [S0.out] at h'; exact ofV h')).b, ?_⟩
        refine ⟨fun _ _ F => gG F rfl rfl rfl rfl (arm_not rfl (F.f 13 rfl)).b, ?_⟩
        refine ⟨fun _ _ F => gR rfl rfl (arm_pick rfl (F.f 7 rfl) (fun h => by cases h) (fun _ => (F.f 14 rfl))).b, ?_⟩
        refine ⟨fun _ _ F => gR rfl rfl (arm_move (.inl rfl) (F.f 15 rfl)).b, ?_⟩
        refine ⟨fun _ _ F => gG F rfl rfl rfl rfl (arm_loadF rfl (F.k 3 (Value.pointer (some ⟨w.heap.size, 0, none⟩))) (V0.mono F.below)).b, ?_⟩
        refine ⟨fun _ _ F => gG F rfl rfl rfl rfl (arm_loadF rfl (F.k 4 (Value.pointer (some ⟨w.heap.size + 1, 0, none⟩))) (V1.mono F.below)).b, ?_⟩
        refine ⟨fun _ _ F => gG F rfl rfl rfl rfl (arm_C1 rfl (enters Try.func23 rfl rfl) Is.const (fun va w h1 => by have e_va : va = _ := h1; subst e_va; exact q_rInt 1 w (by decide) (by decide)) (fun _ _ h => ofQ h)).b, ?_⟩
        refine ⟨fun _ _ F => gG F rfl rfl rfl rfl (arm_C3 rfl (enters Try.func27 rfl rfl) (F.f 17 rfl) (F.f 18 rfl) (F.f 19 rfl) (fun va vb vc w h1 h2 h3 => q_fLerp va vb vc x y (Fq.ofInt 1) w h1 h2 h3 (hx.mono (by decide)) (hy.mono (by decide)) ((ok_int (by decide) (by decide)).mono (by decide))) (fun _ _ h => ofQ h)).b, ?_⟩
        refine ⟨fun _ _ F => gG F rfl rfl rfl rfl (arm_loadF rfl (F.k 4 (Value.pointer (some ⟨w.heap.size + 1, 0, none⟩))) (V1.mono F.below)).b, ?_⟩
        refine ⟨fun _ _ F => gG F rfl rfl rfl rfl (arm_C2 rfl (enters Try.func16 rfl rfl) (F.f 20 rfl) (F.f 21 rfl) (fun va vb w h1 h2 => q_Same va vb (x.lerp y (Fq.ofInt 1)) y w h1 h2 ((hx.add ((ok_int (by decide) (by decide)).mul (hy.sub hx))).mono (by decide)) (hy.mono (by decide))) (fun _ _ h => by have h' : RetV _ _ _ _ := h; rw [S1.out] at h'; exact ofV h')).b, ?_⟩
        refine ⟨fun _ _ F => gG F rfl rfl rfl rfl (arm_not rfl (F.f 22 rfl)).b, ?_⟩
        refine ⟨fun _ _ F => gR rfl rfl (arm_pick rfl (F.f 16 rfl) (fun h => by cases h) (fun _ => (F.f 23 rfl))).b, ?_⟩
        exact trivial
      intro E' hE gp wp bp G Gs
      obtain rfl : E' = [] := by simpa [subs] using hE
      have e_24 : gp 24 = Value.bool false := G 24 50 _ (by simp) rfl
      clear G Gs hE
      simp only [lLeT2]
      simp only [qA, setD, qZ, qS, e_24]
      refine wpAny_done (by kernel_rfl) ?_ _
      go_wp2_with fail
      go_meet
      case rel => exact ⟨rfl, (V0.mono bp), (V1.mono bp), (V2.mono bp), (V7.mono bp), (hb1.trans (bp.mono hb1.size))⟩
    case rest =>
    clear V0 V1 V2 V7 hb1
    obtain ⟨rfl, V0, V1, V2, V7, hb1⟩ := hcut
    go_upto_region 6 with (fail)
    go_cut [59] (fun s_59 wx => s_59 = Value.bool false ∧ VarQ wx w.heap.size x ∧ VarQ wx (w.heap.size + 1) y ∧ VarQ wx (w.heap.size + 2) z ∧ VarQ wx g7 (x.lerp y z) ∧ Below w.heap.size w wx)
    case first =>
      refine tG Try.f6 6 (lLeT3 x y z) [] 5 0 ?_ ?_
      · refine ⟨fun _ _ F => gR rfl rfl (arm_loadF rfl (F.k 4 (Value.pointer (some ⟨w.heap.size + 1, 0, none⟩))) (V1.mono F.below)).b, ?_⟩
        refine ⟨fun _ _ F => gR rfl rfl (arm_loadF rfl (F.k 3 (Value.pointer (some ⟨w.heap.size, 0, none⟩))) (V0.mono F.below)).b, ?_⟩
        refine ⟨fun _ _ F => gR rfl rfl (arm_C1 rfl (enters Try.func23 rfl rfl) Is.const (fun va w h1 => by have e_va : va = _ := h1; subst e_va; exact q_rInt 1 w (by decide) (by decide)) (fun _ _ h => ofQ h)).b, ?_⟩
        refine ⟨fun _ _ F => gR rfl rfl (arm_loadF rfl (F.k 5 (Value.pointer (some ⟨w.heap.size + 2, 0, none⟩))) (V2.mono F.below)).b, ?_⟩
        refine ⟨fun _ _ F => gR rfl rfl (arm_C2 rfl (enters Try.func29 rfl rfl) (F.f 2 rfl) (F.f 3 rfl) (fun va vb w h1 h2 => q_rSub va vb (Fq.ofInt 1) z w h1 h2 ((ok_int (by decide) (by decide)).mono (by decide)) (hz.mono (by decide))) (fun _ _ h => ofQ h)).b, ?_⟩
        refine ⟨fun _ _ F => gR rfl rfl (arm_C3 rfl (enters Try.func27 rfl rfl) (F.f 0 rfl) (F.f 1 rfl) (F.f 4 rfl) (fun va vb vc w h1 h2 h3 => q_fLerp va vb vc y x ((Fq.ofInt 1).sub z) w h1 h2 h3 (hy.mono (by decide)) (hx.mono (by decide)) (((ok_int (by decide) (by decide)).sub hz).mono (by decide))) (fun _ _ h => ofQ h)).b, ?_⟩
        refine ⟨fun _ _ F => gR rfl rfl (arm_loadF rfl (F.k 7 (Value.pointer (some ⟨g7, 0, none⟩))) (V7.mono F.below)).b, ?_⟩
        refine ⟨fun _ _ F => gR rfl rfl (arm_C2 rfl (enters Try.func16 rfl rfl) (F.f 5 rfl) (F.f 6 rfl) (fun va vb w h1 h2 => q_Same va vb (y.lerp x ((Fq.ofInt 1).sub z)) (x.lerp y z) w h1 h2 ((hy.add (((ok_int (by decide) (by decide)).sub hz).mul (hx.sub hy))).mono (by decide)) ((hx.add (hz.mul (hy.sub hx))).mono (by decide))) (fun _ _ h => by have h' : RetV _ _ _ _ := h; rw [S2.out] at h'; exact ofV h')).b, ?_⟩
        refine ⟨fun _ _ F => gR rfl rfl (arm_not rfl (F.f 7 rfl)).b, ?_⟩
        exact trivial
      intro E' hE gp wp bp G Gs
      obtain rfl : E' = [] := by simpa [subs] using hE
      have e_8 : gp 8 = Value.bool false := G 8 59 _ (by simp) rfl
      clear G Gs hE
      simp only [lLeT3]
      simp only [qA, setD, qZ, qS, e_8]
      refine wpAny_done (by kernel_rfl) ?_ _
      go_wp2_with fail
      go_meet
      case rel => exact ⟨rfl, (V0.mono bp), (V1.mono bp), (V2.mono bp), (V7.mono bp), (hb1.trans (bp.mono hb1.size))⟩
    case rest =>
    clear V0 V1 V2 V7 hb1
    obtain ⟨rfl, V0, V1, V2, V7, hb1⟩ := hcut
    go_upto_region 8 with (fail)
    go_cut [68] (fun s_68 wx => s_68 = Value.bool true ∧ VarQ wx w.heap.size x ∧ VarQ wx (w.heap.size + 1) y ∧ VarQ wx (w.heap.size + 2) z ∧ VarQ wx g7 (x.lerp y z) ∧ Below w.heap.size w wx)
    case first =>
      refine tG Try.f6 8 (lLeT4 z k) [] 8 0 ?_ ?_
      · refine ⟨fun _ _ F => gR rfl rfl (arm_loadF rfl (F.k 5 (Value.pointer (some ⟨w.heap.size + 2, 0, none⟩))) (V2.mono F.below)).b, ?_⟩
        refine ⟨fun _ _ F => gR rfl rfl (arm_C1 rfl (enters Try.func30 rfl rfl) (F.f 0 rfl) (fun va w h1 => q_rSign va z w h1 (hz.mono (by decide))) (fun _ _ h => by have h' : RetV _ _ _ _ := h; rw [hk.out] at h'; exact ofV h')).b, ?_⟩
        refine ⟨fun _ _ F => gR rfl rfl (arm_bin rfl (F.f 1 rfl) Is.const (fun _ => rfl) (fun w => by rw [G0.out]; rfl)).b, ?_⟩
        refine ⟨fun _ _ F => gR rfl rfl (arm_move (.inl rfl) (F.f 2 rfl)).b, ?_⟩
        refine ⟨fun _ _ F => gS F rfl rfl rfl rfl rfl rfl, ?_⟩
        refine ⟨fun _ _ F => gS F rfl rfl rfl rfl rfl rfl, ?_⟩
        refine ⟨fun _ _ F => gS F rfl rfl rfl rfl rfl rfl, ?_⟩
        refine ⟨fun _ _ F => gS F rfl rfl rfl rfl rfl rfl, ?_⟩
        refine ⟨fun _ _ F => gR rfl rfl (arm_pick rfl (F.f 3 rfl) (fun _ => Is.const) (fun h => by cases h)).b, ?_⟩
        exact trivial
      intro E' hE gp wp bp G Gs
      obtain rfl : E' = [] := by simpa [subs] using hE
      have e_8 : gp 8 = Value.bool true := G 8 68 _ (by simp) rfl
      clear G Gs hE
      simp only [lLeT4]
      simp only [qA, setD, qZ, qS, e_8]
      refine wpAny_done (by kernel_rfl) ?_ _
      go_wp2_with fail
      go_meet
      case rel => exact ⟨rfl, (V0.mono bp), (V1.mono bp), (V2.mono bp), (V7.mono bp), (hb1.trans (bp.mono hb1.size))⟩
    case rest =>
    clear V0 V1 V2 V7 hb1
    obtain ⟨rfl, V0, V1, V2, V7, hb1⟩ := hcut
    go_upto_region 9 with (fail)
    go_cut [6] (fun s_6 wx => s_6 = Value.bool true ∧ VarQ wx w.heap.size x ∧ VarQ wx (w.heap.size + 1) y ∧ VarQ wx (w.heap.size + 2) z ∧ VarQ wx g7 (x.lerp y z) ∧ Below w.heap.size w wx)
    case first =>
      refine tF Try.f6 9 (lLeT5 ) [] 2 0 ?_ ?_
      · refine ⟨fun _ _ F => gR rfl rfl (arm_C0 rfl (enters Try.func11 rfl rfl)  (fun w => c_awake2 w) (fun _ _ h => ofV h)).b, ?_⟩
        refine ⟨fun _ _ F => gR rfl rfl (arm_move (.inr rfl) (F.f 0 rfl)).b, ?_⟩
        exact trivial
      intro E' hE gp wp bp G Gs
      obtain rfl : E' = [] := by simpa [subs] using hE
      have e_1 : gp 1 = Value.bool true := G 1 6 _ (by simp) rfl
      clear G Gs hE
      simp only [lLeT5]
      simp only [qA, setD, qZ, qS, e_1]
      refine wpAny_done (by kernel_rfl) ?_ _
      go_wp2_with fail
      go_meet
      case rel => exact ⟨rfl, (V0.mono bp), (V1.mono bp), (V2.mono bp), (V7.mono bp), (hb1.trans (bp.mono hb1.size))⟩
    case rest =>
    clear V0 V1 V2 V7 hb1
    obtain ⟨rfl, V0, V1, V2, V7, hb1⟩ := hcut
    go_wp2
    go_ret
    exact ⟨rfl, hb1⟩
  · have G0 : Hid (false = decide (k < 0)) := Lib.hid (decide_eq_false h0).symm
    by_cases h1 : 0 < l
    · have G1 : Hid (true = decide (0 < l)) := Lib.hid (decide_eq_true h1).symm
      clear h0 h1
      obtain ⟨a0, c0, b0, d0, rfl, m0, k0⟩ := boxF ix
      obtain ⟨a1, c1, b1, d1, rfl, m1, k1⟩ := boxF (iy.mono m0)
      rw [World.size_alloc ] at k1
      have n1 := m0.trans (m1.mono m0.size)
      obtain ⟨a2, c2, b2, d2, rfl, m2, k2⟩ := boxF (iz.mono n1)
      rw [World.size_alloc, World.size_alloc ] at k2
      have n2 := n1.trans (m2.mono n1.size)
      clear ix iy iz
      go_enter Try.func6, Try.ntmps6
      go_upto_region 0 with (fail)
      go_cut [3, 4, 5, 6] (fun s_3 s_4 s_5 s_6 wx => s_3 = Value.pointer (some ⟨w.heap.size, 0, none⟩) ∧ s_4 = Value.pointer (some ⟨w.heap.size + 1, 0, none⟩) ∧ s_5 = Value.pointer (some ⟨w.heap.size + 2, 0, none⟩) ∧ s_6 = Value.bool false ∧ VarQ wx w.heap.size x ∧ VarQ wx (w.heap.size + 1) y ∧ VarQ wx (w.heap.size + 2) z ∧ Below w.heap.size w wx)
      case first =>
        go_wp2_with fail
        go_meet
        case rel => exact ⟨rfl, rfl, rfl, rfl, ((k0.mono m1).mono m2), (k1.mono m2), k2, n2⟩
      case rest =>
      clear m0 k0 m1 k1 m2 k2 n1 n2
      obtain ⟨rfl, rfl, rfl, rfl, V0, V1, V2, hb1⟩ := hcut
      go_upto_region 1 with (fail)
      go_cut [20] (fun s_20 wx => s_20 = Value.bool false ∧ VarQ wx w.heap.size x ∧ VarQ wx (w.heap.size + 1) y ∧ VarQ wx (w.heap.size + 2) z ∧ Below w.heap.size w wx)
      case first =>
        refine tF Try.f6 1 (lLeT6 x y z) [] 13 0 ?_ ?_
        · refine ⟨fun _ _ F => gR rfl rfl (arm_loadF rfl (F.k 3 (Value.pointer (some ⟨w.heap.size, 0, none⟩))) (V0.mono F.below)).b, ?_⟩
          refine ⟨fun _ _ F => gR rfl rfl (arm_C1 rfl (enters Try.func18 rfl rfl) (F.f 0 rfl) (fun va w h1 => q_fitQ va x w h1 hx ex) (fun _ _ h => ofV h)).b, ?_⟩
          refine ⟨fun _ _ F => gR rfl rfl (arm_not rfl (F.f 1 rfl)).b, ?_⟩
          refine ⟨fun _ _ F => gR rfl rfl (arm_move (.inl rfl) (F.f 2 rfl)).b, ?_⟩
          refine ⟨fun _ _ F => gG F rfl rfl rfl rfl (arm_loadF rfl (F.k 4 (Value.pointer (some ⟨w.heap.size + 1, 0, none⟩))) (V1.mono F.below)).b, ?_⟩
          refine ⟨fun _ _ F => gG F rfl rfl rfl rfl (arm_C1 rfl (enters Try.func18 rfl rfl) (F.f 4 rfl) (fun va w h1 => q_fitQ va y w h1 hy ey) (fun _ _ h => ofV h)).b, ?_⟩
          refine ⟨fun _ _ F => gG F rfl rfl rfl rfl (arm_not rfl (F.f 5 rfl)).b, ?_⟩
          refine ⟨fun _ _ F => gR rfl rfl (arm_pick rfl (F.f 3 rfl) (fun h => by cases h) (fun _ => (F.f 6 rfl))).b, ?_⟩
          refine ⟨fun _ _ F => gR rfl rfl (arm_move (.inl rfl) (F.f 7 rfl)).b, ?_⟩
          refine ⟨fun _ _ F => gG F rfl rfl rfl rfl (arm_loadF rfl (F.k 5 (Value.pointer (some ⟨w.heap.size + 2, 0, none⟩))) (V2.mono F.below)).b, ?_⟩
          refine ⟨fun _ _ F => gG F rfl rfl rfl rfl (arm_C1 rfl (enters Try.func18 rfl rfl) (F.f 9 rfl) (fun va w h1 => q_fitQ va z w h1 hz ez) (fun _ _ h => ofV h)).b, ?_⟩
          refine ⟨fun _ _ F => gG F rfl rfl rfl rfl (arm_not rfl (F.f 10 rfl)).b, ?_⟩
          refine ⟨fun _ _ F => gR rfl rfl (arm_pick rfl (F.f 8 rfl) (fun h => by cases h) (fun _ => (F.f 11 rfl))).b, ?_⟩
          exact trivial
        intro E' hE gp wp bp G Gs
        obtain rfl : E' = [] := by simpa [subs] using hE
        have e_12 : gp 12 = Value.bool false := G 12 20 _ (by simp) rfl
        clear G Gs hE
        simp only [lLeT6]
        simp only [qA, setD, qZ, qS, e_12]
        refine wpAny_done (by kernel_rfl) ?_ _
        go_wp2_with fail
        go_meet
        case rel => exact ⟨rfl, (V0.mono bp), (V1.mono bp), (V2.mono bp), (hb1.trans (bp.mono hb1.size))⟩
      case rest =>
      clear V0 V1 V2 hb1
      obtain ⟨rfl, V0, V1, V2, hb1⟩ := hcut
      go_upto_region 3 with (fail)
      go_cut [7] (fun s_7 wx => ∃ g7, s_7 = Value.pointer (some ⟨g7, 0, none⟩) ∧ w.heap.size + 3 ≤ g7 ∧ VarQ wx g7 (x.lerp y z) ∧ VarQ wx w.heap.size x ∧ VarQ wx (w.heap.size + 1) y ∧ VarQ wx (w.heap.size + 2) z ∧ Below w.heap.size w wx)
      case first =>
        obtain ⟨base, hbase0⟩ : ∃ b : Nat, Hid (b = wc.heap.size) := ⟨_, Lib.hid rfl⟩
        have hbase : base ≤ wc.heap.size := by rw [hbase0.out]; exact Nat.le_refl _
        have hbw : w.heap.size + 3 ≤ base := by have := hb1.size; have h1 := V2.lt; rw [hbase0.out]; omega
        have l_V0 : w.heap.size < base := by rw [hbase0.out]; exact V0.lt
        have l_V1 : w.heap.size + 1 < base := by rw [hbase0.out]; exact V1.lt
        have l_V2 : w.heap.size + 2 < base := by rw [hbase0.out]; exact V2.lt
        refine wp_tabGF Try.f6 3 (lLeT7 x y z base) [] (fun i => i == 4) 3 1 (by kernel_rfl) (by kernel_rfl) (by kernel_rfl) (by kernel_rfl) (by kernel_rfl) ⟨fun h => (by cases h), ⟨fun h => (by cases h), ⟨fun h => (by cases h), ⟨fun h => (by cases h), ⟨fun _ w v h => Sp.varF_lt h, trivial⟩⟩⟩⟩⟩ ?_ ?_
        · refine ⟨fun _ _ F => gR rfl rfl (arm_loadF rfl (F.k 3 (Value.pointer (some ⟨w.heap.size, 0, none⟩))) (V0.mono F.below)).b, ?_⟩
          refine ⟨fun _ _ F => gR rfl rfl (arm_loadF rfl (F.k 4 (Value.pointer (some ⟨w.heap.size + 1, 0, none⟩))) (V1.mono F.below)).b, ?_⟩
          refine ⟨fun _ _ F => gR rfl rfl (arm_loadF rfl (F.k 5 (Value.pointer (some ⟨w.heap.size + 2, 0, none⟩))) (V2.mono F.below)).b, ?_⟩
          refine ⟨fun _ _ F => gR rfl rfl (arm_C3 rfl (enters Try.func27 rfl rfl) (F.f 0 rfl) (F.f 1 rfl) (F.f 2 rfl) (fun va vb vc w h1 h2 h3 => q_fLerp va vb vc x y z w h1 h2 h3 (hx.mono (by decide)) (hy.mono (by decide)) (hz.mono (by decide))) (fun _ _ h => ofQ h)).b, ?_⟩
          refine ⟨fun _ _ F => gR rfl rfl (arm_allocF rfl (Nat.le_trans hbase F.below.size)), ?_⟩
          exact trivial
        intro E' hE gp wp bp G Gs
        obtain rfl : E' = [] := by simpa [subs] using hE
        obtain ⟨g7, e_4, lg_4, hv_4⟩ := G 4 7 _ (by simp) rfl
        have n_3 : (Sp.fq (x.lerp y z)).p wp (gp 3) := G 3 25 _ (by simp) rfl
        clear G Gs hE
        simp only [lLeT7]
        simp only [qA, setD, qZ, qS, e_4]
        have T0 := hv_4
        refine wpAny_storeFr (j := 5) (by kernel_rfl) rfl rfl rfl rfl rfl n_3 T0.any ?_
        intro w0 u0 v0
        have O0 := T0.own
        refine wpAny_done (by kernel_rfl) ?_ _
        go_wp2_with fail
        go_meet
        case rel => exact ⟨g7, rfl, (by omega), v0, ((V0.mono bp).upd O0 u0 (by omega)), ((V1.mono bp).upd O0 u0 (by omega)), ((V2.mono bp).upd O0 u0 (by omega)), (Upd.below (hb1.trans (bp.mono hb1.size)) u0 (by omega))⟩
      case rest =>
      clear V0 V1 V2 hb1
      obtain ⟨g7, rfl, lg7, V7, V0, V1, V2, hb1⟩ := hcut
      go_upto_region 4 with (fail)
      go_cut [50] (fun s_50 wx => s_50 = Value.bool false ∧ VarQ wx w.heap.size x ∧ VarQ wx (w.heap.size + 1) y ∧ VarQ wx (w.heap.size + 2) z ∧ VarQ wx g7 (x.lerp y z) ∧ Below w.heap.size w wx)
      case first =>
        refine tG Try.f6 4 (lLeT8 x y z) [] 16 0 ?_ ?_
        · refine ⟨fun _ _ F => gR rfl rfl (arm_loadF rfl (F.k 7 (Value.pointer (some ⟨g7, 0, none⟩))) (V7.mono F.below)).b, ?_⟩
          refine ⟨fun _ _ F => gR rfl rfl (arm_loadF rfl (F.k 3 (Value.pointer (some ⟨w.heap.size, 0, none⟩))) (V0.mono F.below)).b, ?_⟩
          refine ⟨fun _ _ F => gR rfl rfl (arm_loadF rfl (F.k 4 (Value.pointer (some ⟨w.heap.size + 1, 0, none⟩))) (V1.mono F.below)).b, ?_⟩
          refine ⟨fun _ _ F => gR rfl rfl (arm_loadF rfl (F.k 5 (Value.pointer (some ⟨w.heap.size + 2, 0, none⟩))) (V2.mono F.below)).b, ?_⟩
          refine ⟨fun _ _ F => gR rfl rfl (arm_C3 rfl (enters Try.func28 rfl rfl) (F.f 1 rfl) (F.f 2 rfl) (F.f 3 rfl) (fun va vb vc w h1 h2 h3 => q_rLerp va vb vc x y z w h1 h2 h3 (hx.mono (by decide)) (hy.mono (by decide)) (hz.mono (by decide))) (fun _ _ h => ofQ h)).b, ?_⟩
          refine ⟨fun _ _ F => gR rfl rfl (arm_C2 rfl (enters Try.func16 rfl rfl) (F.f 0 rfl) (F.f 4 rfl) (fun va vb w h1 h2 => q_Same va vb (x.lerp y z) (x.lerp y z) w h1 h2 ((hx.add (hz.mul (hy.sub hx))).mono (by decide)) ((hx.add (hz.mul (hy.sub hx))).mono (by decide))) (fun _ _ h => by have h' : RetV _ _ _ _ := h; rw [Fq.same_refl (x.lerp y z)] at h'; exact ofV h')).b, ?_⟩
          refine ⟨fun _ _ F => gR rfl rfl (arm_not rfl (F.f 5 rfl)).b, ?_⟩
          refine ⟨fun _ _ F => gR rfl rfl (arm_move (.inl rfl) (F.f 6 rfl)).b, ?_⟩
          refine ⟨fun _ _ F => gG F rfl rfl rfl rfl (arm_loadF rfl (F.k 3 (Value.pointer (some ⟨w.heap.size, 0, none⟩))) (V0.mono F.below)).b, ?_⟩
          refine ⟨fun _ _ F => gG F rfl rfl rfl rfl (arm_loadF rfl (F.k 4 (Value.pointer (some ⟨w.heap.size + 1, 0, none⟩))) (V1.mono F.below)).b, ?_⟩
          refine ⟨fun _ _ F => gG F rfl rfl rfl rfl (arm_C1 rfl (enters Try.func23 rfl rfl) Is.const (fun va w h1 => by have e_va : va = _ := h1; subst e_va; exact q_rInt 0 w (by decide) (by decide)) (fun _ _ h => ofQ h)).b, ?_⟩
          refine ⟨fun _ _ F => gG F rfl rfl rfl rfl (arm_C3 rfl (enters Try.func27 rfl rfl) (F.f 8 rfl) (F.f 9 rfl) (F.f 10 rfl) (fun va vb vc w h1 h2 h3 => q_fLerp va vb vc x y (Fq.ofInt 0) w h1 h2 h3 (hx.mono (by decide)) (hy.mono (by decide)) ((ok_int (by decide) (by decide)).mono (by decide))) (fun _ _ h => ofQ h)).b, ?_⟩
          refine ⟨fun _ _ F => gG F rfl rfl rfl rfl (arm_loadF rfl (F.k 3 (Value.pointer (some ⟨w.heap.size, 0, none⟩))) (V0.mono F.below)).b, ?_⟩
          refine ⟨fun _ _ F => gG F rfl rfl rfl rfl (arm_C2 rfl (enters Try.func16 rfl rfl) (F.f 11 rfl) (F.f 12 rfl) (fun va vb w h1 h2 => q_Same va vb (x.lerp y (Fq.ofInt 0)) x w h1 h2 ((hx.add ((ok_int (by decide) (by decide)).mul (hy.sub hx))).mono (by decide)) (hx.mono (by decide))) (fun _ _ h => by have h' : RetV _ _ _ _ := h; rw [S0.out] at h'; exact ofV h')).b, ?_⟩
          refine ⟨fun _ _ F => gG F rfl rfl rfl rfl (arm_not rfl (F.f 13 rfl)).b, ?_⟩
          refine ⟨fun _ _ F => gR rfl rfl (arm_pick rfl (F.f 7 rfl) (fun h => by cases h) (fun _ => (F.f 14 rfl))).b, ?_⟩
          refine ⟨fun _ _ F => gR rfl rfl (arm_move (.inl rfl) (F.f 15 rfl)).b, ?_⟩
          refine ⟨fun _ _ F => gG F rfl rfl rfl rfl (arm_loadF rfl (F.k 3 (Value.pointer (some ⟨w.heap.size, 0, none⟩))) (V0.mono F.below)).b, ?_⟩
          refine ⟨fun _ _ F => gG F rfl rfl rfl rfl (arm_loadF rfl (F.k 4 (Value.pointer (some ⟨w.heap.size + 1, 0, none⟩))) (V1.mono F.below)).b, ?_⟩
          refine ⟨fun _ _ F => gG F rfl rfl rfl rfl (arm_C1 rfl (enters Try.func23 rfl rfl) Is.const (fun va w h1 => by have e_va : va = _ := h1; subst e_va; exact q_rInt 1 w (by decide) (by decide)) (fun _ _ h => ofQ h)).b, ?_⟩
          refine ⟨fun _ _ F => gG F rfl rfl rfl rfl (arm_C3 rfl (enters Try.func27 rfl rfl) (F.f 17 rfl) (F.f 18 rfl) (F.f 19 rfl) (fun va vb vc w h1 h2 h3 => q_fLerp va vb vc x y (Fq.ofInt 1) w h1 h2 h3 (hx.mono (by decide)) (hy.mono (by decide)) ((ok_int (by decide) (by decide)).mono (by decide))) (fun _ _ h => ofQ h)).b, ?_⟩
          refine ⟨fun _ _ F => gG F rfl rfl rfl rfl (arm_loadF rfl (F.k 4 (Value.pointer (some ⟨w.heap.size + 1, 0, none⟩))) (V1.mono F.below)).b, ?_⟩
          refine ⟨fun _ _ F => gG F rfl rfl rfl rfl (arm_C2 rfl (enters Try.func16 rfl rfl) (F.f 20 rfl) (F.f 21 rfl) (fun va vb w h1 h2 => q_Same va vb (x.lerp y (Fq.ofInt 1)) y w h1 h2 ((hx.add ((ok_int (by decide) (by decide)).mul (hy.sub hx))).mono (by decide)) (hy.mono (by decide))) (fun _ _ h => by have h' : RetV _ _ _ _ := h; rw [S1.out] at h'; exact ofV h')).b, ?_⟩
          refine ⟨fun _ _ F => gG F rfl rfl rfl rfl (arm_not rfl (F.f 22 rfl)).b, ?_⟩
          refine ⟨fun _ _ F => gR rfl rfl (arm_pick rfl (F.f 16 rfl) (fun h => by cases h) (fun _ => (F.f 23 rfl))).b, ?_⟩
          exact trivial
        intro E' hE gp wp bp G Gs
        obtain rfl : E' = [] := by simpa [subs] using hE
        have e_24 : gp 24 = Value.bool false := G 24 50 _ (by simp) rfl
        clear G Gs hE
        simp only [lLeT8]
        simp only [qA, setD, qZ, qS, e_24]
        refine wpAny_done (by kernel_rfl) ?_ _
        go_wp2_with fail
        go_meet
        case rel => exact ⟨rfl, (V0.mono bp), (V1.mono bp), (V2.mono bp), (V7.mono bp), (hb1.trans (bp.mono hb1.size))⟩
      case rest =>
      clear V0 V1 V2 V7 hb1
      obtain ⟨rfl, V0, V1, V2, V7, hb1⟩ := hcut
      go_upto_region 6 with (fail)
      go_cut [59] (fun s_59 wx => s_59 = Value.bool false ∧ VarQ wx w.heap.size x ∧ VarQ wx (w.heap.size + 1) y ∧ VarQ wx (w.heap.size + 2) z ∧ VarQ wx g7 (x.lerp y z) ∧ Below w.heap.size w wx)
      case first =>
        refine tG Try.f6 6 (lLeT9 x y z) [] 5 0 ?_ ?_
        · refine ⟨fun _ _ F => gR rfl rfl (arm_loadF rfl (F.k 4 (Value.pointer (some ⟨w.heap.size + 1, 0, none⟩))) (V1.mono F.below)).b, ?_⟩
          refine ⟨fun _ _ F => gR rfl rfl (arm_loadF rfl (F.k 3 (Value.pointer (some ⟨w.heap.size, 0, none⟩))) (V0.mono F.below)).b, ?_⟩
          refine ⟨fun _ _ F => gR rfl rfl (arm_C1 rfl (enters Try.func23 rfl rfl) Is.const (fun va w h1 => by have e_va : va = _ := h1; subst e_va; exact q_rInt 1 w (by decide) (by decide)) (fun _ _ h => ofQ h)).b, ?_⟩
          refine ⟨fun _ _ F => gR rfl rfl (arm_loadF rfl (F.k 5 (Value.pointer (some ⟨w.heap.size + 2, 0, none⟩))) (V2.mono F.below)).b, ?_⟩
          refine ⟨fun _ _ F => gR rfl rfl (arm_C2 rfl (enters Try.func29 rfl rfl) (F.f 2 rfl) (F.f 3 rfl) (fun va vb w h1 h2 => q_rSub va vb (Fq.ofInt 1) z w h1 h2 ((ok_int (by decide) (by decide)).mono (by decide)) (hz.mono (by decide))) (fun _ _ h => ofQ h)).b, ?_⟩
          refine ⟨fun _ _ F => gR rfl rfl (arm_C3 rfl (enters Try.func27 rfl rfl) (F.f 0 rfl) (F.f 1 rfl) (F.f 4 rfl) (fun va vb vc w h1 h2 h3 => q_fLerp va vb vc y x ((Fq.ofInt 1).sub z) w h1 h2 h3 (hy.mono (by decide)) (hx.mono (by decide)) (((ok_int (by decide) (by decide)).sub hz).mono (by decide))) (fun _ _ h => ofQ h)).b, ?_⟩
          refine ⟨fun _ _ F => gR rfl rfl (arm_loadF rfl (F.k 7 (Value.pointer (some ⟨g7, 0, none⟩))) (V7.mono F.below)).b, ?_⟩
          refine ⟨fun _ _ F => gR rfl rfl (arm_C2 rfl (enters Try.func16 rfl rfl) (F.f 5 rfl) (F.f 6 rfl) (fun va vb w h1 h2 => q_Same va vb (y.lerp x ((Fq.ofInt 1).sub z)) (x.lerp y z) w h1 h2 ((hy.add (((ok_int (by decide) (by decide)).sub hz).mul (hx.sub hy))).mono (by decide)) ((hx.add (hz.mul (hy.sub hx))).mono (by decide))) (fun _ _ h => by have h' : RetV _ _ _ _ := h; rw [S2.out] at h'; exact ofV h')).b, ?_⟩
          refine ⟨fun _ _ F => gR rfl rfl (arm_not rfl (F.f 7 rfl)).b, ?_⟩
          exact trivial
        intro E' hE gp wp bp G Gs
        obtain rfl : E' = [] := by simpa [subs] using hE
        have e_8 : gp 8 = Value.bool false := G 8 59 _ (by simp) rfl
        clear G Gs hE
        simp only [lLeT9]
        simp only [qA, setD, qZ, qS, e_8]
        refine wpAny_done (by kernel_rfl) ?_ _
        go_wp2_with fail
        go_meet
        case rel => exact ⟨rfl, (V0.mono bp), (V1.mono bp), (V2.mono bp), (V7.mono bp), (hb1.trans (bp.mono hb1.size))⟩
      case rest =>
      clear V0 V1 V2 V7 hb1
      obtain ⟨rfl, V0, V1, V2, V7, hb1⟩ := hcut
      go_upto_region 8 with (fail)
      go_cut [68] (fun s_68 wx => s_68 = Value.bool true ∧ VarQ wx w.heap.size x ∧ VarQ wx (w.heap.size + 1) y ∧ VarQ wx (w.heap.size + 2) z ∧ VarQ wx g7 (x.lerp y z) ∧ Below w.heap.size w wx)
      case first =>
        refine tG Try.f6 8 (lLeT10 z k l) [] 8 0 ?_ ?_
        · refine ⟨fun _ _ F => gR rfl rfl (arm_loadF rfl (F.k 5 (Value.pointer (some ⟨w.heap.size + 2, 0, none⟩))) (V2.mono F.below)).b, ?_⟩
          refine ⟨fun _ _ F => gR rfl rfl (arm_C1 rfl (enters Try.func30 rfl rfl) (F.f 0 rfl) (fun va w h1 => q_rSign va z w h1 (hz.mono (by decide))) (fun _ _ h => by have h' : RetV _ _ _ _ := h; rw [hk.out] at h'; exact ofV h')).b, ?_⟩
          refine ⟨fun _ _ F => gR rfl rfl (arm_bin rfl (F.f 1 rfl) Is.const (fun _ => rfl) (fun w => by rw [G0.out]; rfl)).b, ?_⟩
          refine ⟨fun _ _ F => gR rfl rfl (arm_move (.inl rfl) (F.f 2 rfl)).b, ?_⟩
          refine ⟨fun _ _ F => gG F rfl rfl rfl rfl (arm_loadF rfl (F.k 5 (Value.pointer (some ⟨w.heap.size + 2, 0, none⟩))) (V2.mono F.below)).b, ?_⟩
          refine ⟨fun _ _ F => gG F rfl rfl rfl rfl (arm_C1 rfl (enters Try.func23 rfl rfl) Is.const (fun va w h1 => by have e_va : va = _ := h1; subst e_va; exact q_rInt 1 w (by decide) (by decide)) (fun _ _ h => ofQ h)).b, ?_⟩
          refine ⟨fun _ _ F => gG F rfl rfl rfl rfl (arm_C2 rfl (enters Try.func31 rfl rfl) (F.f 4 rfl) (F.f 5 rfl) (fun va vb w h1 h2 => q_rCmp va vb z (Fq.ofInt 1) w h1 h2 (hz.mono (by decide)) ((ok_int (by decide) (by decide)).mono (by decide))) (fun _ _ h => by have h' : RetV _ _ _ _ := h; rw [hl.out] at h'; exact ofV h')).b, ?_⟩
          refine ⟨fun _ _ F => gG F rfl rfl rfl rfl (arm_bin rfl (F.f 6 rfl) Is.const (fun _ => rfl) (fun w => by rw [G1.out]; rfl)).b, ?_⟩
          refine ⟨fun _ _ F => gR rfl rfl (arm_pick rfl (F.f 3 rfl) (fun h => by cases h) (fun _ => (F.f 7 rfl))).b, ?_⟩
          exact trivial
        intro E' hE gp wp bp G Gs
        obtain rfl : E' = [] := by simpa [subs] using hE
        have e_8 : gp 8 = Value.bool true := G 8 68 _ (by simp) rfl
        clear G Gs hE
        simp only [lLeT10]
        simp only [qA, setD, qZ, qS, e_8]
        refine wpAny_done (by kernel_rfl) ?_ _
        go_wp2_with fail
        go_meet
        case rel => exact ⟨rfl, (V0.mono bp), (V1.mono bp), (V2.mono bp), (V7.mono bp), (hb1.trans (bp.mono hb1.size))⟩
      case rest =>
      clear V0 V1 V2 V7 hb1
      obtain ⟨rfl, V0, V1, V2, V7, hb1⟩ := hcut
      go_upto_region 9 with (fail)
      go_cut [6] (fun s_6 wx => s_6 = Value.bool true ∧ VarQ wx w.heap.size x ∧ VarQ wx (w.heap.size + 1) y ∧ VarQ wx (w.heap.size + 2) z ∧ VarQ wx g7 (x.lerp y z) ∧ Below w.heap.size w wx)
      case first =>
        refine tF Try.f6 9 (lLeT11 ) [] 2 0 ?_ ?_
        · refine ⟨fun _ _ F => gR rfl rfl (arm_C0 rfl (enters Try.func11 rfl rfl)  (fun w => c_awake2 w) (fun _ _ h => ofV h)).b, ?_⟩
          refine ⟨fun _ _ F => gR rfl rfl (arm_move (.inr rfl) (F.f 0 rfl)).b, ?_⟩
          exact trivial
        intro E' hE gp wp bp G Gs
        obtain rfl : E' = [] := by simpa [subs] using hE
        have e_1 : gp 1 = Value.bool true := G 1 6 _ (by simp) rfl
        clear G Gs hE
        simp only [lLeT11]
        simp only [qA, setD, qZ, qS, e_1]
        refine wpAny_done (by kernel_rfl) ?_ _
        go_wp2_with fail
        go_meet
        case rel => exact ⟨rfl, (V0.mono bp), (V1.mono bp), (V2.mono bp), (V7.mono bp), (hb1.trans (bp.mono hb1.size))⟩
      case rest =>
      clear V0 V1 V2 V7 hb1
      obtain ⟨rfl, V0, V1, V2, V7, hb1⟩ := hcut
      go_wp2
      go_ret
      exact ⟨rfl, hb1⟩
    · have G1 : Hid (false = decide (0 < l)) := Lib.hid (decide_eq_false h1).symm
      obtain ⟨c, hc⟩ : ∃ c, Hid (x.cmp (x.lerp y z) = c) := ⟨_, Lib.hid rfl⟩
      obtain ⟨d, hd⟩ : ∃ d, Hid ((x.lerp y z).cmp y = d) := ⟨_, Lib.hid rfl⟩
      have hbt := l_between ex ey ez (by rw [hk.out]; exact h0) (by rw [hl.out]; exact h1)
      rw [hc.out, hd.out] at hbt
      have rc := sgn_range (x.sub (x.lerp y z))
      have rd := sgn_range ((x.lerp y z).sub y)
      rw [show (x.sub (x.lerp y z)).sgn = c from hc.out] at rc
      rw [show ((x.lerp y z).sub y).sgn = d from hd.out] at rd
      have HM : Hid (IntKind.i64.wrap (c * d) = (c * d)) := Lib.hid (by rcases rc with rfl | rfl | rfl <;> rcases rd with rfl | rfl | rfl <;> decide +kernel)
      have GM : Hid (true = decide (0 ≤ (c * d))) := Lib.hid (decide_eq_true hbt).symm
      clear h0 h1 hbt rc rd
      obtain ⟨a0, c0, b0, d0, rfl, m0, k0⟩ := boxF ix
      obtain ⟨a1, c1, b1, d1, rfl, m1, k1⟩ := boxF (iy.mono m0)
      rw [World.size_alloc ] at k1
      have n1 := m0.trans (m1.mono m0.size)
      obtain ⟨a2, c2, b2, d2, rfl, m2, k2⟩ := boxF (iz.mono n1)
      rw [World.size_alloc, World.size_alloc ] at k2
      have n2 := n1.trans (m2.mono n1.size)
      clear ix iy iz
      go_enter Try.func6, Try.ntmps6
      go_upto_region 0 with (fail)
      go_cut [3, 4, 5, 6] (fun s_3 s_4 s_5 s_6 wx => s_3 = Value.pointer (some ⟨w.heap.size, 0, none⟩) ∧ s_4 = Value.pointer (some ⟨w.heap.size + 1, 0, none⟩) ∧ s_5 = Value.pointer (some ⟨w.heap.size + 2, 0, none⟩) ∧ s_6 = Value.bool false ∧ VarQ wx w.heap.size x ∧ VarQ wx (w.heap.size + 1) y ∧ VarQ wx (w.heap.size + 2) z ∧ Below w.heap.size w wx)
      case first =>
        go_wp2_with fail
        go_meet
        case rel => exact ⟨rfl, rfl, rfl, rfl, ((k0.mono m1).mono m2), (k1.mono m2), k2, n2⟩
      case rest =>
      clear m0 k0 m1 k1 m2 k2 n1 n2
      obtain ⟨rfl, rfl, rfl, rfl, V0, V1, V2, hb1⟩ := hcut
      go_upto_region 1 with (fail)
      go_cut [20] (fun s_20 wx => s_20 = Value.bool false ∧ VarQ wx w.heap.size x ∧ VarQ wx (w.heap.size + 1) y ∧ VarQ wx (w.heap.size + 2) z ∧ Below w.heap.size w wx)
      case first =>
        refine tF Try.f6 1 (lLeT12 x y z) [] 13 0 ?_ ?_
        · refine ⟨fun _ _ F => gR rfl rfl (arm_loadF rfl (F.k 3 (Value.pointer (some ⟨w.heap.size, 0, none⟩))) (V0.mono F.below)).b, ?_⟩
          refine ⟨fun _ _ F => gR rfl rfl (arm_C1 rfl (enters Try.func18 rfl rfl) (F.f 0 rfl) (fun va w h1 => q_fitQ va x w h1 hx ex) (fun _ _ h => ofV h)).b, ?_⟩
          refine ⟨fun _ _ F => gR rfl rfl (arm_not rfl (F.f 1 rfl)).b, ?_⟩
          refine ⟨fun _ _ F => gR rfl rfl (arm_move (.inl rfl) (F.f 2 rfl)).b, ?_⟩
          refine ⟨fun _ _ F => gG F rfl rfl rfl rfl (arm_loadF rfl (F.k 4 (Value.pointer (some ⟨w.heap.size + 1, 0, none⟩))) (V1.mono F.below)).b, ?_⟩
          refine ⟨fun _ _ F => gG F rfl rfl rfl rfl (arm_C1 rfl (enters Try.func18 rfl rfl) (F.f 4 rfl) (fun va w h1 => q_fitQ va y w h1 hy ey) (fun _ _ h => ofV h)).b, ?_⟩
          refine ⟨fun _ _ F => gG F rfl rfl rfl rfl (arm_not rfl (F.f 5 rfl)).b, ?_⟩
          refine ⟨fun _ _ F => gR rfl rfl (arm_pick rfl (F.f 3 rfl) (fun h => by cases h) (fun _ => (F.f 6 rfl))).b, ?_⟩
          refine ⟨fun _ _ F => gR rfl rfl (arm_move (.inl rfl) (F.f 7 rfl)).b, ?_⟩
          refine ⟨fun _ _ F => gG F rfl rfl rfl rfl (arm_loadF rfl (F.k 5 (Value.pointer (some ⟨w.heap.size + 2, 0, none⟩))) (V2.mono F.below)).b, ?_⟩
          refine ⟨fun _ _ F => gG F rfl rfl rfl rfl (arm_C1 rfl (enters Try.func18 rfl rfl) (F.f 9 rfl) (fun va w h1 => q_fitQ va z w h1 hz ez) (fun _ _ h => ofV h)).b, ?_⟩
          refine ⟨fun _ _ F => gG F rfl rfl rfl rfl (arm_not rfl (F.f 10 rfl)).b, ?_⟩
          refine ⟨fun _ _ F => gR rfl rfl (arm_pick rfl (F.f 8 rfl) (fun h => by cases h) (fun _ => (F.f 11 rfl))).b, ?_⟩
          exact trivial
        intro E' hE gp wp bp G Gs
        obtain rfl : E' = [] := by simpa [subs] using hE
        have e_12 : gp 12 = Value.bool false := G 12 20 _ (by simp) rfl
        clear G Gs hE
        simp only [lLeT12]
        simp only [qA, setD, qZ, qS, e_12]
        refine wpAny_done (by kernel_rfl) ?_ _
        go_wp2_with fail
        go_meet
        case rel => exact ⟨rfl, (V0.mono bp), (V1.mono bp), (V2.mono bp), (hb1.trans (bp.mono hb1.size))⟩
      case rest =>
      clear V0 V1 V2 hb1
      obtain ⟨rfl, V0, V1, V2, hb1⟩ := hcut
      go_upto_region 3 with (fail)
      go_cut [7] (fun s_7 wx => ∃ g7, s_7 = Value.pointer (some ⟨g7, 0, none⟩) ∧ w.heap.size + 3 ≤ g7 ∧ VarQ wx g7 (x.lerp y z) ∧ VarQ wx w.heap.size x ∧ VarQ wx (w.heap.size + 1) y ∧ VarQ wx (w.heap.size + 2) z ∧ Below w.heap.size w wx)
      case first =>
        obtain ⟨base, hbase0⟩ : ∃ b : Nat, Hid (b = wc.heap.size) := ⟨_, Lib.hid rfl⟩
        have hbase : base ≤ wc.heap.size := by rw [hbase0.out]; exact Nat.le_refl _
        have hbw : w.heap.size + 3 ≤ base := by have := hb1.size; have h1 := V2.lt; rw [hbase0.out]; omega
        have l_V0 : w.heap.size < base := by rw [hbase0.out]; exact V0.lt
        have l_V1 : w.heap.size + 1 < base := by rw [hbase0.out]; exact V1.lt
        have l_V2 : w.heap.size + 2 < base := by rw [hbase0.out]; exact V2.lt
        refine wp_tabGF Try.f6 3 (lLeT13 x y z base) [] (fun i => i == 4) 3 1 (by kernel_rfl) (by kernel_rfl) (by kernel_rfl) (by kernel_rfl) (by kernel_rfl) ⟨fun h => (by cases h), ⟨fun h => (by cases h), ⟨fun h => (by cases h), ⟨fun h => (by cases h), ⟨fun _ w v h => Sp.varF_lt h, trivial⟩⟩⟩⟩⟩ ?_ ?_
        · refine ⟨fun _ _ F => gR rfl rfl (arm_loadF rfl (F.k 3 (Value.pointer (some ⟨w.heap.size, 0, none⟩))) (V0.mono F.below)).b, ?_⟩
          refine ⟨fun _ _ F => gR rfl rfl (arm_loadF rfl (F.k 4 (Value.pointer (some ⟨w.heap.size + 1, 0, none⟩))) (V1.mono F.below)).b, ?_⟩
          refine ⟨fun _ _ F => gR rfl rfl (arm_loadF rfl (F.k 5 (Value.pointer (some ⟨w.heap.size + 2, 0, none⟩))) (V2.mono F.below)).b, ?_⟩
          refine ⟨fun _ _ F => gR rfl rfl (arm_C3 rfl (enters Try.func27 rfl rfl) (F.f 0 rfl) (F.f 1 rfl) (F.f 2 rfl) (fun va vb vc w h1 h2 h3 => q_fLerp va vb vc x y z w h1 h2 h3 (hx.mono (by decide)) (hy.mono (by decide)) (hz.mono (by decide))) (fun _ _ h => ofQ h)).b, ?_⟩
          refine ⟨fun _ _ F => gR rfl rfl (arm_allocF rfl (Nat.le_trans hbase F.below.size)), ?_⟩
          exact trivial
        intro E' hE gp wp bp G Gs
        obtain rfl : E' = [] := by simpa [subs] using hE
        obtain ⟨g7, e_4, lg_4, hv_4⟩ := G 4 7 _ (by simp) rfl
        have n_3 : (Sp.fq (x.lerp y z)).p wp (gp 3) := G 3 25 _ (by simp) rfl
        clear G Gs hE
        simp only [lLeT13]
        simp only [qA, setD, qZ, qS, e_4]
        have T0 := hv_4
        refine wpAny_storeFr (j := 5) (by kernel_rfl) rfl rfl rfl rfl rfl n_3 T0.any ?_
        intro w0 u0 v0
        have O0 := T0.own
        refine wpAny_done (by kernel_rfl) ?_ _
        go_wp2_with fail
        go_meet
        case rel => exact ⟨g7, rfl, (by omega), v0, ((V0.mono bp).upd O0 u0 (by omega)), ((V1.mono bp).upd O0 u0 (by omega)), ((V2.mono bp).upd O0 u0 (by omega)), (Upd.below (hb1.trans (bp.mono hb1.size)) u0 (by omega))⟩
      case rest =>
      clear V0 V1 V2 hb1
      obtain ⟨g7, rfl, lg7, V7, V0, V1, V2, hb1⟩ := hcut
      go_upto_region 4 with (fail)
      go_cut [50] (fun s_50 wx => s_50 = Value.bool false ∧ VarQ wx w.heap.size x ∧ VarQ wx (w.heap.size + 1) y ∧ VarQ wx (w.heap.size + 2) z ∧ VarQ wx g7 (x.lerp y z) ∧ Below w.heap.size w wx)
      case first =>
        refine tG Try.f6 4 (lLeT14 x y z) [] 16 0 ?_ ?_
        · refine ⟨fun _ _ F => gR rfl rfl (arm_loadF rfl (F.k 7 (Value.pointer (some ⟨g7, 0, none⟩))) (V7.mono F.below)).b, ?_⟩
          refine ⟨fun _ _ F => gR rfl rfl (arm_loadF rfl (F.k 3 (Value.pointer (some ⟨w.heap.size, 0, none⟩))) (V0.mono F.below)).b, ?_⟩
          refine ⟨fun _ _ F => gR rfl rfl (arm_loadF rfl (F.k 4 (Value.pointer (some ⟨w.heap.size + 1, 0, none⟩))) (V1.mono F.below)).b, ?_⟩
          refine ⟨fun _ _ F => gR rfl rfl (arm_loadF rfl (F.k 5 (Value.pointer (some ⟨w.heap.size + 2, 0, none⟩))) (V2.mono F.below)).b, ?_⟩
          refine ⟨fun _ _ F => gR rfl rfl (arm_C3 rfl (enters Try.func28 rfl rfl) (F.f 1 rfl) (F.f 2 rfl) (F.f 3 rfl) (fun va vb vc w h1 h2 h3 => q_rLerp va vb vc x y z w h1 h2 h3 (hx.mono (by decide)) (hy.mono (by decide)) (hz.mono (by decide))) (fun _ _ h => ofQ h)).b, ?_⟩
          refine ⟨fun _ _ F => gR rfl rfl (arm_C2 rfl (enters Try.func16 rfl rfl) (F.f 0 rfl) (F.f 4 rfl) (fun va vb w h1 h2 => q_Same va vb (x.lerp y z) (x.lerp y z) w h1 h2 ((hx.add (hz.mul (hy.sub hx))).mono (by decide)) ((hx.add (hz.mul (hy.sub hx))).mono (by decide))) (fun _ _ h => by have h' : RetV _ _ _ _ := h; rw [Fq.same_refl (x.lerp y z)] at h'; exact ofV h')).b, ?_⟩
          refine ⟨fun _ _ F => gR rfl rfl (arm_not rfl (F.f 5 rfl)).b, ?_⟩
          refine ⟨fun _ _ F => gR rfl rfl (arm_move (.inl rfl) (F.f 6 rfl)).b, ?_⟩
          refine ⟨fun _ _ F => gG F rfl rfl rfl rfl (arm_loadF rfl (F.k 3 (Value.pointer (some ⟨w.heap.size, 0, none⟩))) (V0.mono F.below)).b, ?_⟩
          refine ⟨fun _ _ F => gG F rfl rfl rfl rfl (arm_loadF rfl (F.k 4 (Value.pointer (some ⟨w.heap.size + 1, 0, none⟩))) (V1.mono F.below)).b, ?_⟩
          refine ⟨fun _ _ F => gG F rfl rfl rfl rfl (arm_C1 rfl (enters Try.func23 rfl rfl) Is.const (fun va w h1 => by have e_va : va = _ := h1; subst e_va; exact q_rInt 0 w (by decide) (by decide)) (fun _ _ h => ofQ h)).b, ?_⟩
          refine ⟨fun _ _ F => gG F rfl rfl rfl rfl (arm_C3 rfl (enters Try.func27 rfl rfl) (F.f 8 rfl) (F.f 9 rfl) (F.f 10 rfl) (fun va vb vc w h1 h2 h3 => q_fLerp va vb vc x y (Fq.ofInt 0) w h1 h2 h3 (hx.mono (by decide)) (hy.mono (by decide)) ((ok_int (by decide) (by decide)).mono (by decide))) (fun _ _ h => ofQ h)).b, ?_⟩
          refine ⟨fun _ _ F => gG F rfl rfl rfl rfl (arm_loadF rfl (F.k 3 (Value.pointer (some ⟨w.heap.size, 0, none⟩))) (V0.mono F.below)).b, ?_⟩
          refine ⟨fun _ _ F => gG F rfl rfl rfl rfl (arm_C2 rfl (enters Try.func16 rfl rfl) (F.f 11 rfl) (F.f 12 rfl) (fun va vb w h1 h2 => q_Same va vb (x.lerp y (Fq.ofInt 0)) x w h1 h2 ((hx.add ((ok_int (by decide) (by decide)).mul (hy.sub hx))).mono (by decide)) (hx.mono (by decide))) (fun _ _ h => by have h' : RetV _ _ _ _ := h; rw [S0.out] at h'; exact ofV h')).b, ?_⟩
          refine ⟨fun _ _ F => gG F rfl rfl rfl rfl (arm_not rfl (F.f 13 rfl)).b, ?_⟩
          refine ⟨fun _ _ F => gR rfl rfl (arm_pick rfl (F.f 7 rfl) (fun h => by cases h) (fun _ => (F.f 14 rfl))).b, ?_⟩
          refine ⟨fun _ _ F => gR rfl rfl (arm_move (.inl rfl) (F.f 15 rfl)).b, ?_⟩
          refine ⟨fun _ _ F => gG F rfl rfl rfl rfl (arm_loadF rfl (F.k 3 (Value.pointer (some ⟨w.heap.size, 0, none⟩))) (V0.mono F.below)).b, ?_⟩
          refine ⟨fun _ _ F => gG F rfl rfl rfl rfl (arm_loadF rfl (F.k 4 (Value.pointer (some ⟨w.heap.size + 1, 0, none⟩))) (V1.mono F.below)).b, ?_⟩
          refine ⟨fun _ _ F => gG F rfl rfl rfl rfl (arm_C1 rfl (enters Try.func23 rfl rfl) Is.const (fun va w h1 => by have e_va : va = _ := h1; subst e_va; exact q_rInt 1 w (by decide) (by decide)) (fun _ _ h => ofQ h)).b, ?_⟩
          refine ⟨fun _ _ F => gG F rfl rfl rfl rfl (arm_C3 rfl (enters Try.func27 rfl rfl) (F.f 17 rfl) (F.f 18 rfl) (F.f 19 rfl) (fun va vb vc w h1 h2 h3 => q_fLerp va vb vc x y (Fq.ofInt 1) w h1 h2 h3 (hx.mono (by decide)) (hy.mono (by decide)) ((ok_int (by decide) (by decide)).mono (by decide))) (fun _ _ h => ofQ h)).b, ?_⟩
          refine ⟨fun _ _ F => gG F rfl rfl rfl rfl (arm_loadF rfl (F.k 4 (Value.pointer (some ⟨w.heap.size + 1, 0, none⟩))) (V1.mono F.below)).b, ?_⟩
          refine ⟨fun _ _ F => gG F rfl rfl rfl rfl (arm_C2 rfl (enters Try.func16 rfl rfl) (F.f 20 rfl) (F.f 21 rfl) (fun va vb w h1 h2 => q_Same va vb (x.lerp y (Fq.ofInt 1)) y w h1 h2 ((hx.add ((ok_int (by decide) (by decide)).mul (hy.sub hx))).mono (by decide)) (hy.mono (by decide))) (fun _ _ h => by have h' : RetV _ _ _ _ := h; rw [S1.out] at h'; exact ofV h')).b, ?_⟩
          refine ⟨fun _ _ F => gG F rfl rfl rfl rfl (arm_not rfl (F.f 22 rfl)).b, ?_⟩
          refine ⟨fun _ _ F => gR rfl rfl (arm_pick rfl (F.f 16 rfl) (fun h => by cases h) (fun _ => (F.f 23 rfl))).b, ?_⟩
          exact trivial
        intro E' hE gp wp bp G Gs
        obtain rfl : E' = [] := by simpa [subs] using hE
        have e_24 : gp 24 = Value.bool false := G 24 50 _ (by simp) rfl
        clear G Gs hE
        simp only [lLeT14]
        simp only [qA, setD, qZ, qS, e_24]
        refine wpAny_done (by kernel_rfl) ?_ _
        go_wp2_with fail
        go_meet
        case rel => exact ⟨rfl, (V0.mono bp), (V1.mono bp), (V2.mono bp), (V7.mono bp), (hb1.trans (bp.mono hb1.size))⟩
      case rest =>
      clear V0 V1 V2 V7 hb1
      obtain ⟨rfl, V0, V1, V2, V7, hb1⟩ := hcut
      go_upto_region 6 with (fail)
      go_cut [59] (fun s_59 wx => s_59 = Value.bool false ∧ VarQ wx w.heap.size x ∧ VarQ wx (w.heap.size + 1) y ∧ VarQ wx (w.heap.size + 2) z ∧ VarQ wx g7 (x.lerp y z) ∧ Below w.heap.size w wx)
      case first =>
        refine tG Try.f6 6 (lLeT15 x y z) [] 5 0 ?_ ?_
        · refine ⟨fun _ _ F => gR rfl rfl (arm_loadF rfl (F.k 4 (Value.pointer (some ⟨w.heap.size + 1, 0, none⟩))) (V1.mono F.below)).b, ?_⟩
          refine ⟨fun _ _ F => gR rfl rfl (arm_loadF rfl (F.k 3 (Value.pointer (some ⟨w.heap.size, 0, none⟩))) (V0.mono F.below)).b, ?_⟩
          refine ⟨fun _ _ F => gR rfl rfl (arm_C1 rfl (enters Try.func23 rfl rfl) Is.const (fun va w h1 => by have e_va : va = _ := h1; subst e_va; exact q_rInt 1 w (by decide) (by decide)) (fun _ _ h => ofQ h)).b, ?_⟩
          refine ⟨fun _ _ F => gR rfl rfl (arm_loadF rfl (F.k 5 (Value.pointer (some ⟨w.heap.size + 2, 0, none⟩))) (V2.mono F.below)).b, ?_⟩
          refine ⟨fun _ _ F => gR rfl rfl (arm_C2 rfl (enters Try.func29 rfl rfl) (F.f 2 rfl) (F.f 3 rfl) (fun va vb w h1 h2 => q_rSub va vb (Fq.ofInt 1) z w h1 h2 ((ok_int (by decide) (by decide)).mono (by decide)) (hz.mono (by decide))) (fun _ _ h => ofQ h)).b, ?_⟩
          refine ⟨fun _ _ F => gR rfl rfl (arm_C3 rfl (enters Try.func27 rfl rfl) (F.f 0 rfl) (F.f 1 rfl) (F.f 4 rfl) (fun va vb vc w h1 h2 h3 => q_fLerp va vb vc y x ((Fq.ofInt 1).sub z) w h1 h2 h3 (hy.mono (by decide)) (hx.mono (by decide)) (((ok_int (by decide) (by decide)).sub hz).mono (by decide))) (fun _ _ h => ofQ h)).b, ?_⟩
          refine ⟨fun _ _ F => gR rfl rfl (arm_loadF rfl (F.k 7 (Value.pointer (some ⟨g7, 0, none⟩))) (V7.mono F.below)).b, ?_⟩
          refine ⟨fun _ _ F => gR rfl rfl (arm_C2 rfl (enters Try.func16 rfl rfl) (F.f 5 rfl) (F.f 6 rfl) (fun va vb w h1 h2 => q_Same va vb (y.lerp x ((Fq.ofInt 1).sub z)) (x.lerp y z) w h1 h2 ((hy.add (((ok_int (by decide) (by decide)).sub hz).mul (hx.sub hy))).mono (by decide)) ((hx.add (hz.mul (hy.sub hx))).mono (by decide))) (fun _ _ h => by have h' : RetV _ _ _ _ := h; rw [S2.out] at h'; exact ofV h')).b, ?_⟩
          refine ⟨fun _ _ F => gR rfl rfl (arm_not rfl (F.f 7 rfl)).b, ?_⟩
          exact trivial
        intro E' hE gp wp bp G Gs
        obtain rfl : E' = [] := by simpa [subs] using hE
        have e_8 : gp 8 = Value.bool false := G 8 59 _ (by simp) rfl
        clear G Gs hE
        simp only [lLeT15]
        simp only [qA, setD, qZ, qS, e_8]
        refine wpAny_done (by kernel_rfl) ?_ _
        go_wp2_with fail
        go_meet
        case rel => exact ⟨rfl, (V0.mono bp), (V1.mono bp), (V2.mono bp), (V7.mono bp), (hb1.trans (bp.mono hb1.size))⟩
      case rest =>
      clear V0 V1 V2 V7 hb1
      obtain ⟨rfl, V0, V1, V2, V7, hb1⟩ := hcut
      go_upto_region 8 with (fail)
      go_cut [68] (fun s_68 wx => s_68 = Value.bool false ∧ VarQ wx w.heap.size x ∧ VarQ wx (w.heap.size + 1) y ∧ VarQ wx (w.heap.size + 2) z ∧ VarQ wx g7 (x.lerp y z) ∧ Below w.heap.size w wx)
      case first =>
        refine tG Try.f6 8 (lLeT16 z k l) [] 8 0 ?_ ?_
        · refine ⟨fun _ _ F => gR rfl rfl (arm_loadF rfl (F.k 5 (Value.pointer (some ⟨w.heap.size + 2, 0, none⟩))) (V2.mono F.below)).b, ?_⟩
          refine ⟨fun _ _ F => gR rfl rfl (arm_C1 rfl (enters Try.func30 rfl rfl) (F.f 0 rfl) (fun va w h1 => q_rSign va z w h1 (hz.mono (by decide))) (fun _ _ h => by have h' : RetV _ _ _ _ := h; rw [hk.out] at h'; exact ofV h')).b, ?_⟩
          refine ⟨fun _ _ F => gR rfl rfl (arm_bin rfl (F.f 1 rfl) Is.const (fun _ => rfl) (fun w => by rw [G0.out]; rfl)).b, ?_⟩
          refine ⟨fun _ _ F => gR rfl rfl (arm_move (.inl rfl) (F.f 2 rfl)).b, ?_⟩
          refine ⟨fun _ _ F => gG F rfl rfl rfl rfl (arm_loadF rfl (F.k 5 (Value.pointer (some ⟨w.heap.size + 2, 0, none⟩))) (V2.mono F.below)).b, ?_⟩
          refine ⟨fun _ _ F => gG F rfl rfl rfl rfl (arm_C1 rfl (enters Try.func23 rfl rfl) Is.const (fun va w h1 => by have e_va : va = _ := h1; subst e_va; exact q_rInt 1 w (by decide) (by decide)) (fun _ _ h => ofQ h)).b, ?_⟩
          refine ⟨fun _ _ F => gG F rfl rfl rfl rfl (arm_C2 rfl (enters Try.func31 rfl rfl) (F.f 4 rfl) (F.f 5 rfl) (fun va vb w h1 h2 => q_rCmp va vb z (Fq.ofInt 1) w h1 h2 (hz.mono (by decide)) ((ok_int (by decide) (by decide)).mono (by decide))) (fun _ _ h => by have h' : RetV _ _ _ _ := h; rw [hl.out] at h'; exact ofV h')).b, ?_⟩
          refine ⟨fun _ _ F => gG F rfl rfl rfl rfl (arm_bin rfl (F.f 6 rfl) Is.const (fun _ => rfl) (fun w => by rw [G1.out]; rfl)).b, ?_⟩
          refine ⟨fun _ _ F => gR rfl rfl (arm_pick rfl (F.f 3 rfl) (fun h => by cases h) (fun _ => (F.f 7 rfl))).b, ?_⟩
          exact trivial
        intro E' hE gp wp bp G Gs
        obtain rfl : E' = [] := by simpa [subs] using hE
        have e_8 : gp 8 = Value.bool false := G 8 68 _ (by simp) rfl
        clear G Gs hE
        simp only [lLeT16]
        simp only [qA, setD, qZ, qS, e_8]
        refine wpAny_done (by kernel_rfl) ?_ _
        go_wp2_with fail
        go_meet
        case rel => exact ⟨rfl, (V0.mono bp), (V1.mono bp), (V2.mono bp), (V7.mono bp), (hb1.trans (bp.mono hb1.size))⟩
      case rest =>
      clear V0 V1 V2 V7 hb1
      obtain ⟨rfl, V0, V1, V2, V7, hb1⟩ := hcut
      go_upto_region 10 with (fail)
      go_cut [6] (fun s_6 wx => s_6 = Value.bool true ∧ VarQ wx w.heap.size x ∧ VarQ wx (w.heap.size + 1) y ∧ VarQ wx (w.heap.size + 2) z ∧ VarQ wx g7 (x.lerp y z) ∧ Below w.heap.size w wx)
      case first =>
        refine tG Try.f6 10 (lLeT17 x y z c d) [] 9 0 ?_ ?_
        · refine ⟨fun _ _ F => gR rfl rfl (arm_loadF rfl (F.k 3 (Value.pointer (some ⟨w.heap.size, 0, none⟩))) (V0.mono F.below)).b, ?_⟩
          refine ⟨fun _ _ F => gR rfl rfl (arm_loadF rfl (F.k 7 (Value.pointer (some ⟨g7, 0, none⟩))) (V7.mono F.below)).b, ?_⟩
          refine ⟨fun _ _ F => gR rfl rfl (arm_C2 rfl (enters Try.func31 rfl rfl) (F.f 0 rfl) (F.f 1 rfl) (fun va vb w h1 h2 => q_rCmp va vb x (x.lerp y z) w h1 h2 (hx.mono (by decide)) ((hx.add (hz.mul (hy.sub hx))).mono (by decide))) (fun _ _ h => by have h' : RetV _ _ _ _ := h; rw [hc.out] at h'; exact ofV h')).b, ?_⟩
          refine ⟨fun _ _ F => gR rfl rfl (arm_loadF rfl (F.k 7 (Value.pointer (some ⟨g7, 0, none⟩))) (V7.mono F.below)).b, ?_⟩
          refine ⟨fun _ _ F => gR rfl rfl (arm_loadF rfl (F.k 4 (Value.pointer (some ⟨w.heap.size + 1, 0, none⟩))) (V1.mono F.below)).b, ?_⟩
          refine ⟨fun _ _ F => gR rfl rfl (arm_C2 rfl (enters Try.func31 rfl rfl) (F.f 3 rfl) (F.f 4 rfl) (fun va vb w h1 h2 => q_rCmp va vb (x.lerp y z) y w h1 h2 ((hx.add (hz.mul (hy.sub hx))).mono (by decide)) (hy.mono (by decide))) (fun _ _ h => by have h' : RetV _ _ _ _ := h; rw [hd.out] at h'; exact ofV h')).b, ?_⟩
          refine ⟨fun _ _ F => gR rfl rfl (arm_bin rfl (F.f 2 rfl) (F.f 5 rfl) (fun _ => rfl) (fun w => run_mulI _ _ _ HM.out w)).b, ?_⟩
          refine ⟨fun _ _ F => gR rfl rfl (arm_bin rfl (F.f 6 rfl) Is.const (fun _ => rfl) (fun w => by rw [GM.out]; rfl)).b, ?_⟩
          refine ⟨fun _ _ F => gR rfl rfl (arm_move (.inl rfl) (F.f 7 rfl)).b, ?_⟩
          refine ⟨fun _ _ F => gG F rfl rfl rfl rfl (arm_C0 rfl (enters Try.func11 rfl rfl)  (fun w => c_awake2 w) (fun _ _ h => ofV h)).b, ?_⟩
          refine ⟨fun _ _ F => gR rfl rfl (arm_pick rfl (F.f 8 rfl) (fun _ => (F.f 9 rfl)) (fun h => by cases h)).b, ?_⟩
          refine ⟨fun _ _ F => gR rfl rfl (arm_move (.inr rfl) (F.f 10 rfl)).b, ?_⟩
          exact trivial
        intro E' hE gp wp bp G Gs
        obtain rfl : E' = [] := by simpa [subs] using hE
        have e_11 : gp 11 = Value.bool true := G 11 6 _ (by simp) rfl
        clear G Gs hE
        simp only [lLeT17]
        simp only [qA, setD, qZ, qS, e_11]
        refine wpAny_done (by kernel_rfl) ?_ _
        go_wp2_with fail
        go_meet
        case rel => exact ⟨rfl, (V0.mono bp), (V1.mono bp), (V2.mono bp), (V7.mono bp), (hb1.trans (bp.mono hb1.size))⟩
      case rest =>
      clear V0 V1 V2 V7 hb1
      obtain ⟨rfl, V0, V1, V2, V7, hb1⟩ := hcut
      go_wp2
      go_ret
      exact ⟨rfl, hb1⟩
def lLeUT0 (sx : Bool) (Lx : Nat) (px : Nat) (Nx : Nat) (qx : Nat) (sy : Bool) (Ly : Nat) (py : Nat) (Ny : Nat) (qy : Nat) (sz : Bool) (Lz : Nat) (pz : Nat) (Nz : Nat) (qz : Nat) : List (Nat × Tmp × Sp) :=
   [(0, 8, .frR sx Lx px Nx qx),
    (1, 9, .val (Value.bool true)),
    (2, 10, .val (Value.bool false)),
    (3, 11, .val (Value.bool false)),
    (4, 12, .frR sy Ly py Ny qy),
    (5, 13, .val (Value.bool true)),
    (6, 14, .val (Value.bool false)),
    (7, 15, .val (Value.bool false)),
    (8, 16, .val (Value.bool false)),
    (9, 17, .frR sz Lz pz Nz qz),
    (10, 18, .val (Value.bool false)),
    (11, 19, .val (Value.bool true)),
    (12, 20, .val (Value.bool true))]
def lLeUT1  : List (Nat × Tmp × Sp) :=
   [(0, 21, .val (Value.bool true)),
    (1, 6, .val (Value.bool true))]
def lLeUT2 (sx : Bool) (Lx : Nat) (px : Nat) (Nx : Nat) (qx : Nat) (sy : Bool) (Ly : Nat) (py : Nat) (Ny : Nat) (qy : Nat) : List (Nat × Tmp × Sp) :=
   [(0, 8, .frR sx Lx px Nx qx),
    (1, 9, .val (Value.bool true)),
    (2, 10, .val (Value.bool false)),
    (3, 11, .val (Value.bool false)),
    (4, 12, .frR sy Ly py Ny qy),
    (5, 13, .val (Value.bool false)),
    (6, 14, .val (Value.bool true)),
    (7, 15, .val (Value.bool true)),
    (8, 16, .val (Value.bool true)),
    (9, 17, .val undef),
    (10, 18, .val undef),
    (11, 19, .val undef),
    (12, 20, .val (Value.bool true))]
def lLeUT3  : List (Nat × Tmp × Sp) :=
   [(0, 21, .val (Value.bool true)),
    (1, 6, .val (Value.bool true))]
def lLeUT4 (sx : Bool) (Lx : Nat) (px : Nat) (Nx : Nat) (qx : Nat) : List (Nat × Tmp × Sp) :=
   [(0, 8, .frR sx Lx px Nx qx),
    (1, 9, .val (Value.bool false)),
    (2, 10, .val (Value.bool true)),
    (3, 11, .val (Value.bool true)),
    (4, 12, .val undef),
    (5, 13, .val undef),
    (6, 14, .val undef),
    (7, 15, .val (Value.bool true)),
    (8, 16, .val (Value.bool true)),
    (9, 17, .val undef),
    (10, 18, .val undef),
    (11, 19, .val undef),
    (12, 20, .val (Value.bool true))]
def lLeUT5  : List (Nat × Tmp × Sp) :=
   [(0, 21, .val (Value.bool true)),
    (1, 6, .val (Value.bool true))]
set_option maxHeartbeats 4000000 in
theorem c_lLeU (vx : Value) (sx : Bool) (Lx px Nx qx : Nat) (vy : Value) (sy : Bool) (Ly py Ny qy : Nat) (vz : Value) (sz : Bool) (Lz pz Nz qz : Nat) (w : World) (ix : IsFR w vx sx Lx px Nx qx) (iy : IsFR w vy sy Ly py Ny qy) (iz : IsFR w vz sz Lz pz Nz qz) (hn : ¬(FitP sx Lx px Nx qx ∧ FitP sy Ly py Ny qy ∧ FitP sz Lz pz Nz qz)) :
    Calls Try.prog 6 #[vx, vy, vz] w fun e w' => RetV w (.bool true) e w' := by
  by_cases fx : FitP sx Lx px Nx qx
  · by_cases fy : FitP sy Ly py Ny qy
    · have fz : ¬ FitP sz Lz pz Nz qz := fun h9 => hn ⟨fx, fy, h9⟩
      clear hn
      obtain ⟨a0, c0, b0, d0, rfl, m0, k0⟩ := boxR ix
      obtain ⟨a1, c1, b1, d1, rfl, m1, k1⟩ := boxR (iy.mono m0)
      rw [World.size_alloc ] at k1
      have n1 := m0.trans (m1.mono m0.size)
      obtain ⟨a2, c2, b2, d2, rfl, m2, k2⟩ := boxR (iz.mono n1)
      rw [World.size_alloc, World.size_alloc ] at k2
      have n2 := n1.trans (m2.mono n1.size)
      clear ix iy iz
      go_enter Try.func6, Try.ntmps6
      go_upto_region 0 with (fail)
      go_cut [3, 4, 5, 6] (fun s_3 s_4 s_5 s_6 wx => s_3 = Value.pointer (some ⟨w.heap.size, 0, none⟩) ∧ s_4 = Value.pointer (some ⟨w.heap.size + 1, 0, none⟩) ∧ s_5 = Value.pointer (some ⟨w.heap.size + 2, 0, none⟩) ∧ s_6 = Value.bool false ∧ VarFR wx w.heap.size sx Lx px Nx qx ∧ VarFR wx (w.heap.size + 1) sy Ly py Ny qy ∧ VarFR wx (w.heap.size + 2) sz Lz pz Nz qz ∧ Below w.heap.size w wx)
      case first =>
        go_wp2_with fail
        go_meet
        case rel => exact ⟨rfl, rfl, rfl, rfl, ((k0.mono m1).mono m2), (k1.mono m2), k2, n2⟩
      case rest =>
      clear m0 k0 m1 k1 m2 k2 n1 n2
      obtain ⟨rfl, rfl, rfl, rfl, V0, V1, V2, hb1⟩ := hcut
      go_upto_region 1 with (fail)
      go_cut [20] (fun s_20 wx => s_20 = Value.bool true ∧ VarFR wx w.heap.size sx Lx px Nx qx ∧ VarFR wx (w.heap.size + 1) sy Ly py Ny qy ∧ VarFR wx (w.heap.size + 2) sz Lz pz Nz qz ∧ Below w.heap.size w wx)
      case first =>
        refine tF Try.f6 1 (lLeUT0 sx Lx px Nx qx sy Ly py Ny qy sz Lz pz Nz qz) [] 13 0 ?_ ?_
        · refine ⟨fun _ _ F => gR rfl rfl (arm_loadFR rfl (F.k 3 (Value.pointer (some ⟨w.heap.size, 0, none⟩))) (V0.mono F.below)).b, ?_⟩
          refine ⟨fun _ _ F => gR rfl rfl (arm_C1 rfl (enters Try.func18 rfl rfl) (F.f 0 rfl) (fun va w h1 => q_fitT va sx Lx px Nx qx w h1 fx) (fun _ _ h => ofV h)).b, ?_⟩
          refine ⟨fun _ _ F => gR rfl rfl (arm_not rfl (F.f 1 rfl)).b, ?_⟩
          refine ⟨fun _ _ F => gR rfl rfl (arm_move (.inl rfl) (F.f 2 rfl)).b, ?_⟩
          refine ⟨fun _ _ F => gG F rfl rfl rfl rfl (arm_loadFR rfl (F.k 4 (Value.pointer (some ⟨w.heap.size + 1, 0, none⟩))) (V1.mono F.below)).b, ?_⟩
          refine ⟨fun _ _ F => gG F rfl rfl rfl rfl (arm_C1 rfl (enters Try.func18 rfl rfl) (F.f 4 rfl) (fun va w h1 => q_fitT va sy Ly py Ny qy w h1 fy) (fun _ _ h => ofV h)).b, ?_⟩
          refine ⟨fun _ _ F => gG F rfl rfl rfl rfl (arm_not rfl (F.f 5 rfl)).b, ?_⟩
          refine ⟨fun _ _ F => gR rfl rfl (arm_pick rfl (F.f 3 rfl) (fun h => by cases h) (fun _ => (F.f 6 rfl))).b, ?_⟩
          refine ⟨fun _ _ F => gR rfl rfl (arm_move (.inl rfl) (F.f 7 rfl)).b, ?_⟩
          refine ⟨fun _ _ F => gG F rfl rfl rfl rfl (arm_loadFR rfl (F.k 5 (Value.pointer (some ⟨w.heap.size + 2, 0, none⟩))) (V2.mono F.below)).b, ?_⟩
          refine ⟨fun _ _ F => gG F rfl rfl rfl rfl (arm_C1 rfl (enters Try.func18 rfl rfl) (F.f 9 rfl) (fun va w h1 => q_fitF va sz Lz pz Nz qz w h1 fz) (fun _ _ h => ofV h)).b, ?_⟩
          refine ⟨fun _ _ F => gG F rfl rfl rfl rfl (arm_not rfl (F.f 10 rfl)).b, ?_⟩
          refine ⟨fun _ _ F => gR rfl rfl (arm_pick rfl (F.f 8 rfl) (fun h => by cases h) (fun _ => (F.f 11 rfl))).b, ?_⟩
          exact trivial
        intro E' hE gp wp bp G Gs
        obtain rfl : E' = [] := by simpa [subs] using hE
        have e_12 : gp 12 = Value.bool true := G 12 20 _ (by simp) rfl
        clear G Gs hE
        simp only [lLeUT0]
        simp only [qA, setD, qZ, qS, e_12]
        refine wpAny_done (by kernel_rfl) ?_ _
        go_wp2_with fail
        go_meet
        case rel => exact ⟨rfl, (V0.mono bp), (V1.mono bp), (V2.mono bp), (hb1.trans (bp.mono hb1.size))⟩
      case rest =>
      clear V0 V1 V2 hb1
      obtain ⟨rfl, V0, V1, V2, hb1⟩ := hcut
      go_upto_region 2 with (fail)
      go_cut [6] (fun s_6 wx => s_6 = Value.bool true ∧ VarFR wx w.heap.size sx Lx px Nx qx ∧ VarFR wx (w.heap.size + 1) sy Ly py Ny qy ∧ VarFR wx (w.heap.size + 2) sz Lz pz Nz qz ∧ Below w.heap.size w wx)
      case first =>
        refine tF Try.f6 2 (lLeUT1 ) [] 2 0 ?_ ?_
        · refine ⟨fun _ _ F => gR rfl rfl (arm_C0 rfl (enters Try.func11 rfl rfl)  (fun w => c_awake2 w) (fun _ _ h => ofV h)).b, ?_⟩
          refine ⟨fun _ _ F => gR rfl rfl (arm_move (.inr rfl) (F.f 0 rfl)).b, ?_⟩
          exact trivial
        intro E' hE gp wp bp G Gs
        obtain rfl : E' = [] := by simpa [subs] using hE
        have e_1 : gp 1 = Value.bool true := G 1 6 _ (by simp) rfl
        clear G Gs hE
        simp only [lLeUT1]
        simp only [qA, setD, qZ, qS, e_1]
        refine wpAny_done (by kernel_rfl) ?_ _
        go_wp2_with fail
        go_meet
        case rel => exact ⟨rfl, (V0.mono bp), (V1.mono bp), (V2.mono bp), (hb1.trans (bp.mono hb1.size))⟩
      case rest =>
      clear V0 V1 V2 hb1
      obtain ⟨rfl, V0, V1, V2, hb1⟩ := hcut
      go_wp2
      go_ret
      exact ⟨rfl, hb1⟩
    · clear hn
      obtain ⟨a0, c0, b0, d0, rfl, m0, k0⟩ := boxR ix
      obtain ⟨a1, c1, b1, d1, rfl, m1, k1⟩ := boxR (iy.mono m0)
      rw [World.size_alloc ] at k1
      have n1 := m0.trans (m1.mono m0.size)
      obtain ⟨a2, c2, b2, d2, rfl, m2, k2⟩ := boxR (iz.mono n1)
      rw [World.size_alloc, World.size_alloc ] at k2
      have n2 := n1.trans (m2.mono n1.size)
      clear ix iy iz
      go_enter Try.func6, Try.ntmps6
      go_upto_region 0 with (fail)
      go_cut [3, 4, 5, 6] (fun s_3 s_4 s_5 s_6 wx => s_3 = Value.pointer (some ⟨w.heap.size, 0, none⟩) ∧ s_4 = Value.pointer (some ⟨w.heap.size + 1, 0, none⟩) ∧ s_5 = Value.pointer (some ⟨w.heap.size + 2, 0, none⟩) ∧ s_6 = Value.bool false ∧ VarFR wx w.heap.size sx Lx px Nx qx ∧ VarFR wx (w.heap.size + 1) sy Ly py Ny qy ∧ VarFR wx (w.heap.size + 2) sz Lz pz Nz qz ∧ Below w.heap.size w wx)
      case first =>
        go_wp2_with fail
        go_meet
        case rel => exact ⟨rfl, rfl, rfl, rfl, ((k0.mono m1).mono m2), (k1.mono m2), k2, n2⟩
      case rest =>
      clear m0 k0 m1 k1 m2 k2 n1 n2
      obtain ⟨rfl, rfl, rfl, rfl, V0, V1, V2, hb1⟩ := hcut
      go_upto_region 1 with (fail)
      go_cut [20] (fun s_20 wx => s_20 = Value.bool true ∧ VarFR wx w.heap.size sx Lx px Nx qx ∧ VarFR wx (w.heap.size + 1) sy Ly py Ny qy ∧ VarFR wx (w.heap.size + 2) sz Lz pz Nz qz ∧ Below w.heap.size w wx)
      case first =>
        refine tF Try.f6 1 (lLeUT2 sx Lx px Nx qx sy Ly py Ny qy) [] 13 0 ?_ ?_
        · refine ⟨fun _ _ F => gR rfl rfl (arm_loadFR rfl (F.k 3 (Value.pointer (some ⟨w.heap.size, 0, none⟩))) (V0.mono F.below)).b, ?_⟩
          refine ⟨fun _ _ F => gR rfl rfl (arm_C1 rfl (enters Try.func18 rfl rfl) (F.f 0 rfl) (fun va w h1 => q_fitT va sx Lx px Nx qx w h1 fx) (fun _ _ h => ofV h)).b, ?_⟩
          refine ⟨fun _ _ F => gR rfl rfl (arm_not rfl (F.f 1 rfl)).b, ?_⟩
          refine ⟨fun _ _ F => gR rfl rfl (arm_move (.inl rfl) (F.f 2 rfl)).b, ?_⟩
          refine ⟨fun _ _ F => gG F rfl rfl rfl rfl (arm_loadFR rfl (F.k 4 (Value.pointer (some ⟨w.heap.size + 1, 0, none⟩))) (V1.mono F.below)).b, ?_⟩
          refine ⟨fun _ _ F => gG F rfl rfl rfl rfl (arm_C1 rfl (enters Try.func18 rfl rfl) (F.f 4 rfl) (fun va w h1 => q_fitF va sy Ly py Ny qy w h1 fy) (fun _ _ h => ofV h)).b, ?_⟩
          refine ⟨fun _ _ F => gG F rfl rfl rfl rfl (arm_not rfl (F.f 5 rfl)).b, ?_⟩
          refine ⟨fun _ _ F => gR rfl rfl (arm_pick rfl (F.f 3 rfl) (fun h => by cases h) (fun _ => (F.f 6 rfl))).b, ?_⟩
          refine ⟨fun _ _ F => gR rfl rfl (arm_move (.inl rfl) (F.f 7 rfl)).b, ?_⟩
          refine ⟨fun _ _ F => gS F rfl rfl rfl rfl rfl rfl, ?_⟩
          refine ⟨fun _ _ F => gS F rfl rfl rfl rfl rfl rfl, ?_⟩
          refine ⟨fun _ _ F => gS F rfl rfl rfl rfl rfl rfl, ?_⟩
          refine ⟨fun _ _ F => gR rfl rfl (arm_pick rfl (F.f 8 rfl) (fun _ => Is.const) (fun h => by cases h)).b, ?_⟩
          exact trivial
        intro E' hE gp wp bp G Gs
        obtain rfl : E' = [] := by simpa [subs] using hE
        have e_12 : gp 12 = Value.bool true := G 12 20 _ (by simp) rfl
        clear G Gs hE
        simp only [lLeUT2]
        simp only [qA, setD, qZ, qS, e_12]
        refine wpAny_done (by kernel_rfl) ?_ _
        go_wp2_with fail
        go_meet
        case rel => exact ⟨rfl, (V0.mono bp), (V1.mono bp), (V2.mono bp), (hb1.trans (bp.mono hb1.size))⟩
      case rest =>
      clear V0 V1 V2 hb1
      obtain ⟨rfl, V0, V1, V2, hb1⟩ := hcut
      go_upto_region 2 with (fail)
      go_cut [6] (fun s_6 wx => s_6 = Value.bool true ∧ VarFR wx w.heap.size sx Lx px Nx qx ∧ VarFR wx (w.heap.size + 1) sy Ly py Ny qy ∧ VarFR wx (w.heap.size + 2) sz Lz pz Nz qz ∧ Below w.heap.size w wx)
      case first =>
        refine tF Try.f6 2 (lLeUT3 ) [] 2 0 ?_ ?_
        · refine ⟨fun _ _ F => gR rfl rfl (arm_C0 rfl (enters Try.func11 rfl rfl)  (fun w => c_awake2 w) (fun _ _ h => ofV h)).b, ?_⟩
          refine ⟨fun _ _ F => gR rfl rfl (arm_move (.inr rfl) (F.f 0 rfl)).b, ?_⟩
          exact trivial
        intro E' hE gp wp bp G Gs
        obtain rfl : E' = [] := by simpa [subs] using hE
        have e_1 : gp 1 = Value.bool true := G 1 6 _ (by simp) rfl
        clear G Gs hE
        simp only [lLeUT3]
        simp only [qA, setD, qZ, qS, e_1]
        refine wpAny_done (by kernel_rfl) ?_ _
        go_wp2_with fail
        go_meet
        case rel => exact ⟨rfl, (V0.mono bp), (V1.mono bp), (V2.mono bp), (hb1.trans (bp.mono hb1.size))⟩
      case rest =>
      clear V0 V1 V2 hb1
      obtain ⟨rfl, V0, V1, V2, hb1⟩ := hcut
      go_wp2
      go_ret
      exact ⟨rfl, hb1⟩
  · clear hn
    obtain ⟨a0, c0, b0, d0, rfl, m0, k0⟩ := boxR ix
    obtain ⟨a1, c1, b1, d1, rfl, m1, k1⟩ := boxR (iy.mono m0)
    rw [World.size_alloc ] at k1
    have n1 := m0.trans (m1.mono m0.size)
    obtain ⟨a2, c2, b2, d2, rfl, m2, k2⟩ := boxR (iz.mono n1)
    rw [World.size_alloc, World.size_alloc ] at k2
    have n2 := n1.trans (m2.mono n1.size)
    clear ix iy iz
    go_enter Try.func6, Try.ntmps6
    go_upto_region 0 with (fail)
    go_cut [3, 4, 5, 6] (fun s_3 s_4 s_5 s_6 wx => s_3 = Value.pointer (some ⟨w.heap.size, 0, none⟩) ∧ s_4 = Value.pointer (some ⟨w.heap.size + 1, 0, none⟩) ∧ s_5 = Value.pointer (some ⟨w.heap.size + 2, 0, none⟩) ∧ s_6 = Value.bool false ∧ VarFR wx w.heap.size sx Lx px Nx qx ∧ VarFR wx (w.heap.size + 1) sy Ly py Ny qy ∧ VarFR wx (w.heap.size + 2) sz Lz pz Nz qz ∧ Below w.heap.size w wx)
    case first =>
      go_wp2_with fail
      go_meet
      case rel => exact ⟨rfl, rfl, rfl, rfl, ((k0.mono m1).mono m2), (k1.mono m2), k2, n2⟩
    case rest =>
    clear m0 k0 m1 k1 m2 k2 n1 n2
    obtain ⟨rfl, rfl, rfl, rfl, V0, V1, V2, hb1⟩ := hcut
    go_upto_region 1 with (fail)
    go_cut [20] (fun s_20 wx => s_20 = Value.bool true ∧ VarFR wx w.heap.size sx Lx px Nx qx ∧ VarFR wx (w.heap.size + 1) sy Ly py Ny qy ∧ VarFR wx (w.heap.size + 2) sz Lz pz Nz qz ∧ Below w.heap.size w wx)
    case first =>
      refine tF Try.f6 1 (lLeUT4 sx Lx px Nx qx) [] 13 0 ?_ ?_
      · refine ⟨fun _ _ F => gR rfl rfl (arm_loadFR rfl (F.k 3 (Value.pointer (some ⟨w.heap.size, 0, none⟩))) (V0.mono F.below)).b, ?_⟩
        refine ⟨fun _ _ F => gR rfl rfl (arm_C1 rfl (enters Try.func18 rfl rfl) (F.f 0 rfl) (fun va w h1 => q_fitF va sx Lx px Nx qx w h1 fx) (fun _ _ h => ofV h)).b, ?_⟩
        refine ⟨fun _ _ F => gR rfl rfl (arm_not rfl (F.f 1 rfl)).b, ?_⟩
        refine ⟨fun _ _ F => gR rfl rfl (arm_move (.inl rfl) (F.f 2 rfl)).b, ?_⟩
        refine ⟨fun _ _ F => gS F rfl rfl rfl rfl rfl rfl, ?_⟩
        refine ⟨fun _ _ F => gS F rfl rfl rfl rfl rfl rfl, ?_⟩
        refine ⟨fun _ _ F => gS F rfl rfl rfl rfl rfl rfl, ?_⟩
        refine ⟨fun _ _ F => gR rfl rfl (arm_pick rfl (F.f 3 rfl) (fun _ => Is.const) (fun h => by cases h)).b, ?_⟩
        refine ⟨fun _ _ F => gR rfl rfl (arm_move (.inl rfl) (F.f 7 rfl)).b, ?_⟩
        refine ⟨fun _ _ F => gS F rfl rfl rfl rfl rfl rfl, ?_⟩
        refine ⟨fun _ _ F => gS F rfl rfl rfl rfl rfl rfl, ?_⟩
        refine ⟨fun _ _ F => gS F rfl rfl rfl rfl rfl rfl, ?_⟩
        refine ⟨fun _ _ F => gR rfl rfl (arm_pick rfl (F.f 8 rfl) (fun _ => Is.const) (fun h => by cases h)).b, ?_⟩
        exact trivial
      intro E' hE gp wp bp G Gs
      obtain rfl : E' = [] := by simpa [subs] using hE
      have e_12 : gp 12 = Value.bool true := G 12 20 _ (by simp) rfl
      clear G Gs hE
      simp only [lLeUT4]
      simp only [qA, setD, qZ, qS, e_12]
      refine wpAny_done (by kernel_rfl) ?_ _
      go_wp2_with fail
      go_meet
      case rel => exact ⟨rfl, (V0.mono bp), (V1.mono bp), (V2.mono bp), (hb1.trans (bp.mono hb1.size))⟩
    case rest =>
    clear V0 V1 V2 hb1
    obtain ⟨rfl, V0, V1, V2, hb1⟩ := hcut
    go_upto_region 2 with (fail)
    go_cut [6] (fun s_6 wx => s_6 = Value.bool true ∧ VarFR wx w.heap.size sx Lx px Nx qx ∧ VarFR wx (w.heap.size + 1) sy Ly py Ny qy ∧ VarFR wx (w.heap.size + 2) sz Lz pz Nz qz ∧ Below w.heap.size w wx)
    case first =>
      refine tF Try.f6 2 (lLeUT5 ) [] 2 0 ?_ ?_
      · refine ⟨fun _ _ F => gR rfl rfl (arm_C0 rfl (enters Try.func11 rfl rfl)  (fun w => c_awake2 w) (fun _ _ h => ofV h)).b, ?_⟩
        refine ⟨fun _ _ F => gR rfl rfl (arm_move (.inr rfl) (F.f 0 rfl)).b, ?_⟩
        exact trivial
      intro E' hE gp wp bp G Gs
      obtain rfl : E' = [] := by simpa [subs] using hE
      have e_1 : gp 1 = Value.bool true := G 1 6 _ (by simp) rfl
      clear G Gs hE
      simp only [lLeUT5]
      simp only [qA, setD, qZ, qS, e_1]
      refine wpAny_done (by kernel_rfl) ?_ _
      go_wp2_with fail
      go_meet
      case rel => exact ⟨rfl, (V0.mono bp), (V1.mono bp), (V2.mono bp), (hb1.trans (bp.mono hb1.size))⟩
    case rest =>
    clear V0 V1 V2 hb1
    obtain ⟨rfl, V0, V1, V2, hb1⟩ := hcut
    go_wp2
    go_ret
    exact ⟨rfl, hb1⟩
theorem c_FractionLerps (vx : Value) (sx : Bool) (Lx px Nx qx : Nat) (vy : Value) (sy : Bool) (Ly py Ny qy : Nat) (vz : Value) (sz : Bool) (Lz pz Nz qz : Nat) (w : World) (ix : IsFR w vx sx Lx px Nx qx) (iy : IsFR w vy sy Ly py Ny qy) (iz : IsFR w vz sz Lz pz Nz qz) :
    Calls Try.prog 6 #[vx, vy, vz] w fun e w' => RetV w (.bool true) e w' := by
  by_cases hn : FitP sx Lx px Nx qx ∧ FitP sy Ly py Ny qy ∧ FitP sz Lz pz Nz qz
  · obtain ⟨fx, fy, fz⟩ := hn
    obtain ⟨x, jx, hx, ex⟩ := FitP.split fx ix
    obtain ⟨y, jy, hy, ey⟩ := FitP.split fy iy
    obtain ⟨z, jz, hz, ez⟩ := FitP.split fz iz
    exact c_lLeT vx vy vz x y z w jx jy jz hx ex hy ey hz ez
  · exact c_lLeU vx sx Lx px Nx qx vy sy Ly py Ny qy vz sz Lz pz Nz qz w ix iy iz hn
end Go.Proofs.Ytldnimohnbjfaaa
