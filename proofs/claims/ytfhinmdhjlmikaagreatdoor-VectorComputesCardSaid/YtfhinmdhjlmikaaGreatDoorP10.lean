/- Add, Sub, Div of the reference; Div of package fraction. magnitude of package fraction, size of the reference. -/
import Derived.Test.YtfhinmdhjlmikaaGreatDoorP09
namespace Go.Proofs.YtfhinmdhjlmikaaGreatDoor
set_option linter.unusedSimpArgs false
set_option linter.unusedVariables false
set_option maxRecDepth 100000
open Go.RowKit
def rAddT0 (w : World) (x : Fq) (y : Fq) (X : Nat) (base : Nat) : List (Nat × Tmp × Sp) :=
   [(0, 18, .val (Value.pointer (some ⟨w.heap.size, 1, none⟩))),
    (1, 19, .nat (x.p)),
    (2, 20, .val (Value.pointer (some ⟨w.heap.size + 1, 2, none⟩))),
    (3, 21, .nat (y.q)),
    (4, 22, .nat (X)),
    (5, 5, .var base)]
def rAddT1 (w : World) (x : Fq) (y : Fq) (Y : Nat) (base : Nat) : List (Nat × Tmp × Sp) :=
   [(0, 23, .val (Value.pointer (some ⟨w.heap.size + 1, 1, none⟩))),
    (1, 24, .nat (y.p)),
    (2, 25, .val (Value.pointer (some ⟨w.heap.size, 2, none⟩))),
    (3, 26, .nat (x.q)),
    (4, 27, .nat (Y)),
    (5, 6, .var base)]
def rAddT2 (w : World) (x : Fq) (y : Fq) (Dn : Nat) (base : Nat) : List (Nat × Tmp × Sp) :=
   [(0, 28, .val (Value.pointer (some ⟨w.heap.size, 2, none⟩))),
    (1, 29, .nat (x.q)),
    (2, 30, .val (Value.pointer (some ⟨w.heap.size + 1, 2, none⟩))),
    (3, 31, .nat (y.q)),
    (4, 32, .nat (Dn)),
    (5, 7, .var base)]
def rAddT3 (w : World) (x : Fq) (y : Fq) (B : Bool) : List (Nat × Tmp × Sp) :=
   [(0, 33, .val (Value.pointer (some ⟨w.heap.size, 0, none⟩))),
    (1, 34, .val (Value.bool x.s)),
    (2, 35, .val (Value.pointer (some ⟨w.heap.size + 1, 0, none⟩))),
    (3, 36, .val (Value.bool y.s)),
    (4, 37, .val (Value.bool B))]
def rAddT4 (w : World) (x : Fq) (X : Nat) (Y : Nat) (Dn : Nat) (M : Nat) (base : Nat) : List (Nat × Tmp × Sp) :=
   [(0, 39, .val (Value.pointer (some ⟨w.heap.size, 0, none⟩))),
    (1, 40, .val (Value.bool x.s)),
    (2, 41, .nat (X)),
    (3, 42, .nat (Y)),
    (4, 43, .nat (M)),
    (5, 44, .nat (Dn)),
    (6, 45, .pair (.fq (Fq.low x.s M Dn)) (.val (Value.int IntKind.i64 0))),
    (7, 38, .pair (.fq (Fq.low x.s M Dn)) (.val (Value.int IntKind.i64 0))),
    (8, 46, .fq (Fq.low x.s M Dn)),
    (9, 47, .val (Value.int IntKind.i64 0)),
    (10, 8, .varF base)]
def rAddT5 (x : Fq) (Dn : Nat) (M : Nat) : List (Nat × Tmp × Sp) :=
   [(0, 48, .fq (Fq.low x.s M Dn))]
def rAddT6 (X : Nat) (Y : Nat) : List (Nat × Tmp × Sp) :=
   [(0, 49, .nat (X)),
    (1, 50, .nat (Y)),
    (2, 51, .val (Value.int IntKind.i64 (-1))),
    (3, 52, .val (Value.bool true))]
def rAddT7 (X : Nat) (Y : Nat) (M : Nat) (base : Nat) : List (Nat × Tmp × Sp) :=
   [(0, 54, .nat (Y)),
    (1, 55, .nat (X)),
    (2, 56, .pair (.nat (M)) (.val (Value.bool (decide (X ≤ Y))))),
    (3, 53, .pair (.nat (M)) (.val (Value.bool (decide (X ≤ Y))))),
    (4, 57, .nat (M)),
    (5, 58, .val (Value.bool (decide (X ≤ Y)))),
    (6, 10, .var base)]
def rAddT8 (w : World) (y : Fq) (Dn : Nat) (M : Nat) (base : Nat) : List (Nat × Tmp × Sp) :=
   [(0, 60, .val (Value.pointer (some ⟨w.heap.size + 1, 0, none⟩))),
    (1, 61, .val (Value.bool y.s)),
    (2, 62, .nat (M)),
    (3, 63, .nat (Dn)),
    (4, 64, .pair (.fq (Fq.low y.s M Dn)) (.val (Value.int IntKind.i64 0))),
    (5, 59, .pair (.fq (Fq.low y.s M Dn)) (.val (Value.int IntKind.i64 0))),
    (6, 65, .fq (Fq.low y.s M Dn)),
    (7, 66, .val (Value.int IntKind.i64 0)),
    (8, 12, .varF base)]
def rAddT9 (y : Fq) (Dn : Nat) (M : Nat) : List (Nat × Tmp × Sp) :=
   [(0, 67, .fq (Fq.low y.s M Dn))]
def rAddT10 (X : Nat) (Y : Nat) (C : Int) : List (Nat × Tmp × Sp) :=
   [(0, 49, .nat (X)),
    (1, 50, .nat (Y)),
    (2, 51, .val (Value.int IntKind.i64 C)),
    (3, 52, .val (Value.bool false))]
def rAddT11 (X : Nat) (Y : Nat) (M : Nat) (base : Nat) : List (Nat × Tmp × Sp) :=
   [(0, 69, .nat (X)),
    (1, 70, .nat (Y)),
    (2, 71, .pair (.nat (M)) (.val (Value.bool (decide (Y ≤ X))))),
    (3, 68, .pair (.nat (M)) (.val (Value.bool (decide (Y ≤ X))))),
    (4, 72, .nat (M)),
    (5, 73, .val (Value.bool (decide (Y ≤ X)))),
    (6, 14, .var base)]
def rAddT12 (w : World) (x : Fq) (Dn : Nat) (M : Nat) (base : Nat) : List (Nat × Tmp × Sp) :=
   [(0, 75, .val (Value.pointer (some ⟨w.heap.size, 0, none⟩))),
    (1, 76, .val (Value.bool x.s)),
    (2, 77, .nat (M)),
    (3, 78, .nat (Dn)),
    (4, 79, .pair (.fq (Fq.low x.s M Dn)) (.val (Value.int IntKind.i64 0))),
    (5, 74, .pair (.fq (Fq.low x.s M Dn)) (.val (Value.int IntKind.i64 0))),
    (6, 80, .fq (Fq.low x.s M Dn)),
    (7, 81, .val (Value.int IntKind.i64 0)),
    (8, 16, .varF base)]
def rAddT13 (x : Fq) (Dn : Nat) (M : Nat) : List (Nat × Tmp × Sp) :=
   [(0, 82, .fq (Fq.low x.s M Dn))]
set_option maxHeartbeats 4000000 in
theorem q_rAdd (va vb : Value) (x y : Fq) (w : World) (ha : IsQ w va x) (hb : IsQ w vb y) (h : x.ok 1000000000) (k : y.ok 1000000000) :
    Calls Tryz.prog 31 #[va, vb] w fun e w' => RetQ w (x.add y) e w' := by
  have b_xp : nl x.p ≤ 1000000000000 := Nat.le_trans h.p (by decide)
  have b_xq : nl x.q ≤ 1000000000000 := Nat.le_trans h.q (by decide)
  have b_yp : nl y.p ≤ 1000000000000 := Nat.le_trans k.p (by decide)
  have b_yq : nl y.q ≤ 1000000000000 := Nat.le_trans k.q (by decide)
  obtain ⟨X, hX⟩ : ∃ N : Nat, Hid (N = x.p * y.q) := ⟨_, Lib.hid rfl⟩
  obtain ⟨Y, hY⟩ : ∃ N : Nat, Hid (N = y.p * x.q) := ⟨_, Lib.hid rfl⟩
  obtain ⟨Dn, hDn⟩ : ∃ N : Nat, Hid (N = x.q * y.q) := ⟨_, Lib.hid rfl⟩
  have hXb : nl X ≤ 2000000000 := by rw [hX.out]; exact Nat.le_trans (nl_mul2 h.p k.q) (by decide)
  have hYb : nl Y ≤ 2000000000 := by rw [hY.out]; exact Nat.le_trans (nl_mul2 k.p h.q) (by decide)
  have hDb : nl Dn ≤ 10000000000 := by rw [hDn.out]; exact Nat.le_trans (nl_mul2 h.q k.q) (by decide)
  have HD0 : Hid (Dn ≠ 0) := Lib.hid (by rw [hDn.out]; exact Nat.mul_ne_zero h.n k.n)
  show Calls Tryz.prog 31 #[va, vb] w fun e w' => RetQ w (Fq.low (addG x.s y.s (x.p * y.q) (y.p * x.q)) (addM x.s y.s (x.p * y.q) (y.p * x.q)) (x.q * y.q)) e w'
  rw [← hX.out, ← hY.out, ← hDn.out]
  have hX' : nl X ≤ 1000000000000 := by omega
  have hY' : nl Y ≤ 1000000000000 := by omega
  obtain ⟨M, hMM⟩ : ∃ N : Nat, Hid (N = addM x.s y.s X Y) := ⟨_, Lib.hid rfl⟩
  have hMb : nl M ≤ 10000000000 := by rw [hMM.out]; exact Nat.le_trans (nl_mono (addM_le _ _ X Y)) (Nat.le_trans (nl_add2 hXb hYb) (by decide))
  rw [← hMM.out]
  obtain ⟨B, hB⟩ : ∃ B : Bool, Hid (B = (x.s == y.s)) := ⟨_, Lib.hid rfl⟩
  obtain ⟨a0, c0, b0, d0, rfl, m0, k0⟩ := boxF ha
  obtain ⟨a1, c1, b1, d1, rfl, m1, k1⟩ := boxF (hb.mono m0)
  rw [World.size_alloc ] at k1
  have n1 := m0.trans (m1.mono m0.size)
  obtain ⟨m2, k2⟩ := resF (w := ((w.alloc (.cells #[.bool x.s, .slice a0 (nl x.p) c0, .slice b0 (nl x.q) d0] 26)).alloc (.cells #[.bool y.s, .slice a1 (nl y.p) c1, .slice b1 (nl y.q) d1] 26)))
  rw [World.size_alloc, World.size_alloc ] at k2
  have n2 := n1.trans (m2.mono n1.size)
  clear ha hb
  go_enter Tryz.func31, Tryz.ntmps31
  go_upto_region 0 with (fail)
  go_cut [2, 3, 4] (fun s_2 s_3 s_4 wx => s_2 = Value.pointer (some ⟨w.heap.size, 0, none⟩) ∧ s_3 = Value.pointer (some ⟨w.heap.size + 1, 0, none⟩) ∧ s_4 = Value.pointer (some ⟨w.heap.size + 2, 0, none⟩) ∧ VarQ wx w.heap.size x ∧ VarQ wx (w.heap.size + 1) y ∧ VarFB wx (w.heap.size + 2) false none 0 0 none 0 0 ∧ Below w.heap.size w wx)
  case first =>
    go_wp2_with fail
    go_meet
    case rel => exact ⟨rfl, rfl, rfl, ((k0.mono m1).mono m2), (k1.mono m2), k2, n2⟩
  case rest =>
  clear m0 k0 m1 k1 m2 k2 n1 n2
  obtain ⟨rfl, rfl, rfl, V0, V1, V2, hb1⟩ := hcut
  go_upto_region 1 with (fail)
  go_cut [5] (fun s_5 wx => ∃ g5, s_5 = Value.pointer (some ⟨g5, 0, none⟩) ∧ w.heap.size + 3 ≤ g5 ∧ VarI wx g5 X ∧ VarQ wx w.heap.size x ∧ VarQ wx (w.heap.size + 1) y ∧ VarFB wx (w.heap.size + 2) false none 0 0 none 0 0 ∧ Below w.heap.size w wx)
  case first =>
    obtain ⟨base, hbase0⟩ : ∃ b : Nat, Hid (b = wc.heap.size) := ⟨_, Lib.hid rfl⟩
    have hbase : base ≤ wc.heap.size := by rw [hbase0.out]; exact Nat.le_refl _
    have hbw : w.heap.size + 3 ≤ base := by have := hb1.size; have h1 := V2.lt; rw [hbase0.out]; omega
    have l_V0 : w.heap.size < base := by rw [hbase0.out]; exact V0.lt
    have l_V1 : w.heap.size + 1 < base := by rw [hbase0.out]; exact V1.lt
    have l_V2 : w.heap.size + 2 < base := by rw [hbase0.out]; exact V2.lt
    refine wp_tabGF Tryz.f31 1 (rAddT0 w x y X base) [] (fun i => i == 5) 4 1 (by kernel_rfl) (by kernel_rfl) (by kernel_rfl) (by kernel_rfl) (by kernel_rfl) ⟨fun h => (by cases h), ⟨fun h => (by cases h), ⟨fun h => (by cases h), ⟨fun h => (by cases h), ⟨fun h => (by cases h), ⟨fun _ w v h => Sp.var_lt h, trivial⟩⟩⟩⟩⟩⟩ ?_ ?_
    · refine ⟨fun _ _ F => gR rfl rfl (arm_fieldF rfl (F.k 2 (Value.pointer (some ⟨w.heap.size, 0, none⟩))) (run_field1 _)).b, ?_⟩
      refine ⟨fun _ _ F => gR rfl rfl (arm_load1 rfl (F.f 0 rfl) (V0.mono F.below)).b, ?_⟩
      refine ⟨fun _ _ F => gR rfl rfl (arm_fieldF rfl (F.k 3 (Value.pointer (some ⟨w.heap.size + 1, 0, none⟩))) (run_field2 _)).b, ?_⟩
      refine ⟨fun _ _ F => gR rfl rfl (arm_load2 rfl (F.f 2 rfl) (V1.mono F.below)).b, ?_⟩
      refine ⟨fun _ _ F => gR rfl rfl (arm_C2 rfl (enters Tryz.func55 rfl rfl) (F.f 1 rfl) (F.f 3 rfl) (fun va vb w h1 h2 => c_ref_Mul va vb x.p y.q w h1 h2 b_xp b_yq) (fun _ _ h => by rw [hX.out]; exact ofNew h)).b, ?_⟩
      refine ⟨fun _ _ F => gR rfl rfl (arm_alloc rfl (Nat.le_trans hbase F.below.size)), ?_⟩
      exact trivial
    intro E' hE gp wp bp G Gs
    obtain rfl : E' = [] := by simpa [subs] using hE
    obtain ⟨g5, e_5, lg_5, hv_5⟩ := G 5 5 _ (by simp) rfl
    have n_4 : (Sp.nat (X)).p wp (gp 4) := G 4 22 _ (by simp) rfl
    clear G Gs hE
    simp only [rAddT0]
    simp only [qA, setD, qZ, qS, e_5]
    have T0 := hv_5
    refine wpAny_storeN (j := 6) (by kernel_rfl) rfl rfl rfl rfl rfl n_4 T0.any ?_
    intro w0 u0 v0
    have O0 := T0.own
    refine wpAny_done (by kernel_rfl) ?_ _
    go_wp2_with fail
    go_meet
    case rel => exact ⟨g5, rfl, (by omega), v0, ((V0.mono bp).upd O0 u0 (by omega)), ((V1.mono bp).upd O0 u0 (by omega)), ((V2.mono bp V2.lt).upd O0 u0 (by omega)), (Upd.below (hb1.trans (bp.mono hb1.size)) u0 (by omega))⟩
  case rest =>
  clear V0 V1 V2 hb1
  obtain ⟨g5, rfl, lg5, V5, V0, V1, V2, hb1⟩ := hcut
  go_upto_region 2 with (fail)
  go_cut [6] (fun s_6 wx => ∃ g6, s_6 = Value.pointer (some ⟨g6, 0, none⟩) ∧ w.heap.size + 3 ≤ g6 ∧ VarI wx g6 Y ∧ VarQ wx w.heap.size x ∧ VarQ wx (w.heap.size + 1) y ∧ VarFB wx (w.heap.size + 2) false none 0 0 none 0 0 ∧ VarI wx g5 X ∧ Below w.heap.size w wx)
  case first =>
    obtain ⟨base, hbase0⟩ : ∃ b : Nat, Hid (b = wc.heap.size) := ⟨_, Lib.hid rfl⟩
    have hbase : base ≤ wc.heap.size := by rw [hbase0.out]; exact Nat.le_refl _
    have hbw : w.heap.size + 3 ≤ base := by have := hb1.size; have h1 := V2.lt; rw [hbase0.out]; omega
    have l_V0 : w.heap.size < base := by rw [hbase0.out]; exact V0.lt
    have l_V1 : w.heap.size + 1 < base := by rw [hbase0.out]; exact V1.lt
    have l_V2 : w.heap.size + 2 < base := by rw [hbase0.out]; exact V2.lt
    have l_V5 : g5 < base := by rw [hbase0.out]; exact V5.lt
    refine wp_tabGF Tryz.f31 2 (rAddT1 w x y Y base) [] (fun i => i == 5) 4 1 (by kernel_rfl) (by kernel_rfl) (by kernel_rfl) (by kernel_rfl) (by kernel_rfl) ⟨fun h => (by cases h), ⟨fun h => (by cases h), ⟨fun h => (by cases h), ⟨fun h => (by cases h), ⟨fun h => (by cases h), ⟨fun _ w v h => Sp.var_lt h, trivial⟩⟩⟩⟩⟩⟩ ?_ ?_
    · refine ⟨fun _ _ F => gR rfl rfl (arm_fieldF rfl (F.k 3 (Value.pointer (some ⟨w.heap.size + 1, 0, none⟩))) (run_field1 _)).b, ?_⟩
      refine ⟨fun _ _ F => gR rfl rfl (arm_load1 rfl (F.f 0 rfl) (V1.mono F.below)).b, ?_⟩
      refine ⟨fun _ _ F => gR rfl rfl (arm_fieldF rfl (F.k 2 (Value.pointer (some ⟨w.heap.size, 0, none⟩))) (run_field2 _)).b, ?_⟩
      refine ⟨fun _ _ F => gR rfl rfl (arm_load2 rfl (F.f 2 rfl) (V0.mono F.below)).b, ?_⟩
      refine ⟨fun _ _ F => gR rfl rfl (arm_C2 rfl (enters Tryz.func55 rfl rfl) (F.f 1 rfl) (F.f 3 rfl) (fun va vb w h1 h2 => c_ref_Mul va vb y.p x.q w h1 h2 b_yp b_xq) (fun _ _ h => by rw [hY.out]; exact ofNew h)).b, ?_⟩
      refine ⟨fun _ _ F => gR rfl rfl (arm_alloc rfl (Nat.le_trans hbase F.below.size)), ?_⟩
      exact trivial
    intro E' hE gp wp bp G Gs
    obtain rfl : E' = [] := by simpa [subs] using hE
    obtain ⟨g6, e_5, lg_5, hv_5⟩ := G 5 6 _ (by simp) rfl
    have n_4 : (Sp.nat (Y)).p wp (gp 4) := G 4 27 _ (by simp) rfl
    clear G Gs hE
    simp only [rAddT1]
    simp only [qA, setD, qZ, qS, e_5]
    have T0 := hv_5
    refine wpAny_storeN (j := 6) (by kernel_rfl) rfl rfl rfl rfl rfl n_4 T0.any ?_
    intro w0 u0 v0
    have O0 := T0.own
    refine wpAny_done (by kernel_rfl) ?_ _
    go_wp2_with fail
    go_meet
    case rel => exact ⟨g6, rfl, (by omega), v0, ((V0.mono bp).upd O0 u0 (by omega)), ((V1.mono bp).upd O0 u0 (by omega)), ((V2.mono bp V2.lt).upd O0 u0 (by omega)), ((V5.mono bp).upd O0 u0 (by omega)), (Upd.below (hb1.trans (bp.mono hb1.size)) u0 (by omega))⟩
  case rest =>
  clear V0 V1 V2 V5 hb1
  obtain ⟨g6, rfl, lg6, V6, V0, V1, V2, V5, hb1⟩ := hcut
  go_upto_region 3 with (fail)
  go_cut [7] (fun s_7 wx => ∃ g7, s_7 = Value.pointer (some ⟨g7, 0, none⟩) ∧ w.heap.size + 3 ≤ g7 ∧ VarI wx g7 Dn ∧ VarQ wx w.heap.size x ∧ VarQ wx (w.heap.size + 1) y ∧ VarFB wx (w.heap.size + 2) false none 0 0 none 0 0 ∧ VarI wx g5 X ∧ VarI wx g6 Y ∧ Below w.heap.size w wx)
  case first =>
    obtain ⟨base, hbase0⟩ : ∃ b : Nat, Hid (b = wc.heap.size) := ⟨_, Lib.hid rfl⟩
    have hbase : base ≤ wc.heap.size := by rw [hbase0.out]; exact Nat.le_refl _
    have hbw : w.heap.size + 3 ≤ base := by have := hb1.size; have h1 := V2.lt; rw [hbase0.out]; omega
    have l_V0 : w.heap.size < base := by rw [hbase0.out]; exact V0.lt
    have l_V1 : w.heap.size + 1 < base := by rw [hbase0.out]; exact V1.lt
    have l_V2 : w.heap.size + 2 < base := by rw [hbase0.out]; exact V2.lt
    have l_V5 : g5 < base := by rw [hbase0.out]; exact V5.lt
    have l_V6 : g6 < base := by rw [hbase0.out]; exact V6.lt
    refine wp_tabGF Tryz.f31 3 (rAddT2 w x y Dn base) [] (fun i => i == 5) 4 1 (by kernel_rfl) (by kernel_rfl) (by kernel_rfl) (by kernel_rfl) (by kernel_rfl) ⟨fun h => (by cases h), ⟨fun h => (by cases h), ⟨fun h => (by cases h), ⟨fun h => (by cases h), ⟨fun h => (by cases h), ⟨fun _ w v h => Sp.var_lt h, trivial⟩⟩⟩⟩⟩⟩ ?_ ?_
    · refine ⟨fun _ _ F => gR rfl rfl (arm_fieldF rfl (F.k 2 (Value.pointer (some ⟨w.heap.size, 0, none⟩))) (run_field2 _)).b, ?_⟩
      refine ⟨fun _ _ F => gR rfl rfl (arm_load2 rfl (F.f 0 rfl) (V0.mono F.below)).b, ?_⟩
      refine ⟨fun _ _ F => gR rfl rfl (arm_fieldF rfl (F.k 3 (Value.pointer (some ⟨w.heap.size + 1, 0, none⟩))) (run_field2 _)).b, ?_⟩
      refine ⟨fun _ _ F => gR rfl rfl (arm_load2 rfl (F.f 2 rfl) (V1.mono F.below)).b, ?_⟩
      refine ⟨fun _ _ F => gR rfl rfl (arm_C2 rfl (enters Tryz.func55 rfl rfl) (F.f 1 rfl) (F.f 3 rfl) (fun va vb w h1 h2 => c_ref_Mul va vb x.q y.q w h1 h2 b_xq b_yq) (fun _ _ h => by rw [hDn.out]; exact ofNew h)).b, ?_⟩
      refine ⟨fun _ _ F => gR rfl rfl (arm_alloc rfl (Nat.le_trans hbase F.below.size)), ?_⟩
      exact trivial
    intro E' hE gp wp bp G Gs
    obtain rfl : E' = [] := by simpa [subs] using hE
    obtain ⟨g7, e_5, lg_5, hv_5⟩ := G 5 7 _ (by simp) rfl
    have n_4 : (Sp.nat (Dn)).p wp (gp 4) := G 4 32 _ (by simp) rfl
    clear G Gs hE
    simp only [rAddT2]
    simp only [qA, setD, qZ, qS, e_5]
    have T0 := hv_5
    refine wpAny_storeN (j := 6) (by kernel_rfl) rfl rfl rfl rfl rfl n_4 T0.any ?_
    intro w0 u0 v0
    have O0 := T0.own
    refine wpAny_done (by kernel_rfl) ?_ _
    go_wp2_with fail
    go_meet
    case rel => exact ⟨g7, rfl, (by omega), v0, ((V0.mono bp).upd O0 u0 (by omega)), ((V1.mono bp).upd O0 u0 (by omega)), ((V2.mono bp V2.lt).upd O0 u0 (by omega)), ((V5.mono bp).upd O0 u0 (by omega)), ((V6.mono bp).upd O0 u0 (by omega)), (Upd.below (hb1.trans (bp.mono hb1.size)) u0 (by omega))⟩
  case rest =>
  clear V0 V1 V2 V5 V6 hb1
  obtain ⟨g7, rfl, lg7, V7, V0, V1, V2, V5, V6, hb1⟩ := hcut
  go_upto_region 4 with (fail)
  go_cut [37] (fun s_37 wx => s_37 = Value.bool B ∧ VarQ wx w.heap.size x ∧ VarQ wx (w.heap.size + 1) y ∧ VarFB wx (w.heap.size + 2) false none 0 0 none 0 0 ∧ VarI wx g5 X ∧ VarI wx g6 Y ∧ VarI wx g7 Dn ∧ Below w.heap.size w wx)
  case first =>
    refine wp_tabGF Tryz.f31 4 (rAddT3 w x y B) [] (fun _ => false) 3 0 (by kernel_rfl) (by kernel_rfl) (by kernel_rfl) (by kernel_rfl) (by kernel_rfl) (EachX.of_all (fun _ h => by cases h) _) ?_ ?_
    · refine ⟨fun _ _ F => gR rfl rfl (arm_fieldF rfl (F.k 2 (Value.pointer (some ⟨w.heap.size, 0, none⟩))) (run_field0 _)).b, ?_⟩
      refine ⟨fun _ _ F => gR rfl rfl (arm_loadS rfl (F.f 0 rfl) (V0.mono F.below)).b, ?_⟩
      refine ⟨fun _ _ F => gR rfl rfl (arm_fieldF rfl (F.k 3 (Value.pointer (some ⟨w.heap.size + 1, 0, none⟩))) (run_field0 _)).b, ?_⟩
      refine ⟨fun _ _ F => gR rfl rfl (arm_loadS rfl (F.f 2 rfl) (V1.mono F.below)).b, ?_⟩
      refine ⟨fun _ _ F => gR rfl rfl (arm_bin rfl (F.f 1 rfl) (F.f 3 rfl) (fun _ => rfl) (fun w => by rw [hB.out]; exact run_eqBB _ _ w)).b, ?_⟩
      exact trivial
    intro E' hE gp wp bp G Gs
    obtain rfl : E' = [] := by simpa [subs] using hE
    have e_4 : gp 4 = Value.bool B := G 4 37 _ (by simp) rfl
    clear G Gs hE
    simp only [rAddT3]
    simp only [qA, setD, qZ, qS, e_4]
    refine wpAny_done (by kernel_rfl) ?_ _
    go_wp2_with fail
    go_meet
    case rel => exact ⟨rfl, (V0.mono bp), (V1.mono bp), (V2.mono bp V2.lt), (V5.mono bp), (V6.mono bp), (V7.mono bp), (hb1.trans (bp.mono hb1.size))⟩
  case rest =>
  clear V0 V1 V2 V5 V6 V7 hb1
  obtain ⟨rfl, V0, V1, V2, V5, V6, V7, hb1⟩ := hcut
  rcases Bool.eq_false_or_eq_true B with rfl | rfl
  · have HS : Hid (x.s = y.s) := Lib.hid (by have := hB.out; simpa using this.symm)
    have hM : Hid (M = X + Y) := Lib.hid (by rw [hMM.out]; unfold addM; rw [if_pos HS.out])
    have HG : Hid (addG x.s y.s X Y = x.s) := Lib.hid (by unfold addG; rw [if_pos HS.out])
    go_upto_region 5 with (fail)
    go_cut [8] (fun s_8 wx => ∃ g8, s_8 = Value.pointer (some ⟨g8, 0, none⟩) ∧ w.heap.size + 3 ≤ g8 ∧ VarQ wx g8 (Fq.low x.s M Dn) ∧ VarQ wx w.heap.size x ∧ VarQ wx (w.heap.size + 1) y ∧ VarFB wx (w.heap.size + 2) false none 0 0 none 0 0 ∧ VarI wx g5 X ∧ VarI wx g6 Y ∧ VarI wx g7 Dn ∧ Below w.heap.size w wx)
    case first =>
      obtain ⟨base, hbase0⟩ : ∃ b : Nat, Hid (b = wc.heap.size) := ⟨_, Lib.hid rfl⟩
      have hbase : base ≤ wc.heap.size := by rw [hbase0.out]; exact Nat.le_refl _
      have hbw : w.heap.size + 3 ≤ base := by have := hb1.size; have h1 := V2.lt; rw [hbase0.out]; omega
      have l_V0 : w.heap.size < base := by rw [hbase0.out]; exact V0.lt
      have l_V1 : w.heap.size + 1 < base := by rw [hbase0.out]; exact V1.lt
      have l_V2 : w.heap.size + 2 < base := by rw [hbase0.out]; exact V2.lt
      have l_V5 : g5 < base := by rw [hbase0.out]; exact V5.lt
      have l_V6 : g6 < base := by rw [hbase0.out]; exact V6.lt
      have l_V7 : g7 < base := by rw [hbase0.out]; exact V7.lt
      refine wp_tabG Tryz.f31 5 (rAddT4 w x X Y Dn M base) [9] (fun i => i == 10) 7 2 (by kernel_rfl) (by kernel_rfl) (by kernel_rfl) (by kernel_rfl) (by kernel_rfl) ⟨fun h => (by cases h), ⟨fun h => (by cases h), ⟨fun h => (by cases h), ⟨fun h => (by cases h), ⟨fun h => (by cases h), ⟨fun h => (by cases h), ⟨fun h => (by cases h), ⟨fun h => (by cases h), ⟨fun h => (by cases h), ⟨fun h => (by cases h), ⟨fun _ w v h => Sp.varF_lt h, trivial⟩⟩⟩⟩⟩⟩⟩⟩⟩⟩⟩ ?_ ?_
      · refine ⟨fun _ _ F => gR rfl rfl (arm_fieldF rfl (F.k 2 (Value.pointer (some ⟨w.heap.size, 0, none⟩))) (run_field0 _)).b, ?_⟩
        refine ⟨fun _ _ F => gR rfl rfl (arm_loadS rfl (F.f 0 rfl) (V0.mono F.below)).b, ?_⟩
        refine ⟨fun _ _ F => gR rfl rfl (arm_load rfl (F.k 5 (Value.pointer (some ⟨g5, 0, none⟩))) (V5.mono F.below)).b, ?_⟩
        refine ⟨fun _ _ F => gR rfl rfl (arm_load rfl (F.k 6 (Value.pointer (some ⟨g6, 0, none⟩))) (V6.mono F.below)).b, ?_⟩
        refine ⟨fun _ _ F => gR rfl rfl (arm_C2 rfl (enters Tryz.func57 rfl rfl) (F.f 2 rfl) (F.f 3 rfl) (fun va vb w h1 h2 => c_ref_Add va vb X Y w h1 h2 (by omega) (by omega)) (fun _ _ h => by rw [hM.out]; exact ofNew h)).b, ?_⟩
        refine ⟨fun _ _ F => gR rfl rfl (arm_load rfl (F.k 7 (Value.pointer (some ⟨g7, 0, none⟩))) (V7.mono F.below)).b, ?_⟩
        refine ⟨fun _ _ F => gR rfl rfl (arm_C3 rfl (enters Tryz.func56 rfl rfl) (F.f 1 rfl) (F.f 4 rfl) (F.f 5 rfl) (fun va vb vc w h1 h2 h3 => by have e_va : va = _ := h1; subst e_va; exact q_rMake x.s vb vc M Dn w h2 h3 (by omega) (by omega) HD0.out) (fun _ _ h => ofQE h)).b, ?_⟩
        refine ⟨fun _ _ F => gR rfl rfl (arm_move (.inl rfl) (F.f 6 rfl)).b, ?_⟩
        refine ⟨fun _ _ F => gR rfl rfl (arm_pair0 rfl (F.f 7 rfl)).b, ?_⟩
        refine ⟨fun _ _ F => gR rfl rfl (arm_pair1 rfl (F.f 7 rfl)).b, ?_⟩
        refine ⟨fun _ _ F => gR rfl rfl (arm_allocF rfl (Nat.le_trans hbase F.below.size)), ?_⟩
        exact trivial
      intro E' hE gp wp bp G Gs
      simp only [subs, List.map_cons, List.map_nil, List.nil_append, List.cons_append, List.mem_cons, List.not_mem_nil, or_false, List.append_nil] at hE
      rcases hE with rfl | rfl
      · obtain ⟨g8, e_10, lg_10, hv_10⟩ := G 10 8 _ (by simp) rfl
        have n_8 : (Sp.fq (Fq.low x.s M Dn)).p wp (gp 8) := G 8 46 _ (by simp) rfl
        have e_9 : gp 9 = Value.int IntKind.i64 0 := G 9 47 _ (by simp) rfl
        clear G Gs
        simp only [rAddT4]
        simp only [qA, setD, qZ, qS, e_10, e_9]
        have T0 := hv_10
        refine wpAny_storeFr (j := 11) (by kernel_rfl) rfl rfl rfl rfl rfl n_8 T0.any ?_
        intro w0 u0 v0
        have O0 := T0.own
        refine wpAny_takeD (i := 12) (d := some 9) (v := Value.int IntKind.i64 0) rfl rfl (by kernel_rfl) (by kernel_rfl) (by kernel_rfl) (fun _ _ _ h => h) (Or.inl ⟨by rfl, fun w => by rfl⟩) ?_
        try simp only [qP, qZ, qS]
        refine wpAny_done (by kernel_rfl) ?_ _
        go_wp2_with fail
        go_meet
        case rel => exact ⟨g8, rfl, (by omega), v0, ((V0.mono bp).upd O0 u0 (by omega)), ((V1.mono bp).upd O0 u0 (by omega)), ((V2.mono bp V2.lt).upd O0 u0 (by omega)), ((V5.mono bp).upd O0 u0 (by omega)), ((V6.mono bp).upd O0 u0 (by omega)), ((V7.mono bp).upd O0 u0 (by omega)), (Upd.below (hb1.trans (bp.mono hb1.size)) u0 (by omega))⟩
      · obtain ⟨g8, e_10, lg_10, hv_10⟩ := G 10 8 _ (by simp) rfl
        obtain ⟨x_7_0, x_7_1, e_7, n_7_0, rfl⟩ := G 7 38 _ (by simp) rfl
        have n_8 : (Sp.fq (Fq.low x.s M Dn)).p wp (gp 8) := G 8 46 _ (by simp) rfl
        clear G Gs
        simp only [rAddT4]
        simp only [qA, setD, qZ, qS, e_10, e_7]
        refine wpAny_takeD (i := 9) (d := some 47) (v := Value.int IntKind.i64 0) rfl rfl (by kernel_rfl) (by kernel_rfl) (by kernel_rfl) (fun _ _ _ h => h) (Or.inl ⟨by rfl, fun w => by rfl⟩) ?_
        try simp only [qP, qZ, qS]
        have T0 := hv_10
        refine wpAny_storeFr (j := 11) (by kernel_rfl) rfl rfl rfl rfl rfl n_8 T0.any ?_
        intro w0 u0 v0
        have O0 := T0.own
        refine wpAny_takeD (i := 12) (d := some 9) (v := Value.int IntKind.i64 0) rfl rfl (by kernel_rfl) (by kernel_rfl) (by kernel_rfl) (fun _ _ _ h => h) (Or.inl ⟨by rfl, fun w => by rfl⟩) ?_
        try simp only [qP, qZ, qS]
        refine wpAny_done (by kernel_rfl) ?_ _
        go_wp2_with fail
        go_meet
        case rel => exact ⟨g8, rfl, (by omega), v0, ((V0.mono bp).upd O0 u0 (by omega)), ((V1.mono bp).upd O0 u0 (by omega)), ((V2.mono bp V2.lt).upd O0 u0 (by omega)), ((V5.mono bp).upd O0 u0 (by omega)), ((V6.mono bp).upd O0 u0 (by omega)), ((V7.mono bp).upd O0 u0 (by omega)), (Upd.below (hb1.trans (bp.mono hb1.size)) u0 (by omega))⟩
    case rest =>
    clear V0 V1 V2 V5 V6 V7 hb1
    obtain ⟨g8, rfl, lg8, V8, V0, V1, V2, V5, V6, V7, hb1⟩ := hcut
    go_upto_region 6 with (fail)
    go_cut [] (fun wx => VarQ wx w.heap.size x ∧ VarQ wx (w.heap.size + 1) y ∧ VarQ wx (w.heap.size + 2) (Fq.low x.s M Dn) ∧ VarI wx g5 X ∧ VarI wx g6 Y ∧ VarI wx g7 Dn ∧ VarQ wx g8 (Fq.low x.s M Dn) ∧ Below w.heap.size w wx)
    case first =>
      refine wp_tabGF Tryz.f31 6 (rAddT5 x Dn M) [] (fun _ => false) 2 1 (by kernel_rfl) (by kernel_rfl) (by kernel_rfl) (by kernel_rfl) (by kernel_rfl) (EachX.of_all (fun _ h => by cases h) _) ?_ ?_
      · refine ⟨fun _ _ F => gR rfl rfl (arm_loadF rfl (F.k 8 (Value.pointer (some ⟨g8, 0, none⟩))) (V8.mono F.below)).b, ?_⟩
        exact trivial
      intro E' hE gp wp bp G Gs
      obtain rfl : E' = [] := by simpa [subs] using hE
      have n_0 : (Sp.fq (Fq.low x.s M Dn)).p wp (gp 0) := G 0 48 _ (by simp) rfl
      clear G Gs hE
      simp only [rAddT5]
      simp only [qA, setD, qZ, qS]
      have T0 := (V2.mono bp V2.lt)
      refine wpAny_storeFr (j := 1) (by kernel_rfl) rfl rfl rfl rfl rfl n_0 T0.any ?_
      intro w0 u0 v0
      have O0 := T0.own
      refine wpAny_done (by kernel_rfl) ?_ _
      go_wp2_with fail
      go_meet
      case rel => exact ⟨((V0.mono bp).upd O0 u0 (by omega)), ((V1.mono bp).upd O0 u0 (by omega)), v0, ((V5.mono bp).upd O0 u0 (by omega)), ((V6.mono bp).upd O0 u0 (by omega)), ((V7.mono bp).upd O0 u0 (by omega)), ((V8.mono bp).upd O0 u0 (by omega)), (Upd.below (hb1.trans (bp.mono hb1.size)) u0 (by omega))⟩
    case rest =>
    clear V0 V1 V2 V5 V6 V7 V8 hb1
    obtain ⟨V0, V1, V2, V5, V6, V7, V8, hb1⟩ := hcut
    obtain ⟨r1, r2, r3, r4, rV, rn, rm⟩ := V2
    have c0 := rV.cell0
    have c1 := rV.cell1
    have c2 := rV.cell2
    go_wp2
    exact bodyPost_ret (res_F rfl rfl rV) rfl ⟨_, rfl, by rw [HG.out]; exact ⟨r1, r2, r3, r4, rfl, rn, rm⟩, hb1⟩
  · have HS : Hid (¬ x.s = y.s) := Lib.hid (by have := hB.out; simpa using this.symm)
    by_cases hlt : X < Y
    · have hC : cmpI X Y = -1 := by unfold cmpI; rw [if_pos hlt]
      have HC := Lib.hid hC
      have hM : Hid (M = Y - X) := Lib.hid (by rw [hMM.out]; unfold addM; rw [if_neg HS.out, if_neg (by omega)])
      have HG : Hid (addG x.s y.s X Y = y.s) := Lib.hid (by unfold addG; rw [if_neg HS.out, if_neg (by omega)])
      have HL := Lib.hid hlt
      clear hlt hC
      go_upto_region 7 with (fail)
      go_cut [52] (fun s_52 wx => s_52 = Value.bool true ∧ VarQ wx w.heap.size x ∧ VarQ wx (w.heap.size + 1) y ∧ VarFB wx (w.heap.size + 2) false none 0 0 none 0 0 ∧ VarI wx g5 X ∧ VarI wx g6 Y ∧ VarI wx g7 Dn ∧ Below w.heap.size w wx)
      case first =>
        refine wp_tabGF Tryz.f31 7 (rAddT6 X Y) [] (fun _ => false) 3 0 (by kernel_rfl) (by kernel_rfl) (by kernel_rfl) (by kernel_rfl) (by kernel_rfl) (EachX.of_all (fun _ h => by cases h) _) ?_ ?_
        · refine ⟨fun _ _ F => gR rfl rfl (arm_load rfl (F.k 5 (Value.pointer (some ⟨g5, 0, none⟩))) (V5.mono F.below)).b, ?_⟩
          refine ⟨fun _ _ F => gR rfl rfl (arm_load rfl (F.k 6 (Value.pointer (some ⟨g6, 0, none⟩))) (V6.mono F.below)).b, ?_⟩
          refine ⟨fun _ _ F => gR rfl rfl (arm_C2 rfl (enters Tryz.func58 rfl rfl) (F.f 0 rfl) (F.f 1 rfl) (fun va vb w h1 h2 => c_ref_Cmp va vb X Y w h1 h2 (by omega) (by omega)) (fun _ _ h => by have h' : RetV _ _ _ _ := h; rw [HC.out] at h'; exact ofV h')).b, ?_⟩
          refine ⟨fun _ _ F => gR rfl rfl (arm_bin rfl (F.f 2 rfl) Is.const (fun _ => rfl) (fun _ => rfl)).b, ?_⟩
          exact trivial
        intro E' hE gp wp bp G Gs
        obtain rfl : E' = [] := by simpa [subs] using hE
        have e_3 : gp 3 = Value.bool true := G 3 52 _ (by simp) rfl
        clear G Gs hE
        simp only [rAddT6]
        simp only [qA, setD, qZ, qS, e_3]
        refine wpAny_done (by kernel_rfl) ?_ _
        go_wp2_with fail
        go_meet
        case rel => exact ⟨rfl, (V0.mono bp), (V1.mono bp), (V2.mono bp V2.lt), (V5.mono bp), (V6.mono bp), (V7.mono bp), (hb1.trans (bp.mono hb1.size))⟩
      case rest =>
      clear V0 V1 V2 V5 V6 V7 hb1
      obtain ⟨rfl, V0, V1, V2, V5, V6, V7, hb1⟩ := hcut
      go_upto_region 8 with (fail)
      go_cut [10] (fun s_10 wx => ∃ g10, s_10 = Value.pointer (some ⟨g10, 0, none⟩) ∧ w.heap.size + 3 ≤ g10 ∧ VarI wx g10 M ∧ VarQ wx w.heap.size x ∧ VarQ wx (w.heap.size + 1) y ∧ VarFB wx (w.heap.size + 2) false none 0 0 none 0 0 ∧ VarI wx g5 X ∧ VarI wx g6 Y ∧ VarI wx g7 Dn ∧ Below w.heap.size w wx)
      case first =>
        obtain ⟨base, hbase0⟩ : ∃ b : Nat, Hid (b = wc.heap.size) := ⟨_, Lib.hid rfl⟩
        have hbase : base ≤ wc.heap.size := by rw [hbase0.out]; exact Nat.le_refl _
        have hbw : w.heap.size + 3 ≤ base := by have := hb1.size; have h1 := V2.lt; rw [hbase0.out]; omega
        have l_V0 : w.heap.size < base := by rw [hbase0.out]; exact V0.lt
        have l_V1 : w.heap.size + 1 < base := by rw [hbase0.out]; exact V1.lt
        have l_V2 : w.heap.size + 2 < base := by rw [hbase0.out]; exact V2.lt
        have l_V5 : g5 < base := by rw [hbase0.out]; exact V5.lt
        have l_V6 : g6 < base := by rw [hbase0.out]; exact V6.lt
        have l_V7 : g7 < base := by rw [hbase0.out]; exact V7.lt
        refine wp_tabGF Tryz.f31 8 (rAddT7 X Y M base) [5] (fun i => i == 6) 6 2 (by kernel_rfl) (by kernel_rfl) (by kernel_rfl) (by kernel_rfl) (by kernel_rfl) ⟨fun h => (by cases h), ⟨fun h => (by cases h), ⟨fun h => (by cases h), ⟨fun h => (by cases h), ⟨fun h => (by cases h), ⟨fun h => (by cases h), ⟨fun _ w v h => Sp.var_lt h, trivial⟩⟩⟩⟩⟩⟩⟩ ?_ ?_
        · refine ⟨fun _ _ F => gR rfl rfl (arm_load rfl (F.k 6 (Value.pointer (some ⟨g6, 0, none⟩))) (V6.mono F.below)).b, ?_⟩
          refine ⟨fun _ _ F => gR rfl rfl (arm_load rfl (F.k 5 (Value.pointer (some ⟨g5, 0, none⟩))) (V5.mono F.below)).b, ?_⟩
          refine ⟨fun _ _ F => gR rfl rfl (arm_C2 rfl (enters Tryz.func59 rfl rfl) (F.f 0 rfl) (F.f 1 rfl) (fun va vb w h1 h2 => c_ref_Sub va vb Y X w h1 h2 (by omega) (by omega)) (fun _ _ h => by rw [hM.out]; exact ofSub h)).b, ?_⟩
          refine ⟨fun _ _ F => gR rfl rfl (arm_move (.inl rfl) (F.f 2 rfl)).b, ?_⟩
          refine ⟨fun _ _ F => gR rfl rfl (arm_pair0 rfl (F.f 3 rfl)).b, ?_⟩
          refine ⟨fun _ _ F => gR rfl rfl (arm_pair1 rfl (F.f 3 rfl)).b, ?_⟩
          refine ⟨fun _ _ F => gR rfl rfl (arm_alloc rfl (Nat.le_trans hbase F.below.size)), ?_⟩
          exact trivial
        intro E' hE gp wp bp G Gs
        simp only [subs, List.map_cons, List.map_nil, List.nil_append, List.cons_append, List.mem_cons, List.not_mem_nil, or_false, List.append_nil] at hE
        rcases hE with rfl | rfl
        · obtain ⟨g10, e_6, lg_6, hv_6⟩ := G 6 10 _ (by simp) rfl
          have n_4 : (Sp.nat (M)).p wp (gp 4) := G 4 57 _ (by simp) rfl
          have e_5 : gp 5 = Value.bool (decide (X ≤ Y)) := G 5 58 _ (by simp) rfl
          clear G Gs
          simp only [rAddT7]
          simp only [qA, setD, qZ, qS, e_6, e_5]
          have T0 := hv_6
          refine wpAny_storeN (j := 7) (by kernel_rfl) rfl rfl rfl rfl rfl n_4 T0.any ?_
          intro w0 u0 v0
          have O0 := T0.own
          refine wpAny_takeD (i := 8) (d := some 11) (v := Value.bool (decide (X ≤ Y))) rfl rfl (by kernel_rfl) (by kernel_rfl) (by kernel_rfl) (fun _ _ _ h => h) (Or.inl ⟨by rfl, fun w => by rfl⟩) ?_
          try simp only [qP, qZ, qS]
          refine wpAny_done (by kernel_rfl) ?_ _
          go_wp2_with fail
          go_meet
          case rel => exact ⟨g10, rfl, (by omega), v0, ((V0.mono bp).upd O0 u0 (by omega)), ((V1.mono bp).upd O0 u0 (by omega)), ((V2.mono bp V2.lt).upd O0 u0 (by omega)), ((V5.mono bp).upd O0 u0 (by omega)), ((V6.mono bp).upd O0 u0 (by omega)), ((V7.mono bp).upd O0 u0 (by omega)), (Upd.below (hb1.trans (bp.mono hb1.size)) u0 (by omega))⟩
        · obtain ⟨g10, e_6, lg_6, hv_6⟩ := G 6 10 _ (by simp) rfl
          obtain ⟨x_3_0, x_3_1, e_3, n_3_0, rfl⟩ := G 3 53 _ (by simp) rfl
          have n_4 : (Sp.nat (M)).p wp (gp 4) := G 4 57 _ (by simp) rfl
          clear G Gs
          simp only [rAddT7]
          simp only [qA, setD, qZ, qS, e_6, e_3]
          refine wpAny_takeD (i := 5) (d := some 58) (v := Value.bool (decide (X ≤ Y))) rfl rfl (by kernel_rfl) (by kernel_rfl) (by kernel_rfl) (fun _ _ _ h => h) (Or.inl ⟨by rfl, fun w => by rfl⟩) ?_
          try simp only [qP, qZ, qS]
          have T0 := hv_6
          refine wpAny_storeN (j := 7) (by kernel_rfl) rfl rfl rfl rfl rfl n_4 T0.any ?_
          intro w0 u0 v0
          have O0 := T0.own
          refine wpAny_takeD (i := 8) (d := some 11) (v := Value.bool (decide (X ≤ Y))) rfl rfl (by kernel_rfl) (by kernel_rfl) (by kernel_rfl) (fun _ _ _ h => h) (Or.inl ⟨by rfl, fun w => by rfl⟩) ?_
          try simp only [qP, qZ, qS]
          refine wpAny_done (by kernel_rfl) ?_ _
          go_wp2_with fail
          go_meet
          case rel => exact ⟨g10, rfl, (by omega), v0, ((V0.mono bp).upd O0 u0 (by omega)), ((V1.mono bp).upd O0 u0 (by omega)), ((V2.mono bp V2.lt).upd O0 u0 (by omega)), ((V5.mono bp).upd O0 u0 (by omega)), ((V6.mono bp).upd O0 u0 (by omega)), ((V7.mono bp).upd O0 u0 (by omega)), (Upd.below (hb1.trans (bp.mono hb1.size)) u0 (by omega))⟩
      case rest =>
      clear V0 V1 V2 V5 V6 V7 hb1
      obtain ⟨g10, rfl, lg10, V10, V0, V1, V2, V5, V6, V7, hb1⟩ := hcut
      go_upto_region 9 with (fail)
      go_cut [12] (fun s_12 wx => ∃ g12, s_12 = Value.pointer (some ⟨g12, 0, none⟩) ∧ w.heap.size + 3 ≤ g12 ∧ VarQ wx g12 (Fq.low y.s M Dn) ∧ VarQ wx w.heap.size x ∧ VarQ wx (w.heap.size + 1) y ∧ VarFB wx (w.heap.size + 2) false none 0 0 none 0 0 ∧ VarI wx g5 X ∧ VarI wx g6 Y ∧ VarI wx g7 Dn ∧ VarI wx g10 M ∧ Below w.heap.size w wx)
      case first =>
        obtain ⟨base, hbase0⟩ : ∃ b : Nat, Hid (b = wc.heap.size) := ⟨_, Lib.hid rfl⟩
        have hbase : base ≤ wc.heap.size := by rw [hbase0.out]; exact Nat.le_refl _
        have hbw : w.heap.size + 3 ≤ base := by have := hb1.size; have h1 := V2.lt; rw [hbase0.out]; omega
        have l_V0 : w.heap.size < base := by rw [hbase0.out]; exact V0.lt
        have l_V1 : w.heap.size + 1 < base := by rw [hbase0.out]; exact V1.lt
        have l_V2 : w.heap.size + 2 < base := by rw [hbase0.out]; exact V2.lt
        have l_V5 : g5 < base := by rw [hbase0.out]; exact V5.lt
        have l_V6 : g6 < base := by rw [hbase0.out]; exact V6.lt
        have l_V7 : g7 < base := by rw [hbase0.out]; exact V7.lt
        have l_V10 : g10 < base := by rw [hbase0.out]; exact V10.lt
        refine wp_tabGF Tryz.f31 9 (rAddT8 w y Dn M base) [7] (fun i => i == 8) 7 2 (by kernel_rfl) (by kernel_rfl) (by kernel_rfl) (by kernel_rfl) (by kernel_rfl) ⟨fun h => (by cases h), ⟨fun h => (by cases h), ⟨fun h => (by cases h), ⟨fun h => (by cases h), ⟨fun h => (by cases h), ⟨fun h => (by cases h), ⟨fun h => (by cases h), ⟨fun h => (by cases h), ⟨fun _ w v h => Sp.varF_lt h, trivial⟩⟩⟩⟩⟩⟩⟩⟩⟩ ?_ ?_
        · refine ⟨fun _ _ F => gR rfl rfl (arm_fieldF rfl (F.k 3 (Value.pointer (some ⟨w.heap.size + 1, 0, none⟩))) (run_field0 _)).b, ?_⟩
          refine ⟨fun _ _ F => gR rfl rfl (arm_loadS rfl (F.f 0 rfl) (V1.mono F.below)).b, ?_⟩
          refine ⟨fun _ _ F => gR rfl rfl (arm_load rfl (F.k 10 (Value.pointer (some ⟨g10, 0, none⟩))) (V10.mono F.below)).b, ?_⟩
          refine ⟨fun _ _ F => gR rfl rfl (arm_load rfl (F.k 7 (Value.pointer (some ⟨g7, 0, none⟩))) (V7.mono F.below)).b, ?_⟩
          refine ⟨fun _ _ F => gR rfl rfl (arm_C3 rfl (enters Tryz.func56 rfl rfl) (F.f 1 rfl) (F.f 2 rfl) (F.f 3 rfl) (fun va vb vc w h1 h2 h3 => by have e_va : va = _ := h1; subst e_va; exact q_rMake y.s vb vc M Dn w h2 h3 (by omega) (by omega) HD0.out) (fun _ _ h => ofQE h)).b, ?_⟩
          refine ⟨fun _ _ F => gR rfl rfl (arm_move (.inl rfl) (F.f 4 rfl)).b, ?_⟩
          refine ⟨fun _ _ F => gR rfl rfl (arm_pair0 rfl (F.f 5 rfl)).b, ?_⟩
          refine ⟨fun _ _ F => gR rfl rfl (arm_pair1 rfl (F.f 5 rfl)).b, ?_⟩
          refine ⟨fun _ _ F => gR rfl rfl (arm_allocF rfl (Nat.le_trans hbase F.below.size)), ?_⟩
          exact trivial
        intro E' hE gp wp bp G Gs
        simp only [subs, List.map_cons, List.map_nil, List.nil_append, List.cons_append, List.mem_cons, List.not_mem_nil, or_false, List.append_nil] at hE
        rcases hE with rfl | rfl
        · obtain ⟨g12, e_8, lg_8, hv_8⟩ := G 8 12 _ (by simp) rfl
          have n_6 : (Sp.fq (Fq.low y.s M Dn)).p wp (gp 6) := G 6 65 _ (by simp) rfl
          have e_7 : gp 7 = Value.int IntKind.i64 0 := G 7 66 _ (by simp) rfl
          clear G Gs
          simp only [rAddT8]
          simp only [qA, setD, qZ, qS, e_8, e_7]
          have T0 := hv_8
          refine wpAny_storeFr (j := 9) (by kernel_rfl) rfl rfl rfl rfl rfl n_6 T0.any ?_
          intro w0 u0 v0
          have O0 := T0.own
          refine wpAny_takeD (i := 10) (d := some 13) (v := Value.int IntKind.i64 0) rfl rfl (by kernel_rfl) (by kernel_rfl) (by kernel_rfl) (fun _ _ _ h => h) (Or.inl ⟨by rfl, fun w => by rfl⟩) ?_
          try simp only [qP, qZ, qS]
          refine wpAny_done (by kernel_rfl) ?_ _
          go_wp2_with fail
          go_meet
          case rel => exact ⟨g12, rfl, (by omega), v0, ((V0.mono bp).upd O0 u0 (by omega)), ((V1.mono bp).upd O0 u0 (by omega)), ((V2.mono bp V2.lt).upd O0 u0 (by omega)), ((V5.mono bp).upd O0 u0 (by omega)), ((V6.mono bp).upd O0 u0 (by omega)), ((V7.mono bp).upd O0 u0 (by omega)), ((V10.mono bp).upd O0 u0 (by omega)), (Upd.below (hb1.trans (bp.mono hb1.size)) u0 (by omega))⟩
        · obtain ⟨g12, e_8, lg_8, hv_8⟩ := G 8 12 _ (by simp) rfl
          obtain ⟨x_5_0, x_5_1, e_5, n_5_0, rfl⟩ := G 5 59 _ (by simp) rfl
          have n_6 : (Sp.fq (Fq.low y.s M Dn)).p wp (gp 6) := G 6 65 _ (by simp) rfl
          clear G Gs
          simp only [rAddT8]
          simp only [qA, setD, qZ, qS, e_8, e_5]
          refine wpAny_takeD (i := 7) (d := some 66) (v := Value.int IntKind.i64 0) rfl rfl (by kernel_rfl) (by kernel_rfl) (by kernel_rfl) (fun _ _ _ h => h) (Or.inl ⟨by rfl, fun w => by rfl⟩) ?_
          try simp only [qP, qZ, qS]
          have T0 := hv_8
          refine wpAny_storeFr (j := 9) (by kernel_rfl) rfl rfl rfl rfl rfl n_6 T0.any ?_
          intro w0 u0 v0
          have O0 := T0.own
          refine wpAny_takeD (i := 10) (d := some 13) (v := Value.int IntKind.i64 0) rfl rfl (by kernel_rfl) (by kernel_rfl) (by kernel_rfl) (fun _ _ _ h => h) (Or.inl ⟨by rfl, fun w => by rfl⟩) ?_
          try simp only [qP, qZ, qS]
          refine wpAny_done (by kernel_rfl) ?_ _
          go_wp2_with fail
          go_meet
          case rel => exact ⟨g12, rfl, (by omega), v0, ((V0.mono bp).upd O0 u0 (by omega)), ((V1.mono bp).upd O0 u0 (by omega)), ((V2.mono bp V2.lt).upd O0 u0 (by omega)), ((V5.mono bp).upd O0 u0 (by omega)), ((V6.mono bp).upd O0 u0 (by omega)), ((V7.mono bp).upd O0 u0 (by omega)), ((V10.mono bp).upd O0 u0 (by omega)), (Upd.below (hb1.trans (bp.mono hb1.size)) u0 (by omega))⟩
      case rest =>
      clear V0 V1 V2 V5 V6 V7 V10 hb1
      obtain ⟨g12, rfl, lg12, V12, V0, V1, V2, V5, V6, V7, V10, hb1⟩ := hcut
      go_upto_region 10 with (fail)
      go_cut [] (fun wx => VarQ wx w.heap.size x ∧ VarQ wx (w.heap.size + 1) y ∧ VarQ wx (w.heap.size + 2) (Fq.low y.s M Dn) ∧ VarI wx g5 X ∧ VarI wx g6 Y ∧ VarI wx g7 Dn ∧ VarI wx g10 M ∧ VarQ wx g12 (Fq.low y.s M Dn) ∧ Below w.heap.size w wx)
      case first =>
        refine wp_tabGF Tryz.f31 10 (rAddT9 y Dn M) [] (fun _ => false) 2 1 (by kernel_rfl) (by kernel_rfl) (by kernel_rfl) (by kernel_rfl) (by kernel_rfl) (EachX.of_all (fun _ h => by cases h) _) ?_ ?_
        · refine ⟨fun _ _ F => gR rfl rfl (arm_loadF rfl (F.k 12 (Value.pointer (some ⟨g12, 0, none⟩))) (V12.mono F.below)).b, ?_⟩
          exact trivial
        intro E' hE gp wp bp G Gs
        obtain rfl : E' = [] := by simpa [subs] using hE
        have n_0 : (Sp.fq (Fq.low y.s M Dn)).p wp (gp 0) := G 0 67 _ (by simp) rfl
        clear G Gs hE
        simp only [rAddT9]
        simp only [qA, setD, qZ, qS]
        have T0 := (V2.mono bp V2.lt)
        refine wpAny_storeFr (j := 1) (by kernel_rfl) rfl rfl rfl rfl rfl n_0 T0.any ?_
        intro w0 u0 v0
        have O0 := T0.own
        refine wpAny_done (by kernel_rfl) ?_ _
        go_wp2_with fail
        go_meet
        case rel => exact ⟨((V0.mono bp).upd O0 u0 (by omega)), ((V1.mono bp).upd O0 u0 (by omega)), v0, ((V5.mono bp).upd O0 u0 (by omega)), ((V6.mono bp).upd O0 u0 (by omega)), ((V7.mono bp).upd O0 u0 (by omega)), ((V10.mono bp).upd O0 u0 (by omega)), ((V12.mono bp).upd O0 u0 (by omega)), (Upd.below (hb1.trans (bp.mono hb1.size)) u0 (by omega))⟩
      case rest =>
      clear V0 V1 V2 V5 V6 V7 V10 V12 hb1
      obtain ⟨V0, V1, V2, V5, V6, V7, V10, V12, hb1⟩ := hcut
      obtain ⟨r1, r2, r3, r4, rV, rn, rm⟩ := V2
      have c0 := rV.cell0
      have c1 := rV.cell1
      have c2 := rV.cell2
      go_wp2
      exact bodyPost_ret (res_F rfl rfl rV) rfl ⟨_, rfl, by rw [HG.out]; exact ⟨r1, r2, r3, r4, rfl, rn, rm⟩, hb1⟩
    · obtain ⟨C, HC⟩ : ∃ C : Int, Hid (cmpI X Y = C) := ⟨_, Lib.hid rfl⟩
      have hC0 : (decide (C < 0)) = false := decide_eq_false (by rw [← HC.out]; unfold cmpI; rw [if_neg hlt]; split <;> decide)
      obtain ⟨B2, hB2⟩ : ∃ B : Bool, Hid (B = decide (C < 0)) := ⟨_, Lib.hid rfl⟩
      obtain rfl : B2 = false := by rw [hB2.out]; exact hC0
      have hM : Hid (M = X - Y) := Lib.hid (by rw [hMM.out]; unfold addM; rw [if_neg HS.out, if_pos (by omega)])
      have HG : Hid (addG x.s y.s X Y = x.s) := Lib.hid (by unfold addG; rw [if_neg HS.out, if_pos (by omega)])
      have HL := Lib.hid hlt
      clear hlt hC0
      go_upto_region 7 with (fail)
      go_cut [52] (fun s_52 wx => s_52 = Value.bool false ∧ VarQ wx w.heap.size x ∧ VarQ wx (w.heap.size + 1) y ∧ VarFB wx (w.heap.size + 2) false none 0 0 none 0 0 ∧ VarI wx g5 X ∧ VarI wx g6 Y ∧ VarI wx g7 Dn ∧ Below w.heap.size w wx)
      case first =>
        refine wp_tabGF Tryz.f31 7 (rAddT10 X Y C) [] (fun _ => false) 3 0 (by kernel_rfl) (by kernel_rfl) (by kernel_rfl) (by kernel_rfl) (by kernel_rfl) (EachX.of_all (fun _ h => by cases h) _) ?_ ?_
        · refine ⟨fun _ _ F => gR rfl rfl (arm_load rfl (F.k 5 (Value.pointer (some ⟨g5, 0, none⟩))) (V5.mono F.below)).b, ?_⟩
          refine ⟨fun _ _ F => gR rfl rfl (arm_load rfl (F.k 6 (Value.pointer (some ⟨g6, 0, none⟩))) (V6.mono F.below)).b, ?_⟩
          refine ⟨fun _ _ F => gR rfl rfl (arm_C2 rfl (enters Tryz.func58 rfl rfl) (F.f 0 rfl) (F.f 1 rfl) (fun va vb w h1 h2 => c_ref_Cmp va vb X Y w h1 h2 (by omega) (by omega)) (fun _ _ h => by have h' : RetV _ _ _ _ := h; rw [HC.out] at h'; exact ofV h')).b, ?_⟩
          refine ⟨fun _ _ F => gR rfl rfl (arm_bin rfl (F.f 2 rfl) Is.const (fun _ => rfl) (fun w => by rw [hB2.out]; rfl)).b, ?_⟩
          exact trivial
        intro E' hE gp wp bp G Gs
        obtain rfl : E' = [] := by simpa [subs] using hE
        have e_3 : gp 3 = Value.bool false := G 3 52 _ (by simp) rfl
        clear G Gs hE
        simp only [rAddT10]
        simp only [qA, setD, qZ, qS, e_3]
        refine wpAny_done (by kernel_rfl) ?_ _
        go_wp2_with fail
        go_meet
        case rel => exact ⟨rfl, (V0.mono bp), (V1.mono bp), (V2.mono bp V2.lt), (V5.mono bp), (V6.mono bp), (V7.mono bp), (hb1.trans (bp.mono hb1.size))⟩
      case rest =>
      clear V0 V1 V2 V5 V6 V7 hb1
      obtain ⟨rfl, V0, V1, V2, V5, V6, V7, hb1⟩ := hcut
      go_upto_region 11 with (fail)
      go_cut [14] (fun s_14 wx => ∃ g14, s_14 = Value.pointer (some ⟨g14, 0, none⟩) ∧ w.heap.size + 3 ≤ g14 ∧ VarI wx g14 M ∧ VarQ wx w.heap.size x ∧ VarQ wx (w.heap.size + 1) y ∧ VarFB wx (w.heap.size + 2) false none 0 0 none 0 0 ∧ VarI wx g5 X ∧ VarI wx g6 Y ∧ VarI wx g7 Dn ∧ Below w.heap.size w wx)
      case first =>
        obtain ⟨base, hbase0⟩ : ∃ b : Nat, Hid (b = wc.heap.size) := ⟨_, Lib.hid rfl⟩
        have hbase : base ≤ wc.heap.size := by rw [hbase0.out]; exact Nat.le_refl _
        have hbw : w.heap.size + 3 ≤ base := by have := hb1.size; have h1 := V2.lt; rw [hbase0.out]; omega
        have l_V0 : w.heap.size < base := by rw [hbase0.out]; exact V0.lt
        have l_V1 : w.heap.size + 1 < base := by rw [hbase0.out]; exact V1.lt
        have l_V2 : w.heap.size + 2 < base := by rw [hbase0.out]; exact V2.lt
        have l_V5 : g5 < base := by rw [hbase0.out]; exact V5.lt
        have l_V6 : g6 < base := by rw [hbase0.out]; exact V6.lt
        have l_V7 : g7 < base := by rw [hbase0.out]; exact V7.lt
        refine wp_tabGF Tryz.f31 11 (rAddT11 X Y M base) [5] (fun i => i == 6) 6 2 (by kernel_rfl) (by kernel_rfl) (by kernel_rfl) (by kernel_rfl) (by kernel_rfl) ⟨fun h => (by cases h), ⟨fun h => (by cases h), ⟨fun h => (by cases h), ⟨fun h => (by cases h), ⟨fun h => (by cases h), ⟨fun h => (by cases h), ⟨fun _ w v h => Sp.var_lt h, trivial⟩⟩⟩⟩⟩⟩⟩ ?_ ?_
        · refine ⟨fun _ _ F => gR rfl rfl (arm_load rfl (F.k 5 (Value.pointer (some ⟨g5, 0, none⟩))) (V5.mono F.below)).b, ?_⟩
          refine ⟨fun _ _ F => gR rfl rfl (arm_load rfl (F.k 6 (Value.pointer (some ⟨g6, 0, none⟩))) (V6.mono F.below)).b, ?_⟩
          refine ⟨fun _ _ F => gR rfl rfl (arm_C2 rfl (enters Tryz.func59 rfl rfl) (F.f 0 rfl) (F.f 1 rfl) (fun va vb w h1 h2 => c_ref_Sub va vb X Y w h1 h2 (by omega) (by omega)) (fun _ _ h => by rw [hM.out]; exact ofSub h)).b, ?_⟩
          refine ⟨fun _ _ F => gR rfl rfl (arm_move (.inl rfl) (F.f 2 rfl)).b, ?_⟩
          refine ⟨fun _ _ F => gR rfl rfl (arm_pair0 rfl (F.f 3 rfl)).b, ?_⟩
          refine ⟨fun _ _ F => gR rfl rfl (arm_pair1 rfl (F.f 3 rfl)).b, ?_⟩
          refine ⟨fun _ _ F => gR rfl rfl (arm_alloc rfl (Nat.le_trans hbase F.below.size)), ?_⟩
          exact trivial
        intro E' hE gp wp bp G Gs
        simp only [subs, List.map_cons, List.map_nil, List.nil_append, List.cons_append, List.mem_cons, List.not_mem_nil, or_false, List.append_nil] at hE
        rcases hE with rfl | rfl
        · obtain ⟨g14, e_6, lg_6, hv_6⟩ := G 6 14 _ (by simp) rfl
          have n_4 : (Sp.nat (M)).p wp (gp 4) := G 4 72 _ (by simp) rfl
          have e_5 : gp 5 = Value.bool (decide (Y ≤ X)) := G 5 73 _ (by simp) rfl
          clear G Gs
          simp only [rAddT11]
          simp only [qA, setD, qZ, qS, e_6, e_5]
          have T0 := hv_6
          refine wpAny_storeN (j := 7) (by kernel_rfl) rfl rfl rfl rfl rfl n_4 T0.any ?_
          intro w0 u0 v0
          have O0 := T0.own
          refine wpAny_takeD (i := 8) (d := some 15) (v := Value.bool (decide (Y ≤ X))) rfl rfl (by kernel_rfl) (by kernel_rfl) (by kernel_rfl) (fun _ _ _ h => h) (Or.inl ⟨by rfl, fun w => by rfl⟩) ?_
          try simp only [qP, qZ, qS]
          refine wpAny_done (by kernel_rfl) ?_ _
          go_wp2_with fail
          go_meet
          case rel => exact ⟨g14, rfl, (by omega), v0, ((V0.mono bp).upd O0 u0 (by omega)), ((V1.mono bp).upd O0 u0 (by omega)), ((V2.mono bp V2.lt).upd O0 u0 (by omega)), ((V5.mono bp).upd O0 u0 (by omega)), ((V6.mono bp).upd O0 u0 (by omega)), ((V7.mono bp).upd O0 u0 (by omega)), (Upd.below (hb1.trans (bp.mono hb1.size)) u0 (by omega))⟩
        · obtain ⟨g14, e_6, lg_6, hv_6⟩ := G 6 14 _ (by simp) rfl
          obtain ⟨x_3_0, x_3_1, e_3, n_3_0, rfl⟩ := G 3 68 _ (by simp) rfl
          have n_4 : (Sp.nat (M)).p wp (gp 4) := G 4 72 _ (by simp) rfl
          clear G Gs
          simp only [rAddT11]
          simp only [qA, setD, qZ, qS, e_6, e_3]
          refine wpAny_takeD (i := 5) (d := some 73) (v := Value.bool (decide (Y ≤ X))) rfl rfl (by kernel_rfl) (by kernel_rfl) (by kernel_rfl) (fun _ _ _ h => h) (Or.inl ⟨by rfl, fun w => by rfl⟩) ?_
          try simp only [qP, qZ, qS]
          have T0 := hv_6
          refine wpAny_storeN (j := 7) (by kernel_rfl) rfl rfl rfl rfl rfl n_4 T0.any ?_
          intro w0 u0 v0
          have O0 := T0.own
          refine wpAny_takeD (i := 8) (d := some 15) (v := Value.bool (decide (Y ≤ X))) rfl rfl (by kernel_rfl) (by kernel_rfl) (by kernel_rfl) (fun _ _ _ h => h) (Or.inl ⟨by rfl, fun w => by rfl⟩) ?_
          try simp only [qP, qZ, qS]
          refine wpAny_done (by kernel_rfl) ?_ _
          go_wp2_with fail
          go_meet
          case rel => exact ⟨g14, rfl, (by omega), v0, ((V0.mono bp).upd O0 u0 (by omega)), ((V1.mono bp).upd O0 u0 (by omega)), ((V2.mono bp V2.lt).upd O0 u0 (by omega)), ((V5.mono bp).upd O0 u0 (by omega)), ((V6.mono bp).upd O0 u0 (by omega)), ((V7.mono bp).upd O0 u0 (by omega)), (Upd.below (hb1.trans (bp.mono hb1.size)) u0 (by omega))⟩
      case rest =>
      clear V0 V1 V2 V5 V6 V7 hb1
      obtain ⟨g14, rfl, lg14, V14, V0, V1, V2, V5, V6, V7, hb1⟩ := hcut
      go_upto_region 12 with (fail)
      go_cut [16] (fun s_16 wx => ∃ g16, s_16 = Value.pointer (some ⟨g16, 0, none⟩) ∧ w.heap.size + 3 ≤ g16 ∧ VarQ wx g16 (Fq.low x.s M Dn) ∧ VarQ wx w.heap.size x ∧ VarQ wx (w.heap.size + 1) y ∧ VarFB wx (w.heap.size + 2) false none 0 0 none 0 0 ∧ VarI wx g5 X ∧ VarI wx g6 Y ∧ VarI wx g7 Dn ∧ VarI wx g14 M ∧ Below w.heap.size w wx)
      case first =>
        obtain ⟨base, hbase0⟩ : ∃ b : Nat, Hid (b = wc.heap.size) := ⟨_, Lib.hid rfl⟩
        have hbase : base ≤ wc.heap.size := by rw [hbase0.out]; exact Nat.le_refl _
        have hbw : w.heap.size + 3 ≤ base := by have := hb1.size; have h1 := V2.lt; rw [hbase0.out]; omega
        have l_V0 : w.heap.size < base := by rw [hbase0.out]; exact V0.lt
        have l_V1 : w.heap.size + 1 < base := by rw [hbase0.out]; exact V1.lt
        have l_V2 : w.heap.size + 2 < base := by rw [hbase0.out]; exact V2.lt
        have l_V5 : g5 < base := by rw [hbase0.out]; exact V5.lt
        have l_V6 : g6 < base := by rw [hbase0.out]; exact V6.lt
        have l_V7 : g7 < base := by rw [hbase0.out]; exact V7.lt
        have l_V14 : g14 < base := by rw [hbase0.out]; exact V14.lt
        refine wp_tabGF Tryz.f31 12 (rAddT12 w x Dn M base) [7] (fun i => i == 8) 7 2 (by kernel_rfl) (by kernel_rfl) (by kernel_rfl) (by kernel_rfl) (by kernel_rfl) ⟨fun h => (by cases h), ⟨fun h => (by cases h), ⟨fun h => (by cases h), ⟨fun h => (by cases h), ⟨fun h => (by cases h), ⟨fun h => (by cases h), ⟨fun h => (by cases h), ⟨fun h => (by cases h), ⟨fun _ w v h => Sp.varF_lt h, trivial⟩⟩⟩⟩⟩⟩⟩⟩⟩ ?_ ?_
        · refine ⟨fun _ _ F => gR rfl rfl (arm_fieldF rfl (F.k 2 (Value.pointer (some ⟨w.heap.size, 0, none⟩))) (run_field0 _)).b, ?_⟩
          refine ⟨fun _ _ F => gR rfl rfl (arm_loadS rfl (F.f 0 rfl) (V0.mono F.below)).b, ?_⟩
          refine ⟨fun _ _ F => gR rfl rfl (arm_load rfl (F.k 14 (Value.pointer (some ⟨g14, 0, none⟩))) (V14.mono F.below)).b, ?_⟩
          refine ⟨fun _ _ F => gR rfl rfl (arm_load rfl (F.k 7 (Value.pointer (some ⟨g7, 0, none⟩))) (V7.mono F.below)).b, ?_⟩
          refine ⟨fun _ _ F => gR rfl rfl (arm_C3 rfl (enters Tryz.func56 rfl rfl) (F.f 1 rfl) (F.f 2 rfl) (F.f 3 rfl) (fun va vb vc w h1 h2 h3 => by have e_va : va = _ := h1; subst e_va; exact q_rMake x.s vb vc M Dn w h2 h3 (by omega) (by omega) HD0.out) (fun _ _ h => ofQE h)).b, ?_⟩
          refine ⟨fun _ _ F => gR rfl rfl (arm_move (.inl rfl) (F.f 4 rfl)).b, ?_⟩
          refine ⟨fun _ _ F => gR rfl rfl (arm_pair0 rfl (F.f 5 rfl)).b, ?_⟩
          refine ⟨fun _ _ F => gR rfl rfl (arm_pair1 rfl (F.f 5 rfl)).b, ?_⟩
          refine ⟨fun _ _ F => gR rfl rfl (arm_allocF rfl (Nat.le_trans hbase F.below.size)), ?_⟩
          exact trivial
        intro E' hE gp wp bp G Gs
        simp only [subs, List.map_cons, List.map_nil, List.nil_append, List.cons_append, List.mem_cons, List.not_mem_nil, or_false, List.append_nil] at hE
        rcases hE with rfl | rfl
        · obtain ⟨g16, e_8, lg_8, hv_8⟩ := G 8 16 _ (by simp) rfl
          have n_6 : (Sp.fq (Fq.low x.s M Dn)).p wp (gp 6) := G 6 80 _ (by simp) rfl
          have e_7 : gp 7 = Value.int IntKind.i64 0 := G 7 81 _ (by simp) rfl
          clear G Gs
          simp only [rAddT12]
          simp only [qA, setD, qZ, qS, e_8, e_7]
          have T0 := hv_8
          refine wpAny_storeFr (j := 9) (by kernel_rfl) rfl rfl rfl rfl rfl n_6 T0.any ?_
          intro w0 u0 v0
          have O0 := T0.own
          refine wpAny_takeD (i := 10) (d := some 17) (v := Value.int IntKind.i64 0) rfl rfl (by kernel_rfl) (by kernel_rfl) (by kernel_rfl) (fun _ _ _ h => h) (Or.inl ⟨by rfl, fun w => by rfl⟩) ?_
          try simp only [qP, qZ, qS]
          refine wpAny_done (by kernel_rfl) ?_ _
          go_wp2_with fail
          go_meet
          case rel => exact ⟨g16, rfl, (by omega), v0, ((V0.mono bp).upd O0 u0 (by omega)), ((V1.mono bp).upd O0 u0 (by omega)), ((V2.mono bp V2.lt).upd O0 u0 (by omega)), ((V5.mono bp).upd O0 u0 (by omega)), ((V6.mono bp).upd O0 u0 (by omega)), ((V7.mono bp).upd O0 u0 (by omega)), ((V14.mono bp).upd O0 u0 (by omega)), (Upd.below (hb1.trans (bp.mono hb1.size)) u0 (by omega))⟩
        · obtain ⟨g16, e_8, lg_8, hv_8⟩ := G 8 16 _ (by simp) rfl
          obtain ⟨x_5_0, x_5_1, e_5, n_5_0, rfl⟩ := G 5 74 _ (by simp) rfl
          have n_6 : (Sp.fq (Fq.low x.s M Dn)).p wp (gp 6) := G 6 80 _ (by simp) rfl
          clear G Gs
          simp only [rAddT12]
          simp only [qA, setD, qZ, qS, e_8, e_5]
          refine wpAny_takeD (i := 7) (d := some 81) (v := Value.int IntKind.i64 0) rfl rfl (by kernel_rfl) (by kernel_rfl) (by kernel_rfl) (fun _ _ _ h => h) (Or.inl ⟨by rfl, fun w => by rfl⟩) ?_
          try simp only [qP, qZ, qS]
          have T0 := hv_8
          refine wpAny_storeFr (j := 9) (by kernel_rfl) rfl rfl rfl rfl rfl n_6 T0.any ?_
          intro w0 u0 v0
          have O0 := T0.own
          refine wpAny_takeD (i := 10) (d := some 17) (v := Value.int IntKind.i64 0) rfl rfl (by kernel_rfl) (by kernel_rfl) (by kernel_rfl) (fun _ _ _ h => h) (Or.inl ⟨by rfl, fun w => by rfl⟩) ?_
          try simp only [qP, qZ, qS]
          refine wpAny_done (by kernel_rfl) ?_ _
          go_wp2_with fail
          go_meet
          case rel => exact ⟨g16, rfl, (by omega), v0, ((V0.mono bp).upd O0 u0 (by omega)), ((V1.mono bp).upd O0 u0 (by omega)), ((V2.mono bp V2.lt).upd O0 u0 (by omega)), ((V5.mono bp).upd O0 u0 (by omega)), ((V6.mono bp).upd O0 u0 (by omega)), ((V7.mono bp).upd O0 u0 (by omega)), ((V14.mono bp).upd O0 u0 (by omega)), (Upd.below (hb1.trans (bp.mono hb1.size)) u0 (by omega))⟩
      case rest =>
      clear V0 V1 V2 V5 V6 V7 V14 hb1
      obtain ⟨g16, rfl, lg16, V16, V0, V1, V2, V5, V6, V7, V14, hb1⟩ := hcut
      go_upto_region 13 with (fail)
      go_cut [] (fun wx => VarQ wx w.heap.size x ∧ VarQ wx (w.heap.size + 1) y ∧ VarQ wx (w.heap.size + 2) (Fq.low x.s M Dn) ∧ VarI wx g5 X ∧ VarI wx g6 Y ∧ VarI wx g7 Dn ∧ VarI wx g14 M ∧ VarQ wx g16 (Fq.low x.s M Dn) ∧ Below w.heap.size w wx)
      case first =>
        refine wp_tabGF Tryz.f31 13 (rAddT13 x Dn M) [] (fun _ => false) 2 1 (by kernel_rfl) (by kernel_rfl) (by kernel_rfl) (by kernel_rfl) (by kernel_rfl) (EachX.of_all (fun _ h => by cases h) _) ?_ ?_
        · refine ⟨fun _ _ F => gR rfl rfl (arm_loadF rfl (F.k 16 (Value.pointer (some ⟨g16, 0, none⟩))) (V16.mono F.below)).b, ?_⟩
          exact trivial
        intro E' hE gp wp bp G Gs
        obtain rfl : E' = [] := by simpa [subs] using hE
        have n_0 : (Sp.fq (Fq.low x.s M Dn)).p wp (gp 0) := G 0 82 _ (by simp) rfl
        clear G Gs hE
        simp only [rAddT13]
        simp only [qA, setD, qZ, qS]
        have T0 := (V2.mono bp V2.lt)
        refine wpAny_storeFr (j := 1) (by kernel_rfl) rfl rfl rfl rfl rfl n_0 T0.any ?_
        intro w0 u0 v0
        have O0 := T0.own
        refine wpAny_done (by kernel_rfl) ?_ _
        go_wp2_with fail
        go_meet
        case rel => exact ⟨((V0.mono bp).upd O0 u0 (by omega)), ((V1.mono bp).upd O0 u0 (by omega)), v0, ((V5.mono bp).upd O0 u0 (by omega)), ((V6.mono bp).upd O0 u0 (by omega)), ((V7.mono bp).upd O0 u0 (by omega)), ((V14.mono bp).upd O0 u0 (by omega)), ((V16.mono bp).upd O0 u0 (by omega)), (Upd.below (hb1.trans (bp.mono hb1.size)) u0 (by omega))⟩
      case rest =>
      clear V0 V1 V2 V5 V6 V7 V14 V16 hb1
      obtain ⟨V0, V1, V2, V5, V6, V7, V14, V16, hb1⟩ := hcut
      obtain ⟨r1, r2, r3, r4, rV, rn, rm⟩ := V2
      have c0 := rV.cell0
      have c1 := rV.cell1
      have c2 := rV.cell2
      go_wp2
      exact bodyPost_ret (res_F rfl rfl rV) rfl ⟨_, rfl, by rw [HG.out]; exact ⟨r1, r2, r3, r4, rfl, rn, rm⟩, hb1⟩
def rSubT0 (x : Fq) (y : Fq) : List (Nat × Tmp × Sp) :=
   [(0, 5, .fq x),
    (1, 6, .fq y),
    (2, 7, .fq y.neg),
    (3, 8, .fq (x.add y.neg))]
set_option maxHeartbeats 4000000 in
theorem q_rSub (va vb : Value) (x y : Fq) (w : World) (ha : IsQ w va x) (hb : IsQ w vb y) (h : x.ok 1000000000) (k : y.ok 1000000000) :
    Calls Tryz.prog 33 #[va, vb] w fun e w' => RetQ w (x.sub y) e w' := by
  obtain ⟨a0, c0, b0, d0, rfl, m0, k0⟩ := boxF ha
  obtain ⟨a1, c1, b1, d1, rfl, m1, k1⟩ := boxF (hb.mono m0)
  rw [World.size_alloc ] at k1
  have n1 := m0.trans (m1.mono m0.size)
  obtain ⟨m2, k2⟩ := resF (w := ((w.alloc (.cells #[.bool x.s, .slice a0 (nl x.p) c0, .slice b0 (nl x.q) d0] 26)).alloc (.cells #[.bool y.s, .slice a1 (nl y.p) c1, .slice b1 (nl y.q) d1] 26)))
  rw [World.size_alloc, World.size_alloc ] at k2
  have n2 := n1.trans (m2.mono n1.size)
  clear ha hb
  go_enter Tryz.func33, Tryz.ntmps33
  go_upto_region 0 with (fail)
  go_cut [2, 3, 4] (fun s_2 s_3 s_4 wx => s_2 = Value.pointer (some ⟨w.heap.size, 0, none⟩) ∧ s_3 = Value.pointer (some ⟨w.heap.size + 1, 0, none⟩) ∧ s_4 = Value.pointer (some ⟨w.heap.size + 2, 0, none⟩) ∧ VarQ wx w.heap.size x ∧ VarQ wx (w.heap.size + 1) y ∧ VarFB wx (w.heap.size + 2) false none 0 0 none 0 0 ∧ Below w.heap.size w wx)
  case first =>
    go_wp2_with fail
    go_meet
    case rel => exact ⟨rfl, rfl, rfl, ((k0.mono m1).mono m2), (k1.mono m2), k2, n2⟩
  case rest =>
  clear m0 k0 m1 k1 m2 k2 n1 n2
  obtain ⟨rfl, rfl, rfl, V0, V1, V2, hb1⟩ := hcut
  go_upto_region 1 with (fail)
  go_cut [] (fun wx => VarQ wx w.heap.size x ∧ VarQ wx (w.heap.size + 1) y ∧ VarQ wx (w.heap.size + 2) (x.add y.neg) ∧ Below w.heap.size w wx)
  case first =>
    refine wp_tabG Tryz.f33 1 (rSubT0 x y) [] (fun _ => false) 4 1 (by kernel_rfl) (by kernel_rfl) (by kernel_rfl) (by kernel_rfl) (by kernel_rfl) (EachX.of_all (fun _ h => by cases h) _) ?_ ?_
    · refine ⟨fun _ _ F => gR rfl rfl (arm_loadF rfl (F.k 2 (Value.pointer (some ⟨w.heap.size, 0, none⟩))) (V0.mono F.below)).b, ?_⟩
      refine ⟨fun _ _ F => gR rfl rfl (arm_loadF rfl (F.k 3 (Value.pointer (some ⟨w.heap.size + 1, 0, none⟩))) (V1.mono F.below)).b, ?_⟩
      refine ⟨fun _ _ F => gR rfl rfl (arm_C1 rfl (enters Tryz.func61 rfl rfl) (F.f 1 rfl) (fun va w h1 => q_rNeg va y w h1 k) (fun _ _ h => ofQ h)).b, ?_⟩
      refine ⟨fun _ _ F => gR rfl rfl (arm_C2 rfl (enters Tryz.func31 rfl rfl) (F.f 0 rfl) (F.f 2 rfl) (fun va vb w h1 h2 => q_rAdd va vb x y.neg w h1 h2 h k.neg) (fun _ _ h => ofQ h)).b, ?_⟩
      exact trivial
    intro E' hE gp wp bp G Gs
    obtain rfl : E' = [] := by simpa [subs] using hE
    have n_3 : (Sp.fq (x.add y.neg)).p wp (gp 3) := G 3 8 _ (by simp) rfl
    clear G Gs hE
    simp only [rSubT0]
    simp only [qA, setD, qZ, qS]
    have T0 := (V2.mono bp V2.lt)
    refine wpAny_storeFr (j := 4) (by kernel_rfl) rfl rfl rfl rfl rfl n_3 T0.any ?_
    intro w0 u0 v0
    have O0 := T0.own
    refine wpAny_done (by kernel_rfl) ?_ _
    go_wp2_with fail
    go_meet
    case rel => exact ⟨((V0.mono bp).upd O0 u0 (by omega)), ((V1.mono bp).upd O0 u0 (by omega)), v0, (Upd.below (hb1.trans (bp.mono hb1.size)) u0 (by omega))⟩
  case rest =>
  clear V0 V1 V2 hb1
  obtain ⟨V0, V1, V2, hb1⟩ := hcut
  obtain ⟨r1, r2, r3, r4, rV, rn, rm⟩ := V2
  have c0 := rV.cell0
  have c1 := rV.cell1
  have c2 := rV.cell2
  go_wp2
  exact bodyPost_ret (res_F rfl rfl rV) rfl ⟨_, rfl, ⟨r1, r2, r3, r4, rfl, rn, rm⟩, hb1⟩
end Go.Proofs.YtfhinmdhjlmikaaGreatDoor
namespace Go.Proofs.YtfhinmdhjlmikaaGreatDoor
set_option linter.unusedSimpArgs false
set_option linter.unusedVariables false
set_option maxRecDepth 100000
open Go.RowKit
theorem wrap_mag (v : Int) (h1 : -9223372036854775808 ≤ v) (hv : v < 0) : IntKind.u64.wrap (-IntKind.u64.wrap v) = ((v.natAbs : Nat) : Int) := by
  simp only [IntKind.wrap, IntKind.signed, IntKind.bits, Bool.false_and, Bool.false_eq_true, if_false]
  omega
theorem c_mag (v : Int) (w : World) (h1 : -9223372036854775808 ≤ v) (h2 : v < 9223372036854775808) :
    Calls Tryz.prog 65 #[.int .i64 v] w fun e w' => RetN w v.natAbs e w' := by
  obtain ⟨m0, k0⟩ := resN (w := w)
  have c0 := k0.cell
  have f0 := k0.frozen
  have fin : ∀ e w9, RetNew (w.alloc (.cells #[.slice none 0 0] 24)) v.natAbs e w9 → ∃ a c, e = .returned (.agg #[.slice a (nl v.natAbs) c]) ∧ IsN w9 (.agg #[.slice a (nl v.natAbs) c]) v.natAbs ∧ VarB w9 w.heap.size none 0 0 ∧ Below w.heap.size w w9 := by
    rintro e w9 ⟨x, rfl, nx, hb⟩
    have nx := nx.isN
    obtain ⟨a, c, rfl⟩ := nx.shape
    exact ⟨a, c, rfl, nx, k0.mono hb k0.lt, m0.trans (hb.mono m0.size)⟩
  go_enter Tryz.func65, Tryz.ntmps65
  by_cases hv : v < 0
  · have e0 := wrap_mag v h1 hv
    have E0 := Lib.hid e0
    clear e0
    go_wp2_with fail
    rw [E0.out]
    refine (c_natural_Of v.natAbs _ (by omega)).mono ?_
    rintro e w9 h9
    obtain ⟨a, c, rfl, nx, k9, hb⟩ := fin e w9 h9
    have c9 := k9.cell
    have f9 := k9.frozen
    clear c0 f0 fin h9
    go_wp2
    exact bodyPost_ret (res_N rfl rfl k9.set) rfl ⟨_, rfl, nx.setVar k9, hb.setCell (p := ⟨w.heap.size, 0, none⟩) (Nat.le_refl _) _⟩
  · obtain ⟨n, hn⟩ : ∃ n : Nat, Hid (v = (n : Int)) := ⟨v.natAbs, Lib.hid (by omega)⟩
    have hnn : Hid (v.natAbs = n) := Lib.hid (by have := hn.out; omega)
    go_wp2_with fail
    rw [show v = ((v.natAbs : Nat) : Int) from by omega]
    refine (c_natural_Of v.natAbs _ (by omega)).mono ?_
    rintro e w9 h9
    obtain ⟨a, c, rfl, nx, k9, hb⟩ := fin e w9 h9
    have c9 := k9.cell
    have f9 := k9.frozen
    clear c0 f0 fin h9
    go_wp2
    exact bodyPost_ret (res_N rfl rfl k9.set) rfl ⟨_, rfl, nx.setVar k9, hb.setCell (p := ⟨w.heap.size, 0, none⟩) (Nat.le_refl _) _⟩
theorem c_size (v : Int) (w : World) (h1 : -9223372036854775808 ≤ v) (h2 : v < 9223372036854775808) :
    Calls Tryz.prog 49 #[.int .i64 v] w fun e w' => RetV w (.int .u64 (v.natAbs : Int)) e w' := by
  go_enter Tryz.func49, Tryz.ntmps49
  by_cases hv : v < 0
  · go_wp2
    go_ret
    refine ⟨?_, Below.refl _ _⟩
    simp only [Array.getD_eq_getD_getElem?, List.getElem?_toArray, List.getElem?_cons_succ, List.getElem?_cons_zero, Option.getD_some, Ending.returned.injEq, Value.int.injEq, true_and, IntKind.wrap, IntKind.signed, IntKind.bits, Bool.false_and, Bool.false_eq_true, if_false, if_true]
    omega
  · go_wp2
    go_ret
    refine ⟨?_, Below.refl _ _⟩
    simp only [Array.getD_eq_getD_getElem?, List.getElem?_toArray, List.getElem?_cons_succ, List.getElem?_cons_zero, Option.getD_some, Ending.returned.injEq, Value.int.injEq, true_and]
    omega
end Go.Proofs.YtfhinmdhjlmikaaGreatDoor
