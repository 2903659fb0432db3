/- The law FractionTexts. -/
import Derived.Test.YtldnimohnbjfaaaP15
namespace Go.Proofs.Ytldnimohnbjfaaa
set_option linter.unusedSimpArgs false
set_option linter.unusedVariables false
set_option maxRecDepth 100000
open Go.RowKit
theorem run_neSt (s : ByteArray) (w : World) : (binOp BinOp.neq 9 (.string s) (.string s)).run Try.prog w = .ok (.bool false) w := by
  go_simp
theorem fmt_le {x : Fq} (h : x.ok 12) : x.fmt.size ≤ 4294967280 := by
  have h1 := fmt_size x.p
  have h2 := fmt_size x.q
  have h3 := h.p
  have h4 := h.q
  unfold Fq.fmt
  split <;> split
  all_goals try simp only [ByteArray.size_append, sz45, sz47]
  all_goals omega
def lTeTT0 (u : ByteArray) : List (Nat × Tmp × Sp) :=
   [(0, 12, .val (Value.string u)),
    (1, 13, .val (Value.int IntKind.i64 (u.size : Int))),
    (2, 14, .val (Value.bool false))]
def lTeTT1 (u : ByteArray) (y : Fq) (base : Nat) : List (Nat × Tmp × Sp) :=
   [(0, 17, .val (Value.string u)),
    (1, 18, .pair (.fq y) (.val (Value.int IntKind.i64 0))),
    (2, 16, .pair (.fq y) (.val (Value.int IntKind.i64 0))),
    (3, 19, .fq y),
    (4, 20, .val (Value.int IntKind.i64 0)),
    (5, 5, .varF base)]
def lTeTT2 (u : ByteArray) (y : Fq) (base : Nat) : List (Nat × Tmp × Sp) :=
   [(0, 22, .val (Value.string u)),
    (1, 23, .pair (.fq y) (.val (Value.int IntKind.i64 0))),
    (2, 21, .pair (.fq y) (.val (Value.int IntKind.i64 0))),
    (3, 24, .fq y),
    (4, 25, .val (Value.int IntKind.i64 0)),
    (5, 7, .varF base)]
def lTeTT3 (u : ByteArray) (y : Fq) : List (Nat × Tmp × Sp) :=
   [(0, 26, .val (Value.int IntKind.i64 0)),
    (1, 27, .val (Value.int IntKind.i64 0)),
    (2, 28, .val (Value.bool false)),
    (3, 29, .val (Value.bool false)),
    (4, 30, .fq y),
    (5, 31, .fq y),
    (6, 32, .val (Value.bool true)),
    (7, 33, .val (Value.bool false)),
    (8, 34, .val (Value.bool false)),
    (9, 35, .val (Value.bool false)),
    (10, 36, .val (Value.int IntKind.i64 0)),
    (11, 37, .val (Value.bool true)),
    (12, 38, .val (Value.bool true)),
    (13, 39, .fq y),
    (14, 40, .val (Value.string u)),
    (15, 41, .val (Value.string u)),
    (16, 42, .val (Value.bool false)),
    (17, 43, .val (Value.bool false)),
    (18, 44, .val (Value.bool false))]
def lTeTT4 (x : Fq) : List (Nat × Tmp × Sp) :=
   [(0, 45, .fq x),
    (1, 46, .val (Value.bool true)),
    (2, 47, .val (Value.bool false))]
def lTeTT5 (x : Fq) (z : ByteArray) : List (Nat × Tmp × Sp) :=
   [(0, 49, .fq x),
    (1, 50, .val (Value.string z)),
    (2, 9, .val (Value.string z))]
def lTeTT6 (x : Fq) (z : ByteArray) (base : Nat) : List (Nat × Tmp × Sp) :=
   [(0, 52, .val (Value.string z)),
    (1, 53, .pair (.fq x) (.val (Value.int IntKind.i64 0))),
    (2, 51, .pair (.fq x) (.val (Value.int IntKind.i64 0))),
    (3, 54, .fq x),
    (4, 55, .val (Value.int IntKind.i64 0)),
    (5, 10, .varF base)]
def lTeTT7 (x : Fq) (z : ByteArray) : List (Nat × Tmp × Sp) :=
   [(0, 56, .val (Value.string z)),
    (1, 57, .fq x),
    (2, 58, .val (Value.string z)),
    (3, 59, .val (Value.bool true)),
    (4, 60, .val (Value.bool true)),
    (5, 61, .val (Value.int IntKind.i64 0)),
    (6, 62, .val (Value.bool true)),
    (7, 63, .val (Value.bool true)),
    (8, 64, .val (Value.bool true)),
    (9, 65, .fq x),
    (10, 66, .fq x),
    (11, 67, .val (Value.bool true)),
    (12, 68, .val (Value.bool true)),
    (13, 69, .val (Value.bool true)),
    (14, 70, .val (Value.bool true)),
    (15, 71, .val (Value.bool true)),
    (16, 4, .val (Value.bool true))]
def lTeTT8 (u : ByteArray) : List (Nat × Tmp × Sp) :=
   [(0, 12, .val (Value.string u)),
    (1, 13, .val (Value.int IntKind.i64 (u.size : Int))),
    (2, 14, .val (Value.bool false))]
def lTeTT9 (u : ByteArray) (y : Fq) (c : Int) (base : Nat) : List (Nat × Tmp × Sp) :=
   [(0, 17, .val (Value.string u)),
    (1, 18, .pair (.fq y) (.val (Value.int IntKind.i64 c))),
    (2, 16, .pair (.fq y) (.val (Value.int IntKind.i64 c))),
    (3, 19, .fq y),
    (4, 20, .val (Value.int IntKind.i64 c)),
    (5, 5, .varF base)]
def lTeTT10 (u : ByteArray) (y : Fq) (c : Int) (base : Nat) : List (Nat × Tmp × Sp) :=
   [(0, 22, .val (Value.string u)),
    (1, 23, .pair (.fq y) (.val (Value.int IntKind.i64 c))),
    (2, 21, .pair (.fq y) (.val (Value.int IntKind.i64 c))),
    (3, 24, .fq y),
    (4, 25, .val (Value.int IntKind.i64 c)),
    (5, 7, .varF base)]
def lTeTT11 (y : Fq) (c : Int) : List (Nat × Tmp × Sp) :=
   [(0, 26, .val (Value.int IntKind.i64 c)),
    (1, 27, .val (Value.int IntKind.i64 c)),
    (2, 28, .val (Value.bool false)),
    (3, 29, .val (Value.bool false)),
    (4, 30, .fq y),
    (5, 31, .fq y),
    (6, 32, .val (Value.bool true)),
    (7, 33, .val (Value.bool false)),
    (8, 34, .val (Value.bool false)),
    (9, 35, .val (Value.bool false)),
    (10, 36, .val (Value.int IntKind.i64 c)),
    (11, 37, .val (Value.bool false)),
    (12, 38, .val (Value.bool false)),
    (13, 39, .val undef),
    (14, 40, .val undef),
    (15, 41, .val undef),
    (16, 42, .val undef),
    (17, 43, .val (Value.bool false)),
    (18, 44, .val (Value.bool false))]
def lTeTT12 (x : Fq) : List (Nat × Tmp × Sp) :=
   [(0, 45, .fq x),
    (1, 46, .val (Value.bool true)),
    (2, 47, .val (Value.bool false))]
def lTeTT13 (x : Fq) (z : ByteArray) : List (Nat × Tmp × Sp) :=
   [(0, 49, .fq x),
    (1, 50, .val (Value.string z)),
    (2, 9, .val (Value.string z))]
def lTeTT14 (x : Fq) (z : ByteArray) (base : Nat) : List (Nat × Tmp × Sp) :=
   [(0, 52, .val (Value.string z)),
    (1, 53, .pair (.fq x) (.val (Value.int IntKind.i64 0))),
    (2, 51, .pair (.fq x) (.val (Value.int IntKind.i64 0))),
    (3, 54, .fq x),
    (4, 55, .val (Value.int IntKind.i64 0)),
    (5, 10, .varF base)]
def lTeTT15 (x : Fq) (z : ByteArray) : List (Nat × Tmp × Sp) :=
   [(0, 56, .val (Value.string z)),
    (1, 57, .fq x),
    (2, 58, .val (Value.string z)),
    (3, 59, .val (Value.bool true)),
    (4, 60, .val (Value.bool true)),
    (5, 61, .val (Value.int IntKind.i64 0)),
    (6, 62, .val (Value.bool true)),
    (7, 63, .val (Value.bool true)),
    (8, 64, .val (Value.bool true)),
    (9, 65, .fq x),
    (10, 66, .fq x),
    (11, 67, .val (Value.bool true)),
    (12, 68, .val (Value.bool true)),
    (13, 69, .val (Value.bool true)),
    (14, 70, .val (Value.bool true)),
    (15, 71, .val (Value.bool true)),
    (16, 4, .val (Value.bool true))]
def lTeTT16 (u : ByteArray) : List (Nat × Tmp × Sp) :=
   [(0, 12, .val (Value.string u)),
    (1, 13, .val (Value.int IntKind.i64 (u.size : Int))),
    (2, 14, .val (Value.bool true))]
def lTeTT17  : List (Nat × Tmp × Sp) :=
   [(0, 15, .val (Value.bool true)),
    (1, 4, .val (Value.bool true))]
set_option maxHeartbeats 4000000 in
theorem c_lTeT (vx : Value) (x : Fq) (u : ByteArray) (w : World) (ix : IsQ w vx x) (hx : x.ok 12) (ex : x.valid = true) :
    Calls Try.prog 4 #[vx, .string u] w fun e w' => RetV w (.bool true) e w' := by
  obtain ⟨y, c, hf⟩ := fp_total u
  have FO := Lib.hid (fp_ok hf)
  obtain ⟨z, hz⟩ : ∃ z, Hid (z = x.fmt) := ⟨_, Lib.hid rfl⟩
  have hzs : z.size ≤ 4294967280 := by rw [hz.out]; exact fmt_le hx
  have FZ : FP z x 0 := by rw [hz.out]; exact fmt_fp ex hx.p hx.q
  by_cases hs : u.size ≤ 900
  · have HS : Hid (false = decide (900 < (u.size : Int))) := Lib.hid (by symm; apply decide_eq_false; omega)
    have hus : u.size ≤ 4294967280 := by omega
    clear hs
    by_cases hc : c = 0
    · subst hc
      have HW : Hid (u = y.fmt) := Lib.hid (fp_fmt hf rfl).symm
      have HY : y.ok 400 := ⟨FO.out.1, FO.out.2.1, FO.out.2.2 rfl⟩
      obtain ⟨a0, c0, b0, d0, rfl, m0, k0⟩ := boxF ix
      clear ix
      go_enter Try.func4, Try.ntmps4
      go_upto_region 0 with (fail)
      go_cut [2, 4] (fun s_2 s_4 wx => s_2 = Value.pointer (some ⟨w.heap.size, 0, none⟩) ∧ s_4 = Value.bool false ∧ VarQ wx w.heap.size x ∧ Below w.heap.size w wx)
      case first =>
        go_wp2_with fail
        go_meet
        case rel => exact ⟨rfl, rfl, k0, m0⟩
      case rest =>
      clear m0 k0
      obtain ⟨rfl, rfl, V0, hb1⟩ := hcut
      go_upto_region 1 with (fail)
      go_cut [14] (fun s_14 wx => s_14 = Value.bool false ∧ VarQ wx w.heap.size x ∧ Below w.heap.size w wx)
      case first =>
        refine tF Try.f4 1 (lTeTT0 u) [] 3 0 ?_ ?_
        · refine ⟨fun _ _ F => gR rfl rfl (arm_move (.inl rfl) (F.k 1 (Value.string u))).b, ?_⟩
          refine ⟨fun _ _ F => gR rfl rfl (arm_lenStr rfl (F.f 0 rfl)).b, ?_⟩
          refine ⟨fun _ _ F => gR rfl rfl (arm_bin rfl (F.f 1 rfl) Is.const (fun _ => rfl) (fun w => by rw [HS.out]; rfl)).b, ?_⟩
          exact trivial
        intro E' hE gp wp bp G Gs
        obtain rfl : E' = [] := by simpa [subs] using hE
        have e_2 : gp 2 = Value.bool false := G 2 14 _ (by simp) rfl
        clear G Gs hE
        simp only [lTeTT0]
        simp only [qA, setD, qZ, qS, e_2]
        refine wpAny_done (by kernel_rfl) ?_ _
        go_wp2_with fail
        go_meet
        case rel => exact ⟨rfl, (V0.mono bp), (hb1.trans (bp.mono hb1.size))⟩
      case rest =>
      clear V0 hb1
      obtain ⟨rfl, V0, hb1⟩ := hcut
      go_upto_region 3 with (fail)
      go_cut [5, 6] (fun s_5 s_6 wx => ∃ g5, s_5 = Value.pointer (some ⟨g5, 0, none⟩) ∧ s_6 = Value.int IntKind.i64 0 ∧ w.heap.size + 1 ≤ g5 ∧ VarQ wx g5 y ∧ VarQ wx w.heap.size x ∧ Below w.heap.size w wx)
      case first =>
        obtain ⟨base, hbase0⟩ : ∃ b : Nat, Hid (b = wc.heap.size) := ⟨_, Lib.hid rfl⟩
        have hbase : base ≤ wc.heap.size := by rw [hbase0.out]; exact Nat.le_refl _
        have hbw : w.heap.size + 1 ≤ base := by have := hb1.size; have h1 := V0.lt; rw [hbase0.out]; omega
        have l_V0 : w.heap.size < base := by rw [hbase0.out]; exact V0.lt
        refine wp_tabGF Try.f4 3 (lTeTT1 u y base) [4] (fun i => i == 5) 6 2 (by kernel_rfl) (by kernel_rfl) (by kernel_rfl) (by kernel_rfl) (by kernel_rfl) ⟨fun h => (by cases h), ⟨fun h => (by cases h), ⟨fun h => (by cases h), ⟨fun h => (by cases h), ⟨fun h => (by cases h), ⟨fun _ w v h => Sp.varF_lt h, trivial⟩⟩⟩⟩⟩⟩ ?_ ?_
        · refine ⟨fun _ _ F => gR rfl rfl (arm_move (.inl rfl) (F.k 1 (Value.string u))).b, ?_⟩
          refine ⟨fun _ _ F => gR rfl rfl (arm_C1 rfl (enters Try.func14 rfl rfl) (F.f 0 rfl) (fun va w h1 => by have e_va : va = _ := h1; subst e_va; exact q_fParse u y 0 w hf hus) (fun _ _ h => ofQE h)).b, ?_⟩
          refine ⟨fun _ _ F => gR rfl rfl (arm_move (.inl rfl) (F.f 1 rfl)).b, ?_⟩
          refine ⟨fun _ _ F => gR rfl rfl (arm_pair0 rfl (F.f 2 rfl)).b, ?_⟩
          refine ⟨fun _ _ F => gR rfl rfl (arm_pair1 rfl (F.f 2 rfl)).b, ?_⟩
          refine ⟨fun _ _ F => gR rfl rfl (arm_allocF rfl (Nat.le_trans hbase F.below.size)), ?_⟩
          exact trivial
        intro E' hE gp wp bp G Gs
        simp only [subs, List.map_cons, List.map_nil, List.nil_append, List.cons_append, List.mem_cons, List.not_mem_nil, or_false, List.append_nil] at hE
        rcases hE with rfl | rfl
        · obtain ⟨g5, e_5, lg_5, hv_5⟩ := G 5 5 _ (by simp) rfl
          have n_3 : (Sp.fq y).p wp (gp 3) := G 3 19 _ (by simp) rfl
          have e_4 : gp 4 = Value.int IntKind.i64 0 := G 4 20 _ (by simp) rfl
          clear G Gs
          simp only [lTeTT1]
          simp only [qA, setD, qZ, qS, e_5, e_4]
          have T0 := hv_5
          refine wpAny_storeFr (j := 6) (by kernel_rfl) rfl rfl rfl rfl rfl n_3 T0.any ?_
          intro w0 u0 v0
          have O0 := T0.own
          refine wpAny_takeD (i := 7) (d := some 6) (v := Value.int IntKind.i64 0) rfl rfl (by kernel_rfl) (by kernel_rfl) (by kernel_rfl) (fun _ _ _ h => h) (Or.inl ⟨by rfl, fun w => by rfl⟩) ?_
          try simp only [qP, qZ, qS]
          refine wpAny_done (by kernel_rfl) ?_ _
          go_wp2_with fail
          go_meet
          case rel => exact ⟨g5, rfl, rfl, (by omega), v0, ((V0.mono bp).upd O0 u0 (by omega)), (Upd.below (hb1.trans (bp.mono hb1.size)) u0 (by omega))⟩
        · obtain ⟨g5, e_5, lg_5, hv_5⟩ := G 5 5 _ (by simp) rfl
          obtain ⟨x_2_0, x_2_1, e_2, n_2_0, rfl⟩ := G 2 16 _ (by simp) rfl
          have n_3 : (Sp.fq y).p wp (gp 3) := G 3 19 _ (by simp) rfl
          clear G Gs
          simp only [lTeTT1]
          simp only [qA, setD, qZ, qS, e_5, e_2]
          refine wpAny_takeD (i := 4) (d := some 20) (v := Value.int IntKind.i64 0) rfl rfl (by kernel_rfl) (by kernel_rfl) (by kernel_rfl) (fun _ _ _ h => h) (Or.inl ⟨by rfl, fun w => by rfl⟩) ?_
          try simp only [qP, qZ, qS]
          have T0 := hv_5
          refine wpAny_storeFr (j := 6) (by kernel_rfl) rfl rfl rfl rfl rfl n_3 T0.any ?_
          intro w0 u0 v0
          have O0 := T0.own
          refine wpAny_takeD (i := 7) (d := some 6) (v := Value.int IntKind.i64 0) rfl rfl (by kernel_rfl) (by kernel_rfl) (by kernel_rfl) (fun _ _ _ h => h) (Or.inl ⟨by rfl, fun w => by rfl⟩) ?_
          try simp only [qP, qZ, qS]
          refine wpAny_done (by kernel_rfl) ?_ _
          go_wp2_with fail
          go_meet
          case rel => exact ⟨g5, rfl, rfl, (by omega), v0, ((V0.mono bp).upd O0 u0 (by omega)), (Upd.below (hb1.trans (bp.mono hb1.size)) u0 (by omega))⟩
      case rest =>
      clear V0 hb1
      obtain ⟨g5, rfl, rfl, lg5, V5, V0, hb1⟩ := hcut
      go_upto_region 4 with (fail)
      go_cut [7, 8] (fun s_7 s_8 wx => ∃ g7, s_7 = Value.pointer (some ⟨g7, 0, none⟩) ∧ s_8 = Value.int IntKind.i64 0 ∧ w.heap.size + 1 ≤ g7 ∧ g5 < g7 ∧ VarQ wx g7 y ∧ VarQ wx w.heap.size x ∧ VarQ wx g5 y ∧ Below w.heap.size w wx)
      case first =>
        obtain ⟨base, hbase0⟩ : ∃ b : Nat, Hid (b = wc.heap.size) := ⟨_, Lib.hid rfl⟩
        have hbase : base ≤ wc.heap.size := by rw [hbase0.out]; exact Nat.le_refl _
        have hbw : w.heap.size + 1 ≤ base := by have := hb1.size; have h1 := V0.lt; rw [hbase0.out]; omega
        have l_V0 : w.heap.size < base := by rw [hbase0.out]; exact V0.lt
        have l_V5 : g5 < base := by rw [hbase0.out]; exact V5.lt
        refine wp_tabGF Try.f4 4 (lTeTT2 u y base) [4] (fun i => i == 5) 6 2 (by kernel_rfl) (by kernel_rfl) (by kernel_rfl) (by kernel_rfl) (by kernel_rfl) ⟨fun h => (by cases h), ⟨fun h => (by cases h), ⟨fun h => (by cases h), ⟨fun h => (by cases h), ⟨fun h => (by cases h), ⟨fun _ w v h => Sp.varF_lt h, trivial⟩⟩⟩⟩⟩⟩ ?_ ?_
        · refine ⟨fun _ _ F => gR rfl rfl (arm_move (.inl rfl) (F.k 1 (Value.string u))).b, ?_⟩
          refine ⟨fun _ _ F => gR rfl rfl (arm_C1 rfl (enters Try.func15 rfl rfl) (F.f 0 rfl) (fun va w h1 => by have e_va : va = _ := h1; subst e_va; exact q_rParse u y 0 w hf hus) (fun _ _ h => ofQE h)).b, ?_⟩
          refine ⟨fun _ _ F => gR rfl rfl (arm_move (.inl rfl) (F.f 1 rfl)).b, ?_⟩
          refine ⟨fun _ _ F => gR rfl rfl (arm_pair0 rfl (F.f 2 rfl)).b, ?_⟩
          refine ⟨fun _ _ F => gR rfl rfl (arm_pair1 rfl (F.f 2 rfl)).b, ?_⟩
          refine ⟨fun _ _ F => gR rfl rfl (arm_allocF rfl (Nat.le_trans hbase F.below.size)), ?_⟩
          exact trivial
        intro E' hE gp wp bp G Gs
        simp only [subs, List.map_cons, List.map_nil, List.nil_append, List.cons_append, List.mem_cons, List.not_mem_nil, or_false, List.append_nil] at hE
        rcases hE with rfl | rfl
        · obtain ⟨g7, e_5, lg_5, hv_5⟩ := G 5 7 _ (by simp) rfl
          have n_3 : (Sp.fq y).p wp (gp 3) := G 3 24 _ (by simp) rfl
          have e_4 : gp 4 = Value.int IntKind.i64 0 := G 4 25 _ (by simp) rfl
          clear G Gs
          simp only [lTeTT2]
          simp only [qA, setD, qZ, qS, e_5, e_4]
          have T0 := hv_5
          refine wpAny_storeFr (j := 6) (by kernel_rfl) rfl rfl rfl rfl rfl n_3 T0.any ?_
          intro w0 u0 v0
          have O0 := T0.own
          refine wpAny_takeD (i := 7) (d := some 8) (v := Value.int IntKind.i64 0) rfl rfl (by kernel_rfl) (by kernel_rfl) (by kernel_rfl) (fun _ _ _ h => h) (Or.inl ⟨by rfl, fun w => by rfl⟩) ?_
          try simp only [qP, qZ, qS]
          refine wpAny_done (by kernel_rfl) ?_ _
          go_wp2_with fail
          go_meet
          case rel => exact ⟨g7, rfl, rfl, (by omega), (by omega), v0, ((V0.mono bp).upd O0 u0 (by omega)), ((V5.mono bp).upd O0 u0 (by omega)), (Upd.below (hb1.trans (bp.mono hb1.size)) u0 (by omega))⟩
        · obtain ⟨g7, e_5, lg_5, hv_5⟩ := G 5 7 _ (by simp) rfl
          obtain ⟨x_2_0, x_2_1, e_2, n_2_0, rfl⟩ := G 2 21 _ (by simp) rfl
          have n_3 : (Sp.fq y).p wp (gp 3) := G 3 24 _ (by simp) rfl
          clear G Gs
          simp only [lTeTT2]
          simp only [qA, setD, qZ, qS, e_5, e_2]
          refine wpAny_takeD (i := 4) (d := some 25) (v := Value.int IntKind.i64 0) rfl rfl (by kernel_rfl) (by kernel_rfl) (by kernel_rfl) (fun _ _ _ h => h) (Or.inl ⟨by rfl, fun w => by rfl⟩) ?_
          try simp only [qP, qZ, qS]
          have T0 := hv_5
          refine wpAny_storeFr (j := 6) (by kernel_rfl) rfl rfl rfl rfl rfl n_3 T0.any ?_
          intro w0 u0 v0
          have O0 := T0.own
          refine wpAny_takeD (i := 7) (d := some 8) (v := Value.int IntKind.i64 0) rfl rfl (by kernel_rfl) (by kernel_rfl) (by kernel_rfl) (fun _ _ _ h => h) (Or.inl ⟨by rfl, fun w => by rfl⟩) ?_
          try simp only [qP, qZ, qS]
          refine wpAny_done (by kernel_rfl) ?_ _
          go_wp2_with fail
          go_meet
          case rel => exact ⟨g7, rfl, rfl, (by omega), (by omega), v0, ((V0.mono bp).upd O0 u0 (by omega)), ((V5.mono bp).upd O0 u0 (by omega)), (Upd.below (hb1.trans (bp.mono hb1.size)) u0 (by omega))⟩
      case rest =>
      clear V0 V5 hb1
      obtain ⟨g7, rfl, rfl, lg7, d4_0, V7, V0, V5, hb1⟩ := hcut
      go_upto_region 5 with (fail)
      go_cut [44] (fun s_44 wx => s_44 = Value.bool false ∧ VarQ wx w.heap.size x ∧ VarQ wx g5 y ∧ VarQ wx g7 y ∧ Below w.heap.size w wx)
      case first =>
        refine tF Try.f4 5 (lTeTT3 u y) [] 16 0 ?_ ?_
        · refine ⟨fun _ _ F => gR rfl rfl (arm_move (.inl rfl) (F.k 6 (Value.int IntKind.i64 0))).b, ?_⟩
          refine ⟨fun _ _ F => gR rfl rfl (arm_move (.inl rfl) (F.k 8 (Value.int IntKind.i64 0))).b, ?_⟩
          refine ⟨fun _ _ F => gR rfl rfl (arm_bin rfl (F.f 0 rfl) (F.f 1 rfl) (fun _ => rfl) (fun _ => rfl)).b, ?_⟩
          refine ⟨fun _ _ F => gR rfl rfl (arm_move (.inl rfl) (F.f 2 rfl)).b, ?_⟩
          refine ⟨fun _ _ F => gG F rfl rfl rfl rfl (arm_loadF rfl (F.k 5 (Value.pointer (some ⟨g5, 0, none⟩))) (V5.mono F.below)).b, ?_⟩
          refine ⟨fun _ _ F => gG F rfl rfl rfl rfl (arm_loadF rfl (F.k 7 (Value.pointer (some ⟨g7, 0, none⟩))) (V7.mono F.below)).b, ?_⟩
          refine ⟨fun _ _ F => gG F rfl rfl rfl rfl (arm_C2 rfl (enters Try.func16 rfl rfl) (F.f 4 rfl) (F.f 5 rfl) (fun va vb w h1 h2 => q_SameB va vb y y w h1 h2 (Nat.le_trans FO.out.1 (by decide)) (Nat.le_trans FO.out.2.1 (by decide)) (Nat.le_trans FO.out.1 (by decide)) (Nat.le_trans FO.out.2.1 (by decide))) (fun _ _ h => by have h' : RetV _ _ _ _ := h; rw [Fq.same_refl y] at h'; exact ofV h')).b, ?_⟩
          refine ⟨fun _ _ F => gG F rfl rfl rfl rfl (arm_not rfl (F.f 6 rfl)).b, ?_⟩
          refine ⟨fun _ _ F => gR rfl rfl (arm_pick rfl (F.f 3 rfl) (fun h => by cases h) (fun _ => (F.f 7 rfl))).b, ?_⟩
          refine ⟨fun _ _ F => gR rfl rfl (arm_move (.inl rfl) (F.f 8 rfl)).b, ?_⟩
          refine ⟨fun _ _ F => gG F rfl rfl rfl rfl (arm_move (.inl rfl) (F.k 6 (Value.int IntKind.i64 0))).b, ?_⟩
          refine ⟨fun _ _ F => gG F rfl rfl rfl rfl (arm_bin rfl (F.f 10 rfl) Is.const (fun _ => rfl) (fun _ => rfl)).b, ?_⟩
          refine ⟨fun _ _ F => gG F rfl rfl rfl rfl (arm_move (.inl rfl) (F.f 11 rfl)).b, ?_⟩
          refine ⟨fun _ _ F => gG F rfl rfl rfl rfl (arm_loadF rfl (F.k 5 (Value.pointer (some ⟨g5, 0, none⟩))) (V5.mono F.below)).b, ?_⟩
          refine ⟨fun _ _ F => gG F rfl rfl rfl rfl (arm_C1 rfl (enters Try.func17 rfl rfl) (F.f 13 rfl) (fun va w h1 => q_fFormat va y w h1 (HY.mono (by decide))) (fun _ _ h => by rw [(congrArg Value.string HW.out)]; exact ofV h)).b, ?_⟩
          refine ⟨fun _ _ F => gG F rfl rfl rfl rfl (arm_move (.inl rfl) (F.k 1 (Value.string u))).b, ?_⟩
          refine ⟨fun _ _ F => gG F rfl rfl rfl rfl (arm_bin rfl (F.f 14 rfl) (F.f 15 rfl) (fun _ => rfl) (fun w => run_neSt _ w)).b, ?_⟩
          refine ⟨fun _ _ F => gG F rfl rfl rfl rfl (arm_pick rfl (F.f 12 rfl) (fun _ => (F.f 16 rfl)) (fun h => by cases h)).b, ?_⟩
          refine ⟨fun _ _ F => gR rfl rfl (arm_pick rfl (F.f 9 rfl) (fun h => by cases h) (fun _ => (F.f 17 rfl))).b, ?_⟩
          exact trivial
        intro E' hE gp wp bp G Gs
        obtain rfl : E' = [] := by simpa [subs] using hE
        have e_18 : gp 18 = Value.bool false := G 18 44 _ (by simp) rfl
        clear G Gs hE
        simp only [lTeTT3]
        simp only [qA, setD, qZ, qS, e_18]
        refine wpAny_done (by kernel_rfl) ?_ _
        go_wp2_with fail
        go_meet
        case rel => exact ⟨rfl, (V0.mono bp), (V5.mono bp), (V7.mono bp), (hb1.trans (bp.mono hb1.size))⟩
      case rest =>
      clear V0 V5 V7 hb1
      obtain ⟨rfl, V0, V5, V7, hb1⟩ := hcut
      go_upto_region 7 with (fail)
      go_cut [47] (fun s_47 wx => s_47 = Value.bool false ∧ VarQ wx w.heap.size x ∧ VarQ wx g5 y ∧ VarQ wx g7 y ∧ Below w.heap.size w wx)
      case first =>
        refine tF Try.f4 7 (lTeTT4 x) [] 3 0 ?_ ?_
        · refine ⟨fun _ _ F => gR rfl rfl (arm_loadF rfl (F.k 2 (Value.pointer (some ⟨w.heap.size, 0, none⟩))) (V0.mono F.below)).b, ?_⟩
          refine ⟨fun _ _ F => gR rfl rfl (arm_C1 rfl (enters Try.func18 rfl rfl) (F.f 0 rfl) (fun va w h1 => q_fitQ va x w h1 hx ex) (fun _ _ h => ofV h)).b, ?_⟩
          refine ⟨fun _ _ F => gR rfl rfl (arm_not rfl (F.f 1 rfl)).b, ?_⟩
          exact trivial
        intro E' hE gp wp bp G Gs
        obtain rfl : E' = [] := by simpa [subs] using hE
        have e_2 : gp 2 = Value.bool false := G 2 47 _ (by simp) rfl
        clear G Gs hE
        simp only [lTeTT4]
        simp only [qA, setD, qZ, qS, e_2]
        refine wpAny_done (by kernel_rfl) ?_ _
        go_wp2_with fail
        go_meet
        case rel => exact ⟨rfl, (V0.mono bp), (V5.mono bp), (V7.mono bp), (hb1.trans (bp.mono hb1.size))⟩
      case rest =>
      clear V0 V5 V7 hb1
      obtain ⟨rfl, V0, V5, V7, hb1⟩ := hcut
      go_upto_region 9 with (fail)
      go_cut [9] (fun s_9 wx => s_9 = Value.string z ∧ VarQ wx w.heap.size x ∧ VarQ wx g5 y ∧ VarQ wx g7 y ∧ Below w.heap.size w wx)
      case first =>
        refine tF Try.f4 9 (lTeTT5 x z) [] 3 0 ?_ ?_
        · refine ⟨fun _ _ F => gR rfl rfl (arm_loadF rfl (F.k 2 (Value.pointer (some ⟨w.heap.size, 0, none⟩))) (V0.mono F.below)).b, ?_⟩
          refine ⟨fun _ _ F => gR rfl rfl (arm_C1 rfl (enters Try.func17 rfl rfl) (F.f 0 rfl) (fun va w h1 => q_fFormat va x w h1 (hx.mono (by decide))) (fun _ _ h => by rw [(congrArg Value.string hz.out)]; exact ofV h)).b, ?_⟩
          refine ⟨fun _ _ F => gR rfl rfl (arm_move (.inr rfl) (F.f 1 rfl)).b, ?_⟩
          exact trivial
        intro E' hE gp wp bp G Gs
        obtain rfl : E' = [] := by simpa [subs] using hE
        have e_2 : gp 2 = Value.string z := G 2 9 _ (by simp) rfl
        clear G Gs hE
        simp only [lTeTT5]
        simp only [qA, setD, qZ, qS, e_2]
        refine wpAny_done (by kernel_rfl) ?_ _
        go_wp2_with fail
        go_meet
        case rel => exact ⟨rfl, (V0.mono bp), (V5.mono bp), (V7.mono bp), (hb1.trans (bp.mono hb1.size))⟩
      case rest =>
      clear V0 V5 V7 hb1
      obtain ⟨rfl, V0, V5, V7, hb1⟩ := hcut
      go_upto_region 10 with (fail)
      go_cut [10, 11] (fun s_10 s_11 wx => ∃ g10, s_10 = Value.pointer (some ⟨g10, 0, none⟩) ∧ s_11 = Value.int IntKind.i64 0 ∧ w.heap.size + 1 ≤ g10 ∧ g5 < g10 ∧ g7 < g10 ∧ VarQ wx g10 x ∧ VarQ wx w.heap.size x ∧ VarQ wx g5 y ∧ VarQ wx g7 y ∧ Below w.heap.size w wx)
      case first =>
        obtain ⟨base, hbase0⟩ : ∃ b : Nat, Hid (b = wc.heap.size) := ⟨_, Lib.hid rfl⟩
        have hbase : base ≤ wc.heap.size := by rw [hbase0.out]; exact Nat.le_refl _
        have hbw : w.heap.size + 1 ≤ base := by have := hb1.size; have h1 := V0.lt; rw [hbase0.out]; omega
        have l_V0 : w.heap.size < base := by rw [hbase0.out]; exact V0.lt
        have l_V5 : g5 < base := by rw [hbase0.out]; exact V5.lt
        have l_V7 : g7 < base := by rw [hbase0.out]; exact V7.lt
        refine wp_tabGF Try.f4 10 (lTeTT6 x z base) [4] (fun i => i == 5) 6 2 (by kernel_rfl) (by kernel_rfl) (by kernel_rfl) (by kernel_rfl) (by kernel_rfl) ⟨fun h => (by cases h), ⟨fun h => (by cases h), ⟨fun h => (by cases h), ⟨fun h => (by cases h), ⟨fun h => (by cases h), ⟨fun _ w v h => Sp.varF_lt h, trivial⟩⟩⟩⟩⟩⟩ ?_ ?_
        · refine ⟨fun _ _ F => gR rfl rfl (arm_move (.inl rfl) (F.k 9 (Value.string z))).b, ?_⟩
          refine ⟨fun _ _ F => gR rfl rfl (arm_C1 rfl (enters Try.func14 rfl rfl) (F.f 0 rfl) (fun va w h1 => by have e_va : va = _ := h1; subst e_va; exact q_fParse z x 0 w FZ hzs) (fun _ _ h => ofQE h)).b, ?_⟩
          refine ⟨fun _ _ F => gR rfl rfl (arm_move (.inl rfl) (F.f 1 rfl)).b, ?_⟩
          refine ⟨fun _ _ F => gR rfl rfl (arm_pair0 rfl (F.f 2 rfl)).b, ?_⟩
          refine ⟨fun _ _ F => gR rfl rfl (arm_pair1 rfl (F.f 2 rfl)).b, ?_⟩
          refine ⟨fun _ _ F => gR rfl rfl (arm_allocF rfl (Nat.le_trans hbase F.below.size)), ?_⟩
          exact trivial
        intro E' hE gp wp bp G Gs
        simp only [subs, List.map_cons, List.map_nil, List.nil_append, List.cons_append, List.mem_cons, List.not_mem_nil, or_false, List.append_nil] at hE
        rcases hE with rfl | rfl
        · obtain ⟨g10, e_5, lg_5, hv_5⟩ := G 5 10 _ (by simp) rfl
          have n_3 : (Sp.fq x).p wp (gp 3) := G 3 54 _ (by simp) rfl
          have e_4 : gp 4 = Value.int IntKind.i64 0 := G 4 55 _ (by simp) rfl
          clear G Gs
          simp only [lTeTT6]
          simp only [qA, setD, qZ, qS, e_5, e_4]
          have T0 := hv_5
          refine wpAny_storeFr (j := 6) (by kernel_rfl) rfl rfl rfl rfl rfl n_3 T0.any ?_
          intro w0 u0 v0
          have O0 := T0.own
          refine wpAny_takeD (i := 7) (d := some 11) (v := Value.int IntKind.i64 0) rfl rfl (by kernel_rfl) (by kernel_rfl) (by kernel_rfl) (fun _ _ _ h => h) (Or.inl ⟨by rfl, fun w => by rfl⟩) ?_
          try simp only [qP, qZ, qS]
          refine wpAny_done (by kernel_rfl) ?_ _
          go_wp2_with fail
          go_meet
          case rel => exact ⟨g10, rfl, rfl, (by omega), (by omega), (by omega), v0, ((V0.mono bp).upd O0 u0 (by omega)), ((V5.mono bp).upd O0 u0 (by omega)), ((V7.mono bp).upd O0 u0 (by omega)), (Upd.below (hb1.trans (bp.mono hb1.size)) u0 (by omega))⟩
        · obtain ⟨g10, e_5, lg_5, hv_5⟩ := G 5 10 _ (by simp) rfl
          obtain ⟨x_2_0, x_2_1, e_2, n_2_0, rfl⟩ := G 2 51 _ (by simp) rfl
          have n_3 : (Sp.fq x).p wp (gp 3) := G 3 54 _ (by simp) rfl
          clear G Gs
          simp only [lTeTT6]
          simp only [qA, setD, qZ, qS, e_5, e_2]
          refine wpAny_takeD (i := 4) (d := some 55) (v := Value.int IntKind.i64 0) rfl rfl (by kernel_rfl) (by kernel_rfl) (by kernel_rfl) (fun _ _ _ h => h) (Or.inl ⟨by rfl, fun w => by rfl⟩) ?_
          try simp only [qP, qZ, qS]
          have T0 := hv_5
          refine wpAny_storeFr (j := 6) (by kernel_rfl) rfl rfl rfl rfl rfl n_3 T0.any ?_
          intro w0 u0 v0
          have O0 := T0.own
          refine wpAny_takeD (i := 7) (d := some 11) (v := Value.int IntKind.i64 0) rfl rfl (by kernel_rfl) (by kernel_rfl) (by kernel_rfl) (fun _ _ _ h => h) (Or.inl ⟨by rfl, fun w => by rfl⟩) ?_
          try simp only [qP, qZ, qS]
          refine wpAny_done (by kernel_rfl) ?_ _
          go_wp2_with fail
          go_meet
          case rel => exact ⟨g10, rfl, rfl, (by omega), (by omega), (by omega), v0, ((V0.mono bp).upd O0 u0 (by omega)), ((V5.mono bp).upd O0 u0 (by omega)), ((V7.mono bp).upd O0 u0 (by omega)), (Upd.below (hb1.trans (bp.mono hb1.size)) u0 (by omega))⟩
      case rest =>
      clear V0 V5 V7 hb1
      obtain ⟨g10, rfl, rfl, lg10, d10_0, d10_1, V10, V0, V5, V7, hb1⟩ := hcut
      go_upto_region 11 with (fail)
      go_cut [4] (fun s_4 wx => s_4 = Value.bool true ∧ VarQ wx w.heap.size x ∧ VarQ wx g5 y ∧ VarQ wx g7 y ∧ VarQ wx g10 x ∧ Below w.heap.size w wx)
      case first =>
        refine tF Try.f4 11 (lTeTT7 x z) [] 15 0 ?_ ?_
        · refine ⟨fun _ _ F => gR rfl rfl (arm_move (.inl rfl) (F.k 9 (Value.string z))).b, ?_⟩
          refine ⟨fun _ _ F => gR rfl rfl (arm_loadF rfl (F.k 2 (Value.pointer (some ⟨w.heap.size, 0, none⟩))) (V0.mono F.below)).b, ?_⟩
          refine ⟨fun _ _ F => gR rfl rfl (arm_C1 rfl (enters Try.func19 rfl rfl) (F.f 1 rfl) (fun va w h1 => q_rFormat va x w h1 (hx.mono (by decide))) (fun _ _ h => by rw [(congrArg Value.string hz.out)]; exact ofV h)).b, ?_⟩
          refine ⟨fun _ _ F => gR rfl rfl (arm_bin rfl (F.f 0 rfl) (F.f 2 rfl) (fun _ => rfl) (fun w => run_eqS _ w)).b, ?_⟩
          refine ⟨fun _ _ F => gR rfl rfl (arm_move (.inl rfl) (F.f 3 rfl)).b, ?_⟩
          refine ⟨fun _ _ F => gG F rfl rfl rfl rfl (arm_move (.inl rfl) (F.k 11 (Value.int IntKind.i64 0))).b, ?_⟩
          refine ⟨fun _ _ F => gG F rfl rfl rfl rfl (arm_bin rfl (F.f 5 rfl) Is.const (fun _ => rfl) (fun _ => rfl)).b, ?_⟩
          refine ⟨fun _ _ F => gR rfl rfl (arm_pick rfl (F.f 4 rfl) (fun _ => (F.f 6 rfl)) (fun h => by cases h)).b, ?_⟩
          refine ⟨fun _ _ F => gR rfl rfl (arm_move (.inl rfl) (F.f 7 rfl)).b, ?_⟩
          refine ⟨fun _ _ F => gG F rfl rfl rfl rfl (arm_loadF rfl (F.k 10 (Value.pointer (some ⟨g10, 0, none⟩))) (V10.mono F.below)).b, ?_⟩
          refine ⟨fun _ _ F => gG F rfl rfl rfl rfl (arm_loadF rfl (F.k 2 (Value.pointer (some ⟨w.heap.size, 0, none⟩))) (V0.mono F.below)).b, ?_⟩
          refine ⟨fun _ _ F => gG F rfl rfl rfl rfl (arm_C2 rfl (enters Try.func16 rfl rfl) (F.f 9 rfl) (F.f 10 rfl) (fun va vb w h1 h2 => q_Same va vb x x w h1 h2 (hx.mono (by decide)) (hx.mono (by decide))) (fun _ _ h => by have h' : RetV _ _ _ _ := h; rw [Fq.same_refl x] at h'; exact ofV h')).b, ?_⟩
          refine ⟨fun _ _ F => gR rfl rfl (arm_pick rfl (F.f 8 rfl) (fun _ => (F.f 11 rfl)) (fun h => by cases h)).b, ?_⟩
          refine ⟨fun _ _ F => gR rfl rfl (arm_move (.inl rfl) (F.f 12 rfl)).b, ?_⟩
          refine ⟨fun _ _ F => gG F rfl rfl rfl rfl (arm_C0 rfl (enters Try.func11 rfl rfl)  (fun w => c_awake2 w) (fun _ _ h => ofV h)).b, ?_⟩
          refine ⟨fun _ _ F => gR rfl rfl (arm_pick rfl (F.f 13 rfl) (fun _ => (F.f 14 rfl)) (fun h => by cases h)).b, ?_⟩
          refine ⟨fun _ _ F => gR rfl rfl (arm_move (.inr rfl) (F.f 15 rfl)).b, ?_⟩
          exact trivial
        intro E' hE gp wp bp G Gs
        obtain rfl : E' = [] := by simpa [subs] using hE
        have e_16 : gp 16 = Value.bool true := G 16 4 _ (by simp) rfl
        clear G Gs hE
        simp only [lTeTT7]
        simp only [qA, setD, qZ, qS, e_16]
        refine wpAny_done (by kernel_rfl) ?_ _
        go_wp2_with fail
        go_meet
        case rel => exact ⟨rfl, (V0.mono bp), (V5.mono bp), (V7.mono bp), (V10.mono bp), (hb1.trans (bp.mono hb1.size))⟩
      case rest =>
      clear V0 V5 V7 V10 hb1
      obtain ⟨rfl, V0, V5, V7, V10, hb1⟩ := hcut
      go_wp2
      go_ret
      exact ⟨rfl, hb1⟩
    · have HC : Hid (false = (c == 0)) := Lib.hid (by symm; simpa using hc)
      clear hc
      obtain ⟨a0, c0, b0, d0, rfl, m0, k0⟩ := boxF ix
      clear ix
      go_enter Try.func4, Try.ntmps4
      go_upto_region 0 with (fail)
      go_cut [2, 4] (fun s_2 s_4 wx => s_2 = Value.pointer (some ⟨w.heap.size, 0, none⟩) ∧ s_4 = Value.bool false ∧ VarQ wx w.heap.size x ∧ Below w.heap.size w wx)
      case first =>
        go_wp2_with fail
        go_meet
        case rel => exact ⟨rfl, rfl, k0, m0⟩
      case rest =>
      clear m0 k0
      obtain ⟨rfl, rfl, V0, hb1⟩ := hcut
      go_upto_region 1 with (fail)
      go_cut [14] (fun s_14 wx => s_14 = Value.bool false ∧ VarQ wx w.heap.size x ∧ Below w.heap.size w wx)
      case first =>
        refine tF Try.f4 1 (lTeTT8 u) [] 3 0 ?_ ?_
        · refine ⟨fun _ _ F => gR rfl rfl (arm_move (.inl rfl) (F.k 1 (Value.string u))).b, ?_⟩
          refine ⟨fun _ _ F => gR rfl rfl (arm_lenStr rfl (F.f 0 rfl)).b, ?_⟩
          refine ⟨fun _ _ F => gR rfl rfl (arm_bin rfl (F.f 1 rfl) Is.const (fun _ => rfl) (fun w => by rw [HS.out]; rfl)).b, ?_⟩
          exact trivial
        intro E' hE gp wp bp G Gs
        obtain rfl : E' = [] := by simpa [subs] using hE
        have e_2 : gp 2 = Value.bool false := G 2 14 _ (by simp) rfl
        clear G Gs hE
        simp only [lTeTT8]
        simp only [qA, setD, qZ, qS, e_2]
        refine wpAny_done (by kernel_rfl) ?_ _
        go_wp2_with fail
        go_meet
        case rel => exact ⟨rfl, (V0.mono bp), (hb1.trans (bp.mono hb1.size))⟩
      case rest =>
      clear V0 hb1
      obtain ⟨rfl, V0, hb1⟩ := hcut
      go_upto_region 3 with (fail)
      go_cut [5, 6] (fun s_5 s_6 wx => ∃ g5, s_5 = Value.pointer (some ⟨g5, 0, none⟩) ∧ s_6 = Value.int IntKind.i64 c ∧ w.heap.size + 1 ≤ g5 ∧ VarQ wx g5 y ∧ VarQ wx w.heap.size x ∧ Below w.heap.size w wx)
      case first =>
        obtain ⟨base, hbase0⟩ : ∃ b : Nat, Hid (b = wc.heap.size) := ⟨_, Lib.hid rfl⟩
        have hbase : base ≤ wc.heap.size := by rw [hbase0.out]; exact Nat.le_refl _
        have hbw : w.heap.size + 1 ≤ base := by have := hb1.size; have h1 := V0.lt; rw [hbase0.out]; omega
        have l_V0 : w.heap.size < base := by rw [hbase0.out]; exact V0.lt
        refine wp_tabGF Try.f4 3 (lTeTT9 u y c base) [4] (fun i => i == 5) 6 2 (by kernel_rfl) (by kernel_rfl) (by kernel_rfl) (by kernel_rfl) (by kernel_rfl) ⟨fun h => (by cases h), ⟨fun h => (by cases h), ⟨fun h => (by cases h), ⟨fun h => (by cases h), ⟨fun h => (by cases h), ⟨fun _ w v h => Sp.varF_lt h, trivial⟩⟩⟩⟩⟩⟩ ?_ ?_
        · refine ⟨fun _ _ F => gR rfl rfl (arm_move (.inl rfl) (F.k 1 (Value.string u))).b, ?_⟩
          refine ⟨fun _ _ F => gR rfl rfl (arm_C1 rfl (enters Try.func14 rfl rfl) (F.f 0 rfl) (fun va w h1 => by have e_va : va = _ := h1; subst e_va; exact q_fParse u y c w hf hus) (fun _ _ h => ofQE h)).b, ?_⟩
          refine ⟨fun _ _ F => gR rfl rfl (arm_move (.inl rfl) (F.f 1 rfl)).b, ?_⟩
          refine ⟨fun _ _ F => gR rfl rfl (arm_pair0 rfl (F.f 2 rfl)).b, ?_⟩
          refine ⟨fun _ _ F => gR rfl rfl (arm_pair1 rfl (F.f 2 rfl)).b, ?_⟩
          refine ⟨fun _ _ F => gR rfl rfl (arm_allocF rfl (Nat.le_trans hbase F.below.size)), ?_⟩
          exact trivial
        intro E' hE gp wp bp G Gs
        simp only [subs, List.map_cons, List.map_nil, List.nil_append, List.cons_append, List.mem_cons, List.not_mem_nil, or_false, List.append_nil] at hE
        rcases hE with rfl | rfl
        · obtain ⟨g5, e_5, lg_5, hv_5⟩ := G 5 5 _ (by simp) rfl
          have n_3 : (Sp.fq y).p wp (gp 3) := G 3 19 _ (by simp) rfl
          have e_4 : gp 4 = Value.int IntKind.i64 c := G 4 20 _ (by simp) rfl
          clear G Gs
          simp only [lTeTT9]
          simp only [qA, setD, qZ, qS, e_5, e_4]
          have T0 := hv_5
          refine wpAny_storeFr (j := 6) (by kernel_rfl) rfl rfl rfl rfl rfl n_3 T0.any ?_
          intro w0 u0 v0
          have O0 := T0.own
          refine wpAny_takeD (i := 7) (d := some 6) (v := Value.int IntKind.i64 c) rfl rfl (by kernel_rfl) (by kernel_rfl) (by kernel_rfl) (fun _ _ _ h => h) (Or.inl ⟨by rfl, fun w => by rfl⟩) ?_
          try simp only [qP, qZ, qS]
          refine wpAny_done (by kernel_rfl) ?_ _
          go_wp2_with fail
          go_meet
          case rel => exact ⟨g5, rfl, rfl, (by omega), v0, ((V0.mono bp).upd O0 u0 (by omega)), (Upd.below (hb1.trans (bp.mono hb1.size)) u0 (by omega))⟩
        · obtain ⟨g5, e_5, lg_5, hv_5⟩ := G 5 5 _ (by simp) rfl
          obtain ⟨x_2_0, x_2_1, e_2, n_2_0, rfl⟩ := G 2 16 _ (by simp) rfl
          have n_3 : (Sp.fq y).p wp (gp 3) := G 3 19 _ (by simp) rfl
          clear G Gs
          simp only [lTeTT9]
          simp only [qA, setD, qZ, qS, e_5, e_2]
          refine wpAny_takeD (i := 4) (d := some 20) (v := Value.int IntKind.i64 c) rfl rfl (by kernel_rfl) (by kernel_rfl) (by kernel_rfl) (fun _ _ _ h => h) (Or.inl ⟨by rfl, fun w => by rfl⟩) ?_
          try simp only [qP, qZ, qS]
          have T0 := hv_5
          refine wpAny_storeFr (j := 6) (by kernel_rfl) rfl rfl rfl rfl rfl n_3 T0.any ?_
          intro w0 u0 v0
          have O0 := T0.own
          refine wpAny_takeD (i := 7) (d := some 6) (v := Value.int IntKind.i64 c) rfl rfl (by kernel_rfl) (by kernel_rfl) (by kernel_rfl) (fun _ _ _ h => h) (Or.inl ⟨by rfl, fun w => by rfl⟩) ?_
          try simp only [qP, qZ, qS]
          refine wpAny_done (by kernel_rfl) ?_ _
          go_wp2_with fail
          go_meet
          case rel => exact ⟨g5, rfl, rfl, (by omega), v0, ((V0.mono bp).upd O0 u0 (by omega)), (Upd.below (hb1.trans (bp.mono hb1.size)) u0 (by omega))⟩
      case rest =>
      clear V0 hb1
      obtain ⟨g5, rfl, rfl, lg5, V5, V0, hb1⟩ := hcut
      go_upto_region 4 with (fail)
      go_cut [7, 8] (fun s_7 s_8 wx => ∃ g7, s_7 = Value.pointer (some ⟨g7, 0, none⟩) ∧ s_8 = Value.int IntKind.i64 c ∧ w.heap.size + 1 ≤ g7 ∧ g5 < g7 ∧ VarQ wx g7 y ∧ VarQ wx w.heap.size x ∧ VarQ wx g5 y ∧ Below w.heap.size w wx)
      case first =>
        obtain ⟨base, hbase0⟩ : ∃ b : Nat, Hid (b = wc.heap.size) := ⟨_, Lib.hid rfl⟩
        have hbase : base ≤ wc.heap.size := by rw [hbase0.out]; exact Nat.le_refl _
        have hbw : w.heap.size + 1 ≤ base := by have := hb1.size; have h1 := V0.lt; rw [hbase0.out]; omega
        have l_V0 : w.heap.size < base := by rw [hbase0.out]; exact V0.lt
        have l_V5 : g5 < base := by rw [hbase0.out]; exact V5.lt
        refine wp_tabGF Try.f4 4 (lTeTT10 u y c base) [4] (fun i => i == 5) 6 2 (by kernel_rfl) (by kernel_rfl) (by kernel_rfl) (by kernel_rfl) (by kernel_rfl) ⟨fun h => (by cases h), ⟨fun h => (by cases h), ⟨fun h => (by cases h), ⟨fun h => (by cases h), ⟨fun h => (by cases h), ⟨fun _ w v h => Sp.varF_lt h, trivial⟩⟩⟩⟩⟩⟩ ?_ ?_
        · refine ⟨fun _ _ F => gR rfl rfl (arm_move (.inl rfl) (F.k 1 (Value.string u))).b, ?_⟩
          refine ⟨fun _ _ F => gR rfl rfl (arm_C1 rfl (enters Try.func15 rfl rfl) (F.f 0 rfl) (fun va w h1 => by have e_va : va = _ := h1; subst e_va; exact q_rParse u y c w hf hus) (fun _ _ h => ofQE h)).b, ?_⟩
          refine ⟨fun _ _ F => gR rfl rfl (arm_move (.inl rfl) (F.f 1 rfl)).b, ?_⟩
          refine ⟨fun _ _ F => gR rfl rfl (arm_pair0 rfl (F.f 2 rfl)).b, ?_⟩
          refine ⟨fun _ _ F => gR rfl rfl (arm_pair1 rfl (F.f 2 rfl)).b, ?_⟩
          refine ⟨fun _ _ F => gR rfl rfl (arm_allocF rfl (Nat.le_trans hbase F.below.size)), ?_⟩
          exact trivial
        intro E' hE gp wp bp G Gs
        simp only [subs, List.map_cons, List.map_nil, List.nil_append, List.cons_append, List.mem_cons, List.not_mem_nil, or_false, List.append_nil] at hE
        rcases hE with rfl | rfl
        · obtain ⟨g7, e_5, lg_5, hv_5⟩ := G 5 7 _ (by simp) rfl
          have n_3 : (Sp.fq y).p wp (gp 3) := G 3 24 _ (by simp) rfl
          have e_4 : gp 4 = Value.int IntKind.i64 c := G 4 25 _ (by simp) rfl
          clear G Gs
          simp only [lTeTT10]
          simp only [qA, setD, qZ, qS, e_5, e_4]
          have T0 := hv_5
          refine wpAny_storeFr (j := 6) (by kernel_rfl) rfl rfl rfl rfl rfl n_3 T0.any ?_
          intro w0 u0 v0
          have O0 := T0.own
          refine wpAny_takeD (i := 7) (d := some 8) (v := Value.int IntKind.i64 c) rfl rfl (by kernel_rfl) (by kernel_rfl) (by kernel_rfl) (fun _ _ _ h => h) (Or.inl ⟨by rfl, fun w => by rfl⟩) ?_
          try simp only [qP, qZ, qS]
          refine wpAny_done (by kernel_rfl) ?_ _
          go_wp2_with fail
          go_meet
          case rel => exact ⟨g7, rfl, rfl, (by omega), (by omega), v0, ((V0.mono bp).upd O0 u0 (by omega)), ((V5.mono bp).upd O0 u0 (by omega)), (Upd.below (hb1.trans (bp.mono hb1.size)) u0 (by omega))⟩
        · obtain ⟨g7, e_5, lg_5, hv_5⟩ := G 5 7 _ (by simp) rfl
          obtain ⟨x_2_0, x_2_1, e_2, n_2_0, rfl⟩ := G 2 21 _ (by simp) rfl
          have n_3 : (Sp.fq y).p wp (gp 3) := G 3 24 _ (by simp) rfl
          clear G Gs
          simp only [lTeTT10]
          simp only [qA, setD, qZ, qS, e_5, e_2]
          refine wpAny_takeD (i := 4) (d := some 25) (v := Value.int IntKind.i64 c) rfl rfl (by kernel_rfl) (by kernel_rfl) (by kernel_rfl) (fun _ _ _ h => h) (Or.inl ⟨by rfl, fun w => by rfl⟩) ?_
          try simp only [qP, qZ, qS]
          have T0 := hv_5
          refine wpAny_storeFr (j := 6) (by kernel_rfl) rfl rfl rfl rfl rfl n_3 T0.any ?_
          intro w0 u0 v0
          have O0 := T0.own
          refine wpAny_takeD (i := 7) (d := some 8) (v := Value.int IntKind.i64 c) rfl rfl (by kernel_rfl) (by kernel_rfl) (by kernel_rfl) (fun _ _ _ h => h) (Or.inl ⟨by rfl, fun w => by rfl⟩) ?_
          try simp only [qP, qZ, qS]
          refine wpAny_done (by kernel_rfl) ?_ _
          go_wp2_with fail
          go_meet
          case rel => exact ⟨g7, rfl, rfl, (by omega), (by omega), v0, ((V0.mono bp).upd O0 u0 (by omega)), ((V5.mono bp).upd O0 u0 (by omega)), (Upd.below (hb1.trans (bp.mono hb1.size)) u0 (by omega))⟩
      case rest =>
      clear V0 V5 hb1
      obtain ⟨g7, rfl, rfl, lg7, d4_0, V7, V0, V5, hb1⟩ := hcut
      go_upto_region 5 with (fail)
      go_cut [44] (fun s_44 wx => s_44 = Value.bool false ∧ VarQ wx w.heap.size x ∧ VarQ wx g5 y ∧ VarQ wx g7 y ∧ Below w.heap.size w wx)
      case first =>
        refine tF Try.f4 5 (lTeTT11 y c) [] 16 0 ?_ ?_
        · refine ⟨fun _ _ F => gR rfl rfl (arm_move (.inl rfl) (F.k 6 (Value.int IntKind.i64 c))).b, ?_⟩
          refine ⟨fun _ _ F => gR rfl rfl (arm_move (.inl rfl) (F.k 8 (Value.int IntKind.i64 c))).b, ?_⟩
          refine ⟨fun _ _ F => gR rfl rfl (arm_bin rfl (F.f 0 rfl) (F.f 1 rfl) (fun _ => rfl) (fun w => run_neJ _ _ w)).b, ?_⟩
          refine ⟨fun _ _ F => gR rfl rfl (arm_move (.inl rfl) (F.f 2 rfl)).b, ?_⟩
          refine ⟨fun _ _ F => gG F rfl rfl rfl rfl (arm_loadF rfl (F.k 5 (Value.pointer (some ⟨g5, 0, none⟩))) (V5.mono F.below)).b, ?_⟩
          refine ⟨fun _ _ F => gG F rfl rfl rfl rfl (arm_loadF rfl (F.k 7 (Value.pointer (some ⟨g7, 0, none⟩))) (V7.mono F.below)).b, ?_⟩
          refine ⟨fun _ _ F => gG F rfl rfl rfl rfl (arm_C2 rfl (enters Try.func16 rfl rfl) (F.f 4 rfl) (F.f 5 rfl) (fun va vb w h1 h2 => q_SameB va vb y y w h1 h2 (Nat.le_trans FO.out.1 (by decide)) (Nat.le_trans FO.out.2.1 (by decide)) (Nat.le_trans FO.out.1 (by decide)) (Nat.le_trans FO.out.2.1 (by decide))) (fun _ _ h => by have h' : RetV _ _ _ _ := h; rw [Fq.same_refl y] at h'; exact ofV h')).b, ?_⟩
          refine ⟨fun _ _ F => gG F rfl rfl rfl rfl (arm_not rfl (F.f 6 rfl)).b, ?_⟩
          refine ⟨fun _ _ F => gR rfl rfl (arm_pick rfl (F.f 3 rfl) (fun h => by cases h) (fun _ => (F.f 7 rfl))).b, ?_⟩
          refine ⟨fun _ _ F => gR rfl rfl (arm_move (.inl rfl) (F.f 8 rfl)).b, ?_⟩
          refine ⟨fun _ _ F => gG F rfl rfl rfl rfl (arm_move (.inl rfl) (F.k 6 (Value.int IntKind.i64 c))).b, ?_⟩
          refine ⟨fun _ _ F => gG F rfl rfl rfl rfl (arm_bin rfl (F.f 10 rfl) Is.const (fun _ => rfl) (fun w => by rw [HC.out]; rfl)).b, ?_⟩
          refine ⟨fun _ _ F => gG F rfl rfl rfl rfl (arm_move (.inl rfl) (F.f 11 rfl)).b, ?_⟩
          refine ⟨fun _ _ F => gS F rfl rfl rfl rfl rfl rfl, ?_⟩
          refine ⟨fun _ _ F => gS F rfl rfl rfl rfl rfl rfl, ?_⟩
          refine ⟨fun _ _ F => gS F rfl rfl rfl rfl rfl rfl, ?_⟩
          refine ⟨fun _ _ F => gS F rfl rfl rfl rfl rfl rfl, ?_⟩
          refine ⟨fun _ _ F => gG F rfl rfl rfl rfl (arm_pick rfl (F.f 12 rfl) (fun h => by cases h) (fun _ => Is.const)).b, ?_⟩
          refine ⟨fun _ _ F => gR rfl rfl (arm_pick rfl (F.f 9 rfl) (fun h => by cases h) (fun _ => (F.f 17 rfl))).b, ?_⟩
          exact trivial
        intro E' hE gp wp bp G Gs
        obtain rfl : E' = [] := by simpa [subs] using hE
        have e_18 : gp 18 = Value.bool false := G 18 44 _ (by simp) rfl
        clear G Gs hE
        simp only [lTeTT11]
        simp only [qA, setD, qZ, qS, e_18]
        refine wpAny_done (by kernel_rfl) ?_ _
        go_wp2_with fail
        go_meet
        case rel => exact ⟨rfl, (V0.mono bp), (V5.mono bp), (V7.mono bp), (hb1.trans (bp.mono hb1.size))⟩
      case rest =>
      clear V0 V5 V7 hb1
      obtain ⟨rfl, V0, V5, V7, hb1⟩ := hcut
      go_upto_region 7 with (fail)
      go_cut [47] (fun s_47 wx => s_47 = Value.bool false ∧ VarQ wx w.heap.size x ∧ VarQ wx g5 y ∧ VarQ wx g7 y ∧ Below w.heap.size w wx)
      case first =>
        refine tF Try.f4 7 (lTeTT12 x) [] 3 0 ?_ ?_
        · refine ⟨fun _ _ F => gR rfl rfl (arm_loadF rfl (F.k 2 (Value.pointer (some ⟨w.heap.size, 0, none⟩))) (V0.mono F.below)).b, ?_⟩
          refine ⟨fun _ _ F => gR rfl rfl (arm_C1 rfl (enters Try.func18 rfl rfl) (F.f 0 rfl) (fun va w h1 => q_fitQ va x w h1 hx ex) (fun _ _ h => ofV h)).b, ?_⟩
          refine ⟨fun _ _ F => gR rfl rfl (arm_not rfl (F.f 1 rfl)).b, ?_⟩
          exact trivial
        intro E' hE gp wp bp G Gs
        obtain rfl : E' = [] := by simpa [subs] using hE
        have e_2 : gp 2 = Value.bool false := G 2 47 _ (by simp) rfl
        clear G Gs hE
        simp only [lTeTT12]
        simp only [qA, setD, qZ, qS, e_2]
        refine wpAny_done (by kernel_rfl) ?_ _
        go_wp2_with fail
        go_meet
        case rel => exact ⟨rfl, (V0.mono bp), (V5.mono bp), (V7.mono bp), (hb1.trans (bp.mono hb1.size))⟩
      case rest =>
      clear V0 V5 V7 hb1
      obtain ⟨rfl, V0, V5, V7, hb1⟩ := hcut
      go_upto_region 9 with (fail)
      go_cut [9] (fun s_9 wx => s_9 = Value.string z ∧ VarQ wx w.heap.size x ∧ VarQ wx g5 y ∧ VarQ wx g7 y ∧ Below w.heap.size w wx)
      case first =>
        refine tF Try.f4 9 (lTeTT13 x z) [] 3 0 ?_ ?_
        · refine ⟨fun _ _ F => gR rfl rfl (arm_loadF rfl (F.k 2 (Value.pointer (some ⟨w.heap.size, 0, none⟩))) (V0.mono F.below)).b, ?_⟩
          refine ⟨fun _ _ F => gR rfl rfl (arm_C1 rfl (enters Try.func17 rfl rfl) (F.f 0 rfl) (fun va w h1 => q_fFormat va x w h1 (hx.mono (by decide))) (fun _ _ h => by rw [(congrArg Value.string hz.out)]; exact ofV h)).b, ?_⟩
          refine ⟨fun _ _ F => gR rfl rfl (arm_move (.inr rfl) (F.f 1 rfl)).b, ?_⟩
          exact trivial
        intro E' hE gp wp bp G Gs
        obtain rfl : E' = [] := by simpa [subs] using hE
        have e_2 : gp 2 = Value.string z := G 2 9 _ (by simp) rfl
        clear G Gs hE
        simp only [lTeTT13]
        simp only [qA, setD, qZ, qS, e_2]
        refine wpAny_done (by kernel_rfl) ?_ _
        go_wp2_with fail
        go_meet
        case rel => exact ⟨rfl, (V0.mono bp), (V5.mono bp), (V7.mono bp), (hb1.trans (bp.mono hb1.size))⟩
      case rest =>
      clear V0 V5 V7 hb1
      obtain ⟨rfl, V0, V5, V7, hb1⟩ := hcut
      go_upto_region 10 with (fail)
      go_cut [10, 11] (fun s_10 s_11 wx => ∃ g10, s_10 = Value.pointer (some ⟨g10, 0, none⟩) ∧ s_11 = Value.int IntKind.i64 0 ∧ w.heap.size + 1 ≤ g10 ∧ g5 < g10 ∧ g7 < g10 ∧ VarQ wx g10 x ∧ VarQ wx w.heap.size x ∧ VarQ wx g5 y ∧ VarQ wx g7 y ∧ Below w.heap.size w wx)
      case first =>
        obtain ⟨base, hbase0⟩ : ∃ b : Nat, Hid (b = wc.heap.size) := ⟨_, Lib.hid rfl⟩
        have hbase : base ≤ wc.heap.size := by rw [hbase0.out]; exact Nat.le_refl _
        have hbw : w.heap.size + 1 ≤ base := by have := hb1.size; have h1 := V0.lt; rw [hbase0.out]; omega
        have l_V0 : w.heap.size < base := by rw [hbase0.out]; exact V0.lt
        have l_V5 : g5 < base := by rw [hbase0.out]; exact V5.lt
        have l_V7 : g7 < base := by rw [hbase0.out]; exact V7.lt
        refine wp_tabGF Try.f4 10 (lTeTT14 x z base) [4] (fun i => i == 5) 6 2 (by kernel_rfl) (by kernel_rfl) (by kernel_rfl) (by kernel_rfl) (by kernel_rfl) ⟨fun h => (by cases h), ⟨fun h => (by cases h), ⟨fun h => (by cases h), ⟨fun h => (by cases h), ⟨fun h => (by cases h), ⟨fun _ w v h => Sp.varF_lt h, trivial⟩⟩⟩⟩⟩⟩ ?_ ?_
        · refine ⟨fun _ _ F => gR rfl rfl (arm_move (.inl rfl) (F.k 9 (Value.string z))).b, ?_⟩
          refine ⟨fun _ _ F => gR rfl rfl (arm_C1 rfl (enters Try.func14 rfl rfl) (F.f 0 rfl) (fun va w h1 => by have e_va : va = _ := h1; subst e_va; exact q_fParse z x 0 w FZ hzs) (fun _ _ h => ofQE h)).b, ?_⟩
          refine ⟨fun _ _ F => gR rfl rfl (arm_move (.inl rfl) (F.f 1 rfl)).b, ?_⟩
          refine ⟨fun _ _ F => gR rfl rfl (arm_pair0 rfl (F.f 2 rfl)).b, ?_⟩
          refine ⟨fun _ _ F => gR rfl rfl (arm_pair1 rfl (F.f 2 rfl)).b, ?_⟩
          refine ⟨fun _ _ F => gR rfl rfl (arm_allocF rfl (Nat.le_trans hbase F.below.size)), ?_⟩
          exact trivial
        intro E' hE gp wp bp G Gs
        simp only [subs, List.map_cons, List.map_nil, List.nil_append, List.cons_append, List.mem_cons, List.not_mem_nil, or_false, List.append_nil] at hE
        rcases hE with rfl | rfl
        · obtain ⟨g10, e_5, lg_5, hv_5⟩ := G 5 10 _ (by simp) rfl
          have n_3 : (Sp.fq x).p wp (gp 3) := G 3 54 _ (by simp) rfl
          have e_4 : gp 4 = Value.int IntKind.i64 0 := G 4 55 _ (by simp) rfl
          clear G Gs
          simp only [lTeTT14]
          simp only [qA, setD, qZ, qS, e_5, e_4]
          have T0 := hv_5
          refine wpAny_storeFr (j := 6) (by kernel_rfl) rfl rfl rfl rfl rfl n_3 T0.any ?_
          intro w0 u0 v0
          have O0 := T0.own
          refine wpAny_takeD (i := 7) (d := some 11) (v := Value.int IntKind.i64 0) rfl rfl (by kernel_rfl) (by kernel_rfl) (by kernel_rfl) (fun _ _ _ h => h) (Or.inl ⟨by rfl, fun w => by rfl⟩) ?_
          try simp only [qP, qZ, qS]
          refine wpAny_done (by kernel_rfl) ?_ _
          go_wp2_with fail
          go_meet
          case rel => exact ⟨g10, rfl, rfl, (by omega), (by omega), (by omega), v0, ((V0.mono bp).upd O0 u0 (by omega)), ((V5.mono bp).upd O0 u0 (by omega)), ((V7.mono bp).upd O0 u0 (by omega)), (Upd.below (hb1.trans (bp.mono hb1.size)) u0 (by omega))⟩
        · obtain ⟨g10, e_5, lg_5, hv_5⟩ := G 5 10 _ (by simp) rfl
          obtain ⟨x_2_0, x_2_1, e_2, n_2_0, rfl⟩ := G 2 51 _ (by simp) rfl
          have n_3 : (Sp.fq x).p wp (gp 3) := G 3 54 _ (by simp) rfl
          clear G Gs
          simp only [lTeTT14]
          simp only [qA, setD, qZ, qS, e_5, e_2]
          refine wpAny_takeD (i := 4) (d := some 55) (v := Value.int IntKind.i64 0) rfl rfl (by kernel_rfl) (by kernel_rfl) (by kernel_rfl) (fun _ _ _ h => h) (Or.inl ⟨by rfl, fun w => by rfl⟩) ?_
          try simp only [qP, qZ, qS]
          have T0 := hv_5
          refine wpAny_storeFr (j := 6) (by kernel_rfl) rfl rfl rfl rfl rfl n_3 T0.any ?_
          intro w0 u0 v0
          have O0 := T0.own
          refine wpAny_takeD (i := 7) (d := some 11) (v := Value.int IntKind.i64 0) rfl rfl (by kernel_rfl) (by kernel_rfl) (by kernel_rfl) (fun _ _ _ h => h) (Or.inl ⟨by rfl, fun w => by rfl⟩) ?_
          try simp only [qP, qZ, qS]
          refine wpAny_done (by kernel_rfl) ?_ _
          go_wp2_with fail
          go_meet
          case rel => exact ⟨g10, rfl, rfl, (by omega), (by omega), (by omega), v0, ((V0.mono bp).upd O0 u0 (by omega)), ((V5.mono bp).upd O0 u0 (by omega)), ((V7.mono bp).upd O0 u0 (by omega)), (Upd.below (hb1.trans (bp.mono hb1.size)) u0 (by omega))⟩
      case rest =>
      clear V0 V5 V7 hb1
      obtain ⟨g10, rfl, rfl, lg10, d10_0, d10_1, V10, V0, V5, V7, hb1⟩ := hcut
      go_upto_region 11 with (fail)
      go_cut [4] (fun s_4 wx => s_4 = Value.bool true ∧ VarQ wx w.heap.size x ∧ VarQ wx g5 y ∧ VarQ wx g7 y ∧ VarQ wx g10 x ∧ Below w.heap.size w wx)
      case first =>
        refine tF Try.f4 11 (lTeTT15 x z) [] 15 0 ?_ ?_
        · refine ⟨fun _ _ F => gR rfl rfl (arm_move (.inl rfl) (F.k 9 (Value.string z))).b, ?_⟩
          refine ⟨fun _ _ F => gR rfl rfl (arm_loadF rfl (F.k 2 (Value.pointer (some ⟨w.heap.size, 0, none⟩))) (V0.mono F.below)).b, ?_⟩
          refine ⟨fun _ _ F => gR rfl rfl (arm_C1 rfl (enters Try.func19 rfl rfl) (F.f 1 rfl) (fun va w h1 => q_rFormat va x w h1 (hx.mono (by decide))) (fun _ _ h => by rw [(congrArg Value.string hz.out)]; exact ofV h)).b, ?_⟩
          refine ⟨fun _ _ F => gR rfl rfl (arm_bin rfl (F.f 0 rfl) (F.f 2 rfl) (fun _ => rfl) (fun w => run_eqS _ w)).b, ?_⟩
          refine ⟨fun _ _ F => gR rfl rfl (arm_move (.inl rfl) (F.f 3 rfl)).b, ?_⟩
          refine ⟨fun _ _ F => gG F rfl rfl rfl rfl (arm_move (.inl rfl) (F.k 11 (Value.int IntKind.i64 0))).b, ?_⟩
          refine ⟨fun _ _ F => gG F rfl rfl rfl rfl (arm_bin rfl (F.f 5 rfl) Is.const (fun _ => rfl) (fun _ => rfl)).b, ?_⟩
          refine ⟨fun _ _ F => gR rfl rfl (arm_pick rfl (F.f 4 rfl) (fun _ => (F.f 6 rfl)) (fun h => by cases h)).b, ?_⟩
          refine ⟨fun _ _ F => gR rfl rfl (arm_move (.inl rfl) (F.f 7 rfl)).b, ?_⟩
          refine ⟨fun _ _ F => gG F rfl rfl rfl rfl (arm_loadF rfl (F.k 10 (Value.pointer (some ⟨g10, 0, none⟩))) (V10.mono F.below)).b, ?_⟩
          refine ⟨fun _ _ F => gG F rfl rfl rfl rfl (arm_loadF rfl (F.k 2 (Value.pointer (some ⟨w.heap.size, 0, none⟩))) (V0.mono F.below)).b, ?_⟩
          refine ⟨fun _ _ F => gG F rfl rfl rfl rfl (arm_C2 rfl (enters Try.func16 rfl rfl) (F.f 9 rfl) (F.f 10 rfl) (fun va vb w h1 h2 => q_Same va vb x x w h1 h2 (hx.mono (by decide)) (hx.mono (by decide))) (fun _ _ h => by have h' : RetV _ _ _ _ := h; rw [Fq.same_refl x] at h'; exact ofV h')).b, ?_⟩
          refine ⟨fun _ _ F => gR rfl rfl (arm_pick rfl (F.f 8 rfl) (fun _ => (F.f 11 rfl)) (fun h => by cases h)).b, ?_⟩
          refine ⟨fun _ _ F => gR rfl rfl (arm_move (.inl rfl) (F.f 12 rfl)).b, ?_⟩
          refine ⟨fun _ _ F => gG F rfl rfl rfl rfl (arm_C0 rfl (enters Try.func11 rfl rfl)  (fun w => c_awake2 w) (fun _ _ h => ofV h)).b, ?_⟩
          refine ⟨fun _ _ F => gR rfl rfl (arm_pick rfl (F.f 13 rfl) (fun _ => (F.f 14 rfl)) (fun h => by cases h)).b, ?_⟩
          refine ⟨fun _ _ F => gR rfl rfl (arm_move (.inr rfl) (F.f 15 rfl)).b, ?_⟩
          exact trivial
        intro E' hE gp wp bp G Gs
        obtain rfl : E' = [] := by simpa [subs] using hE
        have e_16 : gp 16 = Value.bool true := G 16 4 _ (by simp) rfl
        clear G Gs hE
        simp only [lTeTT15]
        simp only [qA, setD, qZ, qS, e_16]
        refine wpAny_done (by kernel_rfl) ?_ _
        go_wp2_with fail
        go_meet
        case rel => exact ⟨rfl, (V0.mono bp), (V5.mono bp), (V7.mono bp), (V10.mono bp), (hb1.trans (bp.mono hb1.size))⟩
      case rest =>
      clear V0 V5 V7 V10 hb1
      obtain ⟨rfl, V0, V5, V7, V10, hb1⟩ := hcut
      go_wp2
      go_ret
      exact ⟨rfl, hb1⟩
  · have HS : Hid (true = decide (900 < (u.size : Int))) := Lib.hid (by symm; apply decide_eq_true; omega)
    clear hs
    obtain ⟨a0, c0, b0, d0, rfl, m0, k0⟩ := boxF ix
    clear ix
    go_enter Try.func4, Try.ntmps4
    go_upto_region 0 with (fail)
    go_cut [2, 4] (fun s_2 s_4 wx => s_2 = Value.pointer (some ⟨w.heap.size, 0, none⟩) ∧ s_4 = Value.bool false ∧ VarQ wx w.heap.size x ∧ Below w.heap.size w wx)
    case first =>
      go_wp2_with fail
      go_meet
      case rel => exact ⟨rfl, rfl, k0, m0⟩
    case rest =>
    clear m0 k0
    obtain ⟨rfl, rfl, V0, hb1⟩ := hcut
    go_upto_region 1 with (fail)
    go_cut [14] (fun s_14 wx => s_14 = Value.bool true ∧ VarQ wx w.heap.size x ∧ Below w.heap.size w wx)
    case first =>
      refine tF Try.f4 1 (lTeTT16 u) [] 3 0 ?_ ?_
      · refine ⟨fun _ _ F => gR rfl rfl (arm_move (.inl rfl) (F.k 1 (Value.string u))).b, ?_⟩
        refine ⟨fun _ _ F => gR rfl rfl (arm_lenStr rfl (F.f 0 rfl)).b, ?_⟩
        refine ⟨fun _ _ F => gR rfl rfl (arm_bin rfl (F.f 1 rfl) Is.const (fun _ => rfl) (fun w => by rw [HS.out]; rfl)).b, ?_⟩
        exact trivial
      intro E' hE gp wp bp G Gs
      obtain rfl : E' = [] := by simpa [subs] using hE
      have e_2 : gp 2 = Value.bool true := G 2 14 _ (by simp) rfl
      clear G Gs hE
      simp only [lTeTT16]
      simp only [qA, setD, qZ, qS, e_2]
      refine wpAny_done (by kernel_rfl) ?_ _
      go_wp2_with fail
      go_meet
      case rel => exact ⟨rfl, (V0.mono bp), (hb1.trans (bp.mono hb1.size))⟩
    case rest =>
    clear V0 hb1
    obtain ⟨rfl, V0, hb1⟩ := hcut
    go_upto_region 2 with (fail)
    go_cut [4] (fun s_4 wx => s_4 = Value.bool true ∧ VarQ wx w.heap.size x ∧ Below w.heap.size w wx)
    case first =>
      refine tF Try.f4 2 (lTeTT17 ) [] 2 0 ?_ ?_
      · refine ⟨fun _ _ F => gR rfl rfl (arm_C0 rfl (enters Try.func11 rfl rfl)  (fun w => c_awake2 w) (fun _ _ h => ofV h)).b, ?_⟩
        refine ⟨fun _ _ F => gR rfl rfl (arm_move (.inr rfl) (F.f 0 rfl)).b, ?_⟩
        exact trivial
      intro E' hE gp wp bp G Gs
      obtain rfl : E' = [] := by simpa [subs] using hE
      have e_1 : gp 1 = Value.bool true := G 1 4 _ (by simp) rfl
      clear G Gs hE
      simp only [lTeTT17]
      simp only [qA, setD, qZ, qS, e_1]
      refine wpAny_done (by kernel_rfl) ?_ _
      go_wp2_with fail
      go_meet
      case rel => exact ⟨rfl, (V0.mono bp), (hb1.trans (bp.mono hb1.size))⟩
    case rest =>
    clear V0 hb1
    obtain ⟨rfl, V0, hb1⟩ := hcut
    go_wp2
    go_ret
    exact ⟨rfl, hb1⟩
def lTeUT0 (u : ByteArray) : List (Nat × Tmp × Sp) :=
   [(0, 12, .val (Value.string u)),
    (1, 13, .val (Value.int IntKind.i64 (u.size : Int))),
    (2, 14, .val (Value.bool false))]
def lTeUT1 (u : ByteArray) (y : Fq) (base : Nat) : List (Nat × Tmp × Sp) :=
   [(0, 17, .val (Value.string u)),
    (1, 18, .pair (.fq y) (.val (Value.int IntKind.i64 0))),
    (2, 16, .pair (.fq y) (.val (Value.int IntKind.i64 0))),
    (3, 19, .fq y),
    (4, 20, .val (Value.int IntKind.i64 0)),
    (5, 5, .varF base)]
def lTeUT2 (u : ByteArray) (y : Fq) (base : Nat) : List (Nat × Tmp × Sp) :=
   [(0, 22, .val (Value.string u)),
    (1, 23, .pair (.fq y) (.val (Value.int IntKind.i64 0))),
    (2, 21, .pair (.fq y) (.val (Value.int IntKind.i64 0))),
    (3, 24, .fq y),
    (4, 25, .val (Value.int IntKind.i64 0)),
    (5, 7, .varF base)]
def lTeUT3 (u : ByteArray) (y : Fq) : List (Nat × Tmp × Sp) :=
   [(0, 26, .val (Value.int IntKind.i64 0)),
    (1, 27, .val (Value.int IntKind.i64 0)),
    (2, 28, .val (Value.bool false)),
    (3, 29, .val (Value.bool false)),
    (4, 30, .fq y),
    (5, 31, .fq y),
    (6, 32, .val (Value.bool true)),
    (7, 33, .val (Value.bool false)),
    (8, 34, .val (Value.bool false)),
    (9, 35, .val (Value.bool false)),
    (10, 36, .val (Value.int IntKind.i64 0)),
    (11, 37, .val (Value.bool true)),
    (12, 38, .val (Value.bool true)),
    (13, 39, .fq y),
    (14, 40, .val (Value.string u)),
    (15, 41, .val (Value.string u)),
    (16, 42, .val (Value.bool false)),
    (17, 43, .val (Value.bool false)),
    (18, 44, .val (Value.bool false))]
def lTeUT4 (s : Bool) (L : Nat) (p : Nat) (N : Nat) (q : Nat) : List (Nat × Tmp × Sp) :=
   [(0, 45, .frR s L p N q),
    (1, 46, .val (Value.bool false)),
    (2, 47, .val (Value.bool true))]
def lTeUT5  : List (Nat × Tmp × Sp) :=
   [(0, 48, .val (Value.bool true)),
    (1, 4, .val (Value.bool true))]
def lTeUT6 (u : ByteArray) : List (Nat × Tmp × Sp) :=
   [(0, 12, .val (Value.string u)),
    (1, 13, .val (Value.int IntKind.i64 (u.size : Int))),
    (2, 14, .val (Value.bool false))]
def lTeUT7 (u : ByteArray) (y : Fq) (c : Int) (base : Nat) : List (Nat × Tmp × Sp) :=
   [(0, 17, .val (Value.string u)),
    (1, 18, .pair (.fq y) (.val (Value.int IntKind.i64 c))),
    (2, 16, .pair (.fq y) (.val (Value.int IntKind.i64 c))),
    (3, 19, .fq y),
    (4, 20, .val (Value.int IntKind.i64 c)),
    (5, 5, .varF base)]
def lTeUT8 (u : ByteArray) (y : Fq) (c : Int) (base : Nat) : List (Nat × Tmp × Sp) :=
   [(0, 22, .val (Value.string u)),
    (1, 23, .pair (.fq y) (.val (Value.int IntKind.i64 c))),
    (2, 21, .pair (.fq y) (.val (Value.int IntKind.i64 c))),
    (3, 24, .fq y),
    (4, 25, .val (Value.int IntKind.i64 c)),
    (5, 7, .varF base)]
def lTeUT9 (y : Fq) (c : Int) : List (Nat × Tmp × Sp) :=
   [(0, 26, .val (Value.int IntKind.i64 c)),
    (1, 27, .val (Value.int IntKind.i64 c)),
    (2, 28, .val (Value.bool false)),
    (3, 29, .val (Value.bool false)),
    (4, 30, .fq y),
    (5, 31, .fq y),
    (6, 32, .val (Value.bool true)),
    (7, 33, .val (Value.bool false)),
    (8, 34, .val (Value.bool false)),
    (9, 35, .val (Value.bool false)),
    (10, 36, .val (Value.int IntKind.i64 c)),
    (11, 37, .val (Value.bool false)),
    (12, 38, .val (Value.bool false)),
    (13, 39, .val undef),
    (14, 40, .val undef),
    (15, 41, .val undef),
    (16, 42, .val undef),
    (17, 43, .val (Value.bool false)),
    (18, 44, .val (Value.bool false))]
def lTeUT10 (s : Bool) (L : Nat) (p : Nat) (N : Nat) (q : Nat) : List (Nat × Tmp × Sp) :=
   [(0, 45, .frR s L p N q),
    (1, 46, .val (Value.bool false)),
    (2, 47, .val (Value.bool true))]
def lTeUT11  : List (Nat × Tmp × Sp) :=
   [(0, 48, .val (Value.bool true)),
    (1, 4, .val (Value.bool true))]
def lTeUT12 (u : ByteArray) : List (Nat × Tmp × Sp) :=
   [(0, 12, .val (Value.string u)),
    (1, 13, .val (Value.int IntKind.i64 (u.size : Int))),
    (2, 14, .val (Value.bool true))]
def lTeUT13  : List (Nat × Tmp × Sp) :=
   [(0, 15, .val (Value.bool true)),
    (1, 4, .val (Value.bool true))]
set_option maxHeartbeats 4000000 in
theorem c_lTeU (vx : Value) (s : Bool) (L p N q : Nat) (u : ByteArray) (w : World) (ix : IsFR w vx s L p N q) (hn : ¬ FitP s L p N q) :
    Calls Try.prog 4 #[vx, .string u] w fun e w' => RetV w (.bool true) e w' := by
  obtain ⟨y, c, hf⟩ := fp_total u
  have FO := Lib.hid (fp_ok hf)
  by_cases hs : u.size ≤ 900
  · have HS : Hid (false = decide (900 < (u.size : Int))) := Lib.hid (by symm; apply decide_eq_false; omega)
    have hus : u.size ≤ 4294967280 := by omega
    clear hs
    by_cases hc : c = 0
    · subst hc
      have HW : Hid (u = y.fmt) := Lib.hid (fp_fmt hf rfl).symm
      have HY : y.ok 400 := ⟨FO.out.1, FO.out.2.1, FO.out.2.2 rfl⟩
      obtain ⟨a0, c0, b0, d0, rfl, m0, k0⟩ := boxR ix
      clear ix
      go_enter Try.func4, Try.ntmps4
      go_upto_region 0 with (fail)
      go_cut [2, 4] (fun s_2 s_4 wx => s_2 = Value.pointer (some ⟨w.heap.size, 0, none⟩) ∧ s_4 = Value.bool false ∧ VarFR wx w.heap.size s L p N q ∧ Below w.heap.size w wx)
      case first =>
        go_wp2_with fail
        go_meet
        case rel => exact ⟨rfl, rfl, k0, m0⟩
      case rest =>
      clear m0 k0
      obtain ⟨rfl, rfl, V0, hb1⟩ := hcut
      go_upto_region 1 with (fail)
      go_cut [14] (fun s_14 wx => s_14 = Value.bool false ∧ VarFR wx w.heap.size s L p N q ∧ Below w.heap.size w wx)
      case first =>
        refine tF Try.f4 1 (lTeUT0 u) [] 3 0 ?_ ?_
        · refine ⟨fun _ _ F => gR rfl rfl (arm_move (.inl rfl) (F.k 1 (Value.string u))).b, ?_⟩
          refine ⟨fun _ _ F => gR rfl rfl (arm_lenStr rfl (F.f 0 rfl)).b, ?_⟩
          refine ⟨fun _ _ F => gR rfl rfl (arm_bin rfl (F.f 1 rfl) Is.const (fun _ => rfl) (fun w => by rw [HS.out]; rfl)).b, ?_⟩
          exact trivial
        intro E' hE gp wp bp G Gs
        obtain rfl : E' = [] := by simpa [subs] using hE
        have e_2 : gp 2 = Value.bool false := G 2 14 _ (by simp) rfl
        clear G Gs hE
        simp only [lTeUT0]
        simp only [qA, setD, qZ, qS, e_2]
        refine wpAny_done (by kernel_rfl) ?_ _
        go_wp2_with fail
        go_meet
        case rel => exact ⟨rfl, (V0.mono bp), (hb1.trans (bp.mono hb1.size))⟩
      case rest =>
      clear V0 hb1
      obtain ⟨rfl, V0, hb1⟩ := hcut
      go_upto_region 3 with (fail)
      go_cut [5, 6] (fun s_5 s_6 wx => ∃ g5, s_5 = Value.pointer (some ⟨g5, 0, none⟩) ∧ s_6 = Value.int IntKind.i64 0 ∧ w.heap.size + 1 ≤ g5 ∧ VarQ wx g5 y ∧ VarFR wx w.heap.size s L p N q ∧ Below w.heap.size w wx)
      case first =>
        obtain ⟨base, hbase0⟩ : ∃ b : Nat, Hid (b = wc.heap.size) := ⟨_, Lib.hid rfl⟩
        have hbase : base ≤ wc.heap.size := by rw [hbase0.out]; exact Nat.le_refl _
        have hbw : w.heap.size + 1 ≤ base := by have := hb1.size; have h1 := V0.lt; rw [hbase0.out]; omega
        have l_V0 : w.heap.size < base := by rw [hbase0.out]; exact V0.lt
        refine wp_tabGF Try.f4 3 (lTeUT1 u y base) [4] (fun i => i == 5) 6 2 (by kernel_rfl) (by kernel_rfl) (by kernel_rfl) (by kernel_rfl) (by kernel_rfl) ⟨fun h => (by cases h), ⟨fun h => (by cases h), ⟨fun h => (by cases h), ⟨fun h => (by cases h), ⟨fun h => (by cases h), ⟨fun _ w v h => Sp.varF_lt h, trivial⟩⟩⟩⟩⟩⟩ ?_ ?_
        · refine ⟨fun _ _ F => gR rfl rfl (arm_move (.inl rfl) (F.k 1 (Value.string u))).b, ?_⟩
          refine ⟨fun _ _ F => gR rfl rfl (arm_C1 rfl (enters Try.func14 rfl rfl) (F.f 0 rfl) (fun va w h1 => by have e_va : va = _ := h1; subst e_va; exact q_fParse u y 0 w hf hus) (fun _ _ h => ofQE h)).b, ?_⟩
          refine ⟨fun _ _ F => gR rfl rfl (arm_move (.inl rfl) (F.f 1 rfl)).b, ?_⟩
          refine ⟨fun _ _ F => gR rfl rfl (arm_pair0 rfl (F.f 2 rfl)).b, ?_⟩
          refine ⟨fun _ _ F => gR rfl rfl (arm_pair1 rfl (F.f 2 rfl)).b, ?_⟩
          refine ⟨fun _ _ F => gR rfl rfl (arm_allocF rfl (Nat.le_trans hbase F.below.size)), ?_⟩
          exact trivial
        intro E' hE gp wp bp G Gs
        simp only [subs, List.map_cons, List.map_nil, List.nil_append, List.cons_append, List.mem_cons, List.not_mem_nil, or_false, List.append_nil] at hE
        rcases hE with rfl | rfl
        · obtain ⟨g5, e_5, lg_5, hv_5⟩ := G 5 5 _ (by simp) rfl
          have n_3 : (Sp.fq y).p wp (gp 3) := G 3 19 _ (by simp) rfl
          have e_4 : gp 4 = Value.int IntKind.i64 0 := G 4 20 _ (by simp) rfl
          clear G Gs
          simp only [lTeUT1]
          simp only [qA, setD, qZ, qS, e_5, e_4]
          have T0 := hv_5
          refine wpAny_storeFr (j := 6) (by kernel_rfl) rfl rfl rfl rfl rfl n_3 T0.any ?_
          intro w0 u0 v0
          have O0 := T0.own
          refine wpAny_takeD (i := 7) (d := some 6) (v := Value.int IntKind.i64 0) rfl rfl (by kernel_rfl) (by kernel_rfl) (by kernel_rfl) (fun _ _ _ h => h) (Or.inl ⟨by rfl, fun w => by rfl⟩) ?_
          try simp only [qP, qZ, qS]
          refine wpAny_done (by kernel_rfl) ?_ _
          go_wp2_with fail
          go_meet
          case rel => exact ⟨g5, rfl, rfl, (by omega), v0, ((V0.mono bp).upd O0 u0 (by omega)), (Upd.below (hb1.trans (bp.mono hb1.size)) u0 (by omega))⟩
        · obtain ⟨g5, e_5, lg_5, hv_5⟩ := G 5 5 _ (by simp) rfl
          obtain ⟨x_2_0, x_2_1, e_2, n_2_0, rfl⟩ := G 2 16 _ (by simp) rfl
          have n_3 : (Sp.fq y).p wp (gp 3) := G 3 19 _ (by simp) rfl
          clear G Gs
          simp only [lTeUT1]
          simp only [qA, setD, qZ, qS, e_5, e_2]
          refine wpAny_takeD (i := 4) (d := some 20) (v := Value.int IntKind.i64 0) rfl rfl (by kernel_rfl) (by kernel_rfl) (by kernel_rfl) (fun _ _ _ h => h) (Or.inl ⟨by rfl, fun w => by rfl⟩) ?_
          try simp only [qP, qZ, qS]
          have T0 := hv_5
          refine wpAny_storeFr (j := 6) (by kernel_rfl) rfl rfl rfl rfl rfl n_3 T0.any ?_
          intro w0 u0 v0
          have O0 := T0.own
          refine wpAny_takeD (i := 7) (d := some 6) (v := Value.int IntKind.i64 0) rfl rfl (by kernel_rfl) (by kernel_rfl) (by kernel_rfl) (fun _ _ _ h => h) (Or.inl ⟨by rfl, fun w => by rfl⟩) ?_
          try simp only [qP, qZ, qS]
          refine wpAny_done (by kernel_rfl) ?_ _
          go_wp2_with fail
          go_meet
          case rel => exact ⟨g5, rfl, rfl, (by omega), v0, ((V0.mono bp).upd O0 u0 (by omega)), (Upd.below (hb1.trans (bp.mono hb1.size)) u0 (by omega))⟩
      case rest =>
      clear V0 hb1
      obtain ⟨g5, rfl, rfl, lg5, V5, V0, hb1⟩ := hcut
      go_upto_region 4 with (fail)
      go_cut [7, 8] (fun s_7 s_8 wx => ∃ g7, s_7 = Value.pointer (some ⟨g7, 0, none⟩) ∧ s_8 = Value.int IntKind.i64 0 ∧ w.heap.size + 1 ≤ g7 ∧ g5 < g7 ∧ VarQ wx g7 y ∧ VarFR wx w.heap.size s L p N q ∧ VarQ wx g5 y ∧ Below w.heap.size w wx)
      case first =>
        obtain ⟨base, hbase0⟩ : ∃ b : Nat, Hid (b = wc.heap.size) := ⟨_, Lib.hid rfl⟩
        have hbase : base ≤ wc.heap.size := by rw [hbase0.out]; exact Nat.le_refl _
        have hbw : w.heap.size + 1 ≤ base := by have := hb1.size; have h1 := V0.lt; rw [hbase0.out]; omega
        have l_V0 : w.heap.size < base := by rw [hbase0.out]; exact V0.lt
        have l_V5 : g5 < base := by rw [hbase0.out]; exact V5.lt
        refine wp_tabGF Try.f4 4 (lTeUT2 u y base) [4] (fun i => i == 5) 6 2 (by kernel_rfl) (by kernel_rfl) (by kernel_rfl) (by kernel_rfl) (by kernel_rfl) ⟨fun h => (by cases h), ⟨fun h => (by cases h), ⟨fun h => (by cases h), ⟨fun h => (by cases h), ⟨fun h => (by cases h), ⟨fun _ w v h => Sp.varF_lt h, trivial⟩⟩⟩⟩⟩⟩ ?_ ?_
        · refine ⟨fun _ _ F => gR rfl rfl (arm_move (.inl rfl) (F.k 1 (Value.string u))).b, ?_⟩
          refine ⟨fun _ _ F => gR rfl rfl (arm_C1 rfl (enters Try.func15 rfl rfl) (F.f 0 rfl) (fun va w h1 => by have e_va : va = _ := h1; subst e_va; exact q_rParse u y 0 w hf hus) (fun _ _ h => ofQE h)).b, ?_⟩
          refine ⟨fun _ _ F => gR rfl rfl (arm_move (.inl rfl) (F.f 1 rfl)).b, ?_⟩
          refine ⟨fun _ _ F => gR rfl rfl (arm_pair0 rfl (F.f 2 rfl)).b, ?_⟩
          refine ⟨fun _ _ F => gR rfl rfl (arm_pair1 rfl (F.f 2 rfl)).b, ?_⟩
          refine ⟨fun _ _ F => gR rfl rfl (arm_allocF rfl (Nat.le_trans hbase F.below.size)), ?_⟩
          exact trivial
        intro E' hE gp wp bp G Gs
        simp only [subs, List.map_cons, List.map_nil, List.nil_append, List.cons_append, List.mem_cons, List.not_mem_nil, or_false, List.append_nil] at hE
        rcases hE with rfl | rfl
        · obtain ⟨g7, e_5, lg_5, hv_5⟩ := G 5 7 _ (by simp) rfl
          have n_3 : (Sp.fq y).p wp (gp 3) := G 3 24 _ (by simp) rfl
          have e_4 : gp 4 = Value.int IntKind.i64 0 := G 4 25 _ (by simp) rfl
          clear G Gs
          simp only [lTeUT2]
          simp only [qA, setD, qZ, qS, e_5, e_4]
          have T0 := hv_5
          refine wpAny_storeFr (j := 6) (by kernel_rfl) rfl rfl rfl rfl rfl n_3 T0.any ?_
          intro w0 u0 v0
          have O0 := T0.own
          refine wpAny_takeD (i := 7) (d := some 8) (v := Value.int IntKind.i64 0) rfl rfl (by kernel_rfl) (by kernel_rfl) (by kernel_rfl) (fun _ _ _ h => h) (Or.inl ⟨by rfl, fun w => by rfl⟩) ?_
          try simp only [qP, qZ, qS]
          refine wpAny_done (by kernel_rfl) ?_ _
          go_wp2_with fail
          go_meet
          case rel => exact ⟨g7, rfl, rfl, (by omega), (by omega), v0, ((V0.mono bp).upd O0 u0 (by omega)), ((V5.mono bp).upd O0 u0 (by omega)), (Upd.below (hb1.trans (bp.mono hb1.size)) u0 (by omega))⟩
        · obtain ⟨g7, e_5, lg_5, hv_5⟩ := G 5 7 _ (by simp) rfl
          obtain ⟨x_2_0, x_2_1, e_2, n_2_0, rfl⟩ := G 2 21 _ (by simp) rfl
          have n_3 : (Sp.fq y).p wp (gp 3) := G 3 24 _ (by simp) rfl
          clear G Gs
          simp only [lTeUT2]
          simp only [qA, setD, qZ, qS, e_5, e_2]
          refine wpAny_takeD (i := 4) (d := some 25) (v := Value.int IntKind.i64 0) rfl rfl (by kernel_rfl) (by kernel_rfl) (by kernel_rfl) (fun _ _ _ h => h) (Or.inl ⟨by rfl, fun w => by rfl⟩) ?_
          try simp only [qP, qZ, qS]
          have T0 := hv_5
          refine wpAny_storeFr (j := 6) (by kernel_rfl) rfl rfl rfl rfl rfl n_3 T0.any ?_
          intro w0 u0 v0
          have O0 := T0.own
          refine wpAny_takeD (i := 7) (d := some 8) (v := Value.int IntKind.i64 0) rfl rfl (by kernel_rfl) (by kernel_rfl) (by kernel_rfl) (fun _ _ _ h => h) (Or.inl ⟨by rfl, fun w => by rfl⟩) ?_
          try simp only [qP, qZ, qS]
          refine wpAny_done (by kernel_rfl) ?_ _
          go_wp2_with fail
          go_meet
          case rel => exact ⟨g7, rfl, rfl, (by omega), (by omega), v0, ((V0.mono bp).upd O0 u0 (by omega)), ((V5.mono bp).upd O0 u0 (by omega)), (Upd.below (hb1.trans (bp.mono hb1.size)) u0 (by omega))⟩
      case rest =>
      clear V0 V5 hb1
      obtain ⟨g7, rfl, rfl, lg7, d4_0, V7, V0, V5, hb1⟩ := hcut
      go_upto_region 5 with (fail)
      go_cut [44] (fun s_44 wx => s_44 = Value.bool false ∧ VarFR wx w.heap.size s L p N q ∧ VarQ wx g5 y ∧ VarQ wx g7 y ∧ Below w.heap.size w wx)
      case first =>
        refine tF Try.f4 5 (lTeUT3 u y) [] 16 0 ?_ ?_
        · refine ⟨fun _ _ F => gR rfl rfl (arm_move (.inl rfl) (F.k 6 (Value.int IntKind.i64 0))).b, ?_⟩
          refine ⟨fun _ _ F => gR rfl rfl (arm_move (.inl rfl) (F.k 8 (Value.int IntKind.i64 0))).b, ?_⟩
          refine ⟨fun _ _ F => gR rfl rfl (arm_bin rfl (F.f 0 rfl) (F.f 1 rfl) (fun _ => rfl) (fun _ => rfl)).b, ?_⟩
          refine ⟨fun _ _ F => gR rfl rfl (arm_move (.inl rfl) (F.f 2 rfl)).b, ?_⟩
          refine ⟨fun _ _ F => gG F rfl rfl rfl rfl (arm_loadF rfl (F.k 5 (Value.pointer (some ⟨g5, 0, none⟩))) (V5.mono F.below)).b, ?_⟩
          refine ⟨fun _ _ F => gG F rfl rfl rfl rfl (arm_loadF rfl (F.k 7 (Value.pointer (some ⟨g7, 0, none⟩))) (V7.mono F.below)).b, ?_⟩
          refine ⟨fun _ _ F => gG F rfl rfl rfl rfl (arm_C2 rfl (enters Try.func16 rfl rfl) (F.f 4 rfl) (F.f 5 rfl) (fun va vb w h1 h2 => q_SameB va vb y y w h1 h2 (Nat.le_trans FO.out.1 (by decide)) (Nat.le_trans FO.out.2.1 (by decide)) (Nat.le_trans FO.out.1 (by decide)) (Nat.le_trans FO.out.2.1 (by decide))) (fun _ _ h => by have h' : RetV _ _ _ _ := h; rw [Fq.same_refl y] at h'; exact ofV h')).b, ?_⟩
          refine ⟨fun _ _ F => gG F rfl rfl rfl rfl (arm_not rfl (F.f 6 rfl)).b, ?_⟩
          refine ⟨fun _ _ F => gR rfl rfl (arm_pick rfl (F.f 3 rfl) (fun h => by cases h) (fun _ => (F.f 7 rfl))).b, ?_⟩
          refine ⟨fun _ _ F => gR rfl rfl (arm_move (.inl rfl) (F.f 8 rfl)).b, ?_⟩
          refine ⟨fun _ _ F => gG F rfl rfl rfl rfl (arm_move (.inl rfl) (F.k 6 (Value.int IntKind.i64 0))).b, ?_⟩
          refine ⟨fun _ _ F => gG F rfl rfl rfl rfl (arm_bin rfl (F.f 10 rfl) Is.const (fun _ => rfl) (fun _ => rfl)).b, ?_⟩
          refine ⟨fun _ _ F => gG F rfl rfl rfl rfl (arm_move (.inl rfl) (F.f 11 rfl)).b, ?_⟩
          refine ⟨fun _ _ F => gG F rfl rfl rfl rfl (arm_loadF rfl (F.k 5 (Value.pointer (some ⟨g5, 0, none⟩))) (V5.mono F.below)).b, ?_⟩
          refine ⟨fun _ _ F => gG F rfl rfl rfl rfl (arm_C1 rfl (enters Try.func17 rfl rfl) (F.f 13 rfl) (fun va w h1 => q_fFormat va y w h1 (HY.mono (by decide))) (fun _ _ h => by rw [(congrArg Value.string HW.out)]; exact ofV h)).b, ?_⟩
          refine ⟨fun _ _ F => gG F rfl rfl rfl rfl (arm_move (.inl rfl) (F.k 1 (Value.string u))).b, ?_⟩
          refine ⟨fun _ _ F => gG F rfl rfl rfl rfl (arm_bin rfl (F.f 14 rfl) (F.f 15 rfl) (fun _ => rfl) (fun w => run_neSt _ w)).b, ?_⟩
          refine ⟨fun _ _ F => gG F rfl rfl rfl rfl (arm_pick rfl (F.f 12 rfl) (fun _ => (F.f 16 rfl)) (fun h => by cases h)).b, ?_⟩
          refine ⟨fun _ _ F => gR rfl rfl (arm_pick rfl (F.f 9 rfl) (fun h => by cases h) (fun _ => (F.f 17 rfl))).b, ?_⟩
          exact trivial
        intro E' hE gp wp bp G Gs
        obtain rfl : E' = [] := by simpa [subs] using hE
        have e_18 : gp 18 = Value.bool false := G 18 44 _ (by simp) rfl
        clear G Gs hE
        simp only [lTeUT3]
        simp only [qA, setD, qZ, qS, e_18]
        refine wpAny_done (by kernel_rfl) ?_ _
        go_wp2_with fail
        go_meet
        case rel => exact ⟨rfl, (V0.mono bp), (V5.mono bp), (V7.mono bp), (hb1.trans (bp.mono hb1.size))⟩
      case rest =>
      clear V0 V5 V7 hb1
      obtain ⟨rfl, V0, V5, V7, hb1⟩ := hcut
      go_upto_region 7 with (fail)
      go_cut [47] (fun s_47 wx => s_47 = Value.bool true ∧ VarFR wx w.heap.size s L p N q ∧ VarQ wx g5 y ∧ VarQ wx g7 y ∧ Below w.heap.size w wx)
      case first =>
        refine tF Try.f4 7 (lTeUT4 s L p N q) [] 3 0 ?_ ?_
        · refine ⟨fun _ _ F => gR rfl rfl (arm_loadFR rfl (F.k 2 (Value.pointer (some ⟨w.heap.size, 0, none⟩))) (V0.mono F.below)).b, ?_⟩
          refine ⟨fun _ _ F => gR rfl rfl (arm_C1 rfl (enters Try.func18 rfl rfl) (F.f 0 rfl) (fun va w h1 => q_fitF va s L p N q w h1 hn) (fun _ _ h => ofV h)).b, ?_⟩
          refine ⟨fun _ _ F => gR rfl rfl (arm_not rfl (F.f 1 rfl)).b, ?_⟩
          exact trivial
        intro E' hE gp wp bp G Gs
        obtain rfl : E' = [] := by simpa [subs] using hE
        have e_2 : gp 2 = Value.bool true := G 2 47 _ (by simp) rfl
        clear G Gs hE
        simp only [lTeUT4]
        simp only [qA, setD, qZ, qS, e_2]
        refine wpAny_done (by kernel_rfl) ?_ _
        go_wp2_with fail
        go_meet
        case rel => exact ⟨rfl, (V0.mono bp), (V5.mono bp), (V7.mono bp), (hb1.trans (bp.mono hb1.size))⟩
      case rest =>
      clear V0 V5 V7 hb1
      obtain ⟨rfl, V0, V5, V7, hb1⟩ := hcut
      go_upto_region 8 with (fail)
      go_cut [4] (fun s_4 wx => s_4 = Value.bool true ∧ VarFR wx w.heap.size s L p N q ∧ VarQ wx g5 y ∧ VarQ wx g7 y ∧ Below w.heap.size w wx)
      case first =>
        refine tF Try.f4 8 (lTeUT5 ) [] 2 0 ?_ ?_
        · refine ⟨fun _ _ F => gR rfl rfl (arm_C0 rfl (enters Try.func11 rfl rfl)  (fun w => c_awake2 w) (fun _ _ h => ofV h)).b, ?_⟩
          refine ⟨fun _ _ F => gR rfl rfl (arm_move (.inr rfl) (F.f 0 rfl)).b, ?_⟩
          exact trivial
        intro E' hE gp wp bp G Gs
        obtain rfl : E' = [] := by simpa [subs] using hE
        have e_1 : gp 1 = Value.bool true := G 1 4 _ (by simp) rfl
        clear G Gs hE
        simp only [lTeUT5]
        simp only [qA, setD, qZ, qS, e_1]
        refine wpAny_done (by kernel_rfl) ?_ _
        go_wp2_with fail
        go_meet
        case rel => exact ⟨rfl, (V0.mono bp), (V5.mono bp), (V7.mono bp), (hb1.trans (bp.mono hb1.size))⟩
      case rest =>
      clear V0 V5 V7 hb1
      obtain ⟨rfl, V0, V5, V7, hb1⟩ := hcut
      go_wp2
      go_ret
      exact ⟨rfl, hb1⟩
    · have HC : Hid (false = (c == 0)) := Lib.hid (by symm; simpa using hc)
      clear hc
      obtain ⟨a0, c0, b0, d0, rfl, m0, k0⟩ := boxR ix
      clear ix
      go_enter Try.func4, Try.ntmps4
      go_upto_region 0 with (fail)
      go_cut [2, 4] (fun s_2 s_4 wx => s_2 = Value.pointer (some ⟨w.heap.size, 0, none⟩) ∧ s_4 = Value.bool false ∧ VarFR wx w.heap.size s L p N q ∧ Below w.heap.size w wx)
      case first =>
        go_wp2_with fail
        go_meet
        case rel => exact ⟨rfl, rfl, k0, m0⟩
      case rest =>
      clear m0 k0
      obtain ⟨rfl, rfl, V0, hb1⟩ := hcut
      go_upto_region 1 with (fail)
      go_cut [14] (fun s_14 wx => s_14 = Value.bool false ∧ VarFR wx w.heap.size s L p N q ∧ Below w.heap.size w wx)
      case first =>
        refine tF Try.f4 1 (lTeUT6 u) [] 3 0 ?_ ?_
        · refine ⟨fun _ _ F => gR rfl rfl (arm_move (.inl rfl) (F.k 1 (Value.string u))).b, ?_⟩
          refine ⟨fun _ _ F => gR rfl rfl (arm_lenStr rfl (F.f 0 rfl)).b, ?_⟩
          refine ⟨fun _ _ F => gR rfl rfl (arm_bin rfl (F.f 1 rfl) Is.const (fun _ => rfl) (fun w => by rw [HS.out]; rfl)).b, ?_⟩
          exact trivial
        intro E' hE gp wp bp G Gs
        obtain rfl : E' = [] := by simpa [subs] using hE
        have e_2 : gp 2 = Value.bool false := G 2 14 _ (by simp) rfl
        clear G Gs hE
        simp only [lTeUT6]
        simp only [qA, setD, qZ, qS, e_2]
        refine wpAny_done (by kernel_rfl) ?_ _
        go_wp2_with fail
        go_meet
        case rel => exact ⟨rfl, (V0.mono bp), (hb1.trans (bp.mono hb1.size))⟩
      case rest =>
      clear V0 hb1
      obtain ⟨rfl, V0, hb1⟩ := hcut
      go_upto_region 3 with (fail)
      go_cut [5, 6] (fun s_5 s_6 wx => ∃ g5, s_5 = Value.pointer (some ⟨g5, 0, none⟩) ∧ s_6 = Value.int IntKind.i64 c ∧ w.heap.size + 1 ≤ g5 ∧ VarQ wx g5 y ∧ VarFR wx w.heap.size s L p N q ∧ Below w.heap.size w wx)
      case first =>
        obtain ⟨base, hbase0⟩ : ∃ b : Nat, Hid (b = wc.heap.size) := ⟨_, Lib.hid rfl⟩
        have hbase : base ≤ wc.heap.size := by rw [hbase0.out]; exact Nat.le_refl _
        have hbw : w.heap.size + 1 ≤ base := by have := hb1.size; have h1 := V0.lt; rw [hbase0.out]; omega
        have l_V0 : w.heap.size < base := by rw [hbase0.out]; exact V0.lt
        refine wp_tabGF Try.f4 3 (lTeUT7 u y c base) [4] (fun i => i == 5) 6 2 (by kernel_rfl) (by kernel_rfl) (by kernel_rfl) (by kernel_rfl) (by kernel_rfl) ⟨fun h => (by cases h), ⟨fun h => (by cases h), ⟨fun h => (by cases h), ⟨fun h => (by cases h), ⟨fun h => (by cases h), ⟨fun _ w v h => Sp.varF_lt h, trivial⟩⟩⟩⟩⟩⟩ ?_ ?_
        · refine ⟨fun _ _ F => gR rfl rfl (arm_move (.inl rfl) (F.k 1 (Value.string u))).b, ?_⟩
          refine ⟨fun _ _ F => gR rfl rfl (arm_C1 rfl (enters Try.func14 rfl rfl) (F.f 0 rfl) (fun va w h1 => by have e_va : va = _ := h1; subst e_va; exact q_fParse u y c w hf hus) (fun _ _ h => ofQE h)).b, ?_⟩
          refine ⟨fun _ _ F => gR rfl rfl (arm_move (.inl rfl) (F.f 1 rfl)).b, ?_⟩
          refine ⟨fun _ _ F => gR rfl rfl (arm_pair0 rfl (F.f 2 rfl)).b, ?_⟩
          refine ⟨fun _ _ F => gR rfl rfl (arm_pair1 rfl (F.f 2 rfl)).b, ?_⟩
          refine ⟨fun _ _ F => gR rfl rfl (arm_allocF rfl (Nat.le_trans hbase F.below.size)), ?_⟩
          exact trivial
        intro E' hE gp wp bp G Gs
        simp only [subs, List.map_cons, List.map_nil, List.nil_append, List.cons_append, List.mem_cons, List.not_mem_nil, or_false, List.append_nil] at hE
        rcases hE with rfl | rfl
        · obtain ⟨g5, e_5, lg_5, hv_5⟩ := G 5 5 _ (by simp) rfl
          have n_3 : (Sp.fq y).p wp (gp 3) := G 3 19 _ (by simp) rfl
          have e_4 : gp 4 = Value.int IntKind.i64 c := G 4 20 _ (by simp) rfl
          clear G Gs
          simp only [lTeUT7]
          simp only [qA, setD, qZ, qS, e_5, e_4]
          have T0 := hv_5
          refine wpAny_storeFr (j := 6) (by kernel_rfl) rfl rfl rfl rfl rfl n_3 T0.any ?_
          intro w0 u0 v0
          have O0 := T0.own
          refine wpAny_takeD (i := 7) (d := some 6) (v := Value.int IntKind.i64 c) rfl rfl (by kernel_rfl) (by kernel_rfl) (by kernel_rfl) (fun _ _ _ h => h) (Or.inl ⟨by rfl, fun w => by rfl⟩) ?_
          try simp only [qP, qZ, qS]
          refine wpAny_done (by kernel_rfl) ?_ _
          go_wp2_with fail
          go_meet
          case rel => exact ⟨g5, rfl, rfl, (by omega), v0, ((V0.mono bp).upd O0 u0 (by omega)), (Upd.below (hb1.trans (bp.mono hb1.size)) u0 (by omega))⟩
        · obtain ⟨g5, e_5, lg_5, hv_5⟩ := G 5 5 _ (by simp) rfl
          obtain ⟨x_2_0, x_2_1, e_2, n_2_0, rfl⟩ := G 2 16 _ (by simp) rfl
          have n_3 : (Sp.fq y).p wp (gp 3) := G 3 19 _ (by simp) rfl
          clear G Gs
          simp only [lTeUT7]
          simp only [qA, setD, qZ, qS, e_5, e_2]
          refine wpAny_takeD (i := 4) (d := some 20) (v := Value.int IntKind.i64 c) rfl rfl (by kernel_rfl) (by kernel_rfl) (by kernel_rfl) (fun _ _ _ h => h) (Or.inl ⟨by rfl, fun w => by rfl⟩) ?_
          try simp only [qP, qZ, qS]
          have T0 := hv_5
          refine wpAny_storeFr (j := 6) (by kernel_rfl) rfl rfl rfl rfl rfl n_3 T0.any ?_
          intro w0 u0 v0
          have O0 := T0.own
          refine wpAny_takeD (i := 7) (d := some 6) (v := Value.int IntKind.i64 c) rfl rfl (by kernel_rfl) (by kernel_rfl) (by kernel_rfl) (fun _ _ _ h => h) (Or.inl ⟨by rfl, fun w => by rfl⟩) ?_
          try simp only [qP, qZ, qS]
          refine wpAny_done (by kernel_rfl) ?_ _
          go_wp2_with fail
          go_meet
          case rel => exact ⟨g5, rfl, rfl, (by omega), v0, ((V0.mono bp).upd O0 u0 (by omega)), (Upd.below (hb1.trans (bp.mono hb1.size)) u0 (by omega))⟩
      case rest =>
      clear V0 hb1
      obtain ⟨g5, rfl, rfl, lg5, V5, V0, hb1⟩ := hcut
      go_upto_region 4 with (fail)
      go_cut [7, 8] (fun s_7 s_8 wx => ∃ g7, s_7 = Value.pointer (some ⟨g7, 0, none⟩) ∧ s_8 = Value.int IntKind.i64 c ∧ w.heap.size + 1 ≤ g7 ∧ g5 < g7 ∧ VarQ wx g7 y ∧ VarFR wx w.heap.size s L p N q ∧ VarQ wx g5 y ∧ Below w.heap.size w wx)
      case first =>
        obtain ⟨base, hbase0⟩ : ∃ b : Nat, Hid (b = wc.heap.size) := ⟨_, Lib.hid rfl⟩
        have hbase : base ≤ wc.heap.size := by rw [hbase0.out]; exact Nat.le_refl _
        have hbw : w.heap.size + 1 ≤ base := by have := hb1.size; have h1 := V0.lt; rw [hbase0.out]; omega
        have l_V0 : w.heap.size < base := by rw [hbase0.out]; exact V0.lt
        have l_V5 : g5 < base := by rw [hbase0.out]; exact V5.lt
        refine wp_tabGF Try.f4 4 (lTeUT8 u y c base) [4] (fun i => i == 5) 6 2 (by kernel_rfl) (by kernel_rfl) (by kernel_rfl) (by kernel_rfl) (by kernel_rfl) ⟨fun h => (by cases h), ⟨fun h => (by cases h), ⟨fun h => (by cases h), ⟨fun h => (by cases h), ⟨fun h => (by cases h), ⟨fun _ w v h => Sp.varF_lt h, trivial⟩⟩⟩⟩⟩⟩ ?_ ?_
        · refine ⟨fun _ _ F => gR rfl rfl (arm_move (.inl rfl) (F.k 1 (Value.string u))).b, ?_⟩
          refine ⟨fun _ _ F => gR rfl rfl (arm_C1 rfl (enters Try.func15 rfl rfl) (F.f 0 rfl) (fun va w h1 => by have e_va : va = _ := h1; subst e_va; exact q_rParse u y c w hf hus) (fun _ _ h => ofQE h)).b, ?_⟩
          refine ⟨fun _ _ F => gR rfl rfl (arm_move (.inl rfl) (F.f 1 rfl)).b, ?_⟩
          refine ⟨fun _ _ F => gR rfl rfl (arm_pair0 rfl (F.f 2 rfl)).b, ?_⟩
          refine ⟨fun _ _ F => gR rfl rfl (arm_pair1 rfl (F.f 2 rfl)).b, ?_⟩
          refine ⟨fun _ _ F => gR rfl rfl (arm_allocF rfl (Nat.le_trans hbase F.below.size)), ?_⟩
          exact trivial
        intro E' hE gp wp bp G Gs
        simp only [subs, List.map_cons, List.map_nil, List.nil_append, List.cons_append, List.mem_cons, List.not_mem_nil, or_false, List.append_nil] at hE
        rcases hE with rfl | rfl
        · obtain ⟨g7, e_5, lg_5, hv_5⟩ := G 5 7 _ (by simp) rfl
          have n_3 : (Sp.fq y).p wp (gp 3) := G 3 24 _ (by simp) rfl
          have e_4 : gp 4 = Value.int IntKind.i64 c := G 4 25 _ (by simp) rfl
          clear G Gs
          simp only [lTeUT8]
          simp only [qA, setD, qZ, qS, e_5, e_4]
          have T0 := hv_5
          refine wpAny_storeFr (j := 6) (by kernel_rfl) rfl rfl rfl rfl rfl n_3 T0.any ?_
          intro w0 u0 v0
          have O0 := T0.own
          refine wpAny_takeD (i := 7) (d := some 8) (v := Value.int IntKind.i64 c) rfl rfl (by kernel_rfl) (by kernel_rfl) (by kernel_rfl) (fun _ _ _ h => h) (Or.inl ⟨by rfl, fun w => by rfl⟩) ?_
          try simp only [qP, qZ, qS]
          refine wpAny_done (by kernel_rfl) ?_ _
          go_wp2_with fail
          go_meet
          case rel => exact ⟨g7, rfl, rfl, (by omega), (by omega), v0, ((V0.mono bp).upd O0 u0 (by omega)), ((V5.mono bp).upd O0 u0 (by omega)), (Upd.below (hb1.trans (bp.mono hb1.size)) u0 (by omega))⟩
        · obtain ⟨g7, e_5, lg_5, hv_5⟩ := G 5 7 _ (by simp) rfl
          obtain ⟨x_2_0, x_2_1, e_2, n_2_0, rfl⟩ := G 2 21 _ (by simp) rfl
          have n_3 : (Sp.fq y).p wp (gp 3) := G 3 24 _ (by simp) rfl
          clear G Gs
          simp only [lTeUT8]
          simp only [qA, setD, qZ, qS, e_5, e_2]
          refine wpAny_takeD (i := 4) (d := some 25) (v := Value.int IntKind.i64 c) rfl rfl (by kernel_rfl) (by kernel_rfl) (by kernel_rfl) (fun _ _ _ h => h) (Or.inl ⟨by rfl, fun w => by rfl⟩) ?_
          try simp only [qP, qZ, qS]
          have T0 := hv_5
          refine wpAny_storeFr (j := 6) (by kernel_rfl) rfl rfl rfl rfl rfl n_3 T0.any ?_
          intro w0 u0 v0
          have O0 := T0.own
          refine wpAny_takeD (i := 7) (d := some 8) (v := Value.int IntKind.i64 c) rfl rfl (by kernel_rfl) (by kernel_rfl) (by kernel_rfl) (fun _ _ _ h => h) (Or.inl ⟨by rfl, fun w => by rfl⟩) ?_
          try simp only [qP, qZ, qS]
          refine wpAny_done (by kernel_rfl) ?_ _
          go_wp2_with fail
          go_meet
          case rel => exact ⟨g7, rfl, rfl, (by omega), (by omega), v0, ((V0.mono bp).upd O0 u0 (by omega)), ((V5.mono bp).upd O0 u0 (by omega)), (Upd.below (hb1.trans (bp.mono hb1.size)) u0 (by omega))⟩
      case rest =>
      clear V0 V5 hb1
      obtain ⟨g7, rfl, rfl, lg7, d4_0, V7, V0, V5, hb1⟩ := hcut
      go_upto_region 5 with (fail)
      go_cut [44] (fun s_44 wx => s_44 = Value.bool false ∧ VarFR wx w.heap.size s L p N q ∧ VarQ wx g5 y ∧ VarQ wx g7 y ∧ Below w.heap.size w wx)
      case first =>
        refine tF Try.f4 5 (lTeUT9 y c) [] 16 0 ?_ ?_
        · refine ⟨fun _ _ F => gR rfl rfl (arm_move (.inl rfl) (F.k 6 (Value.int IntKind.i64 c))).b, ?_⟩
          refine ⟨fun _ _ F => gR rfl rfl (arm_move (.inl rfl) (F.k 8 (Value.int IntKind.i64 c))).b, ?_⟩
          refine ⟨fun _ _ F => gR rfl rfl (arm_bin rfl (F.f 0 rfl) (F.f 1 rfl) (fun _ => rfl) (fun w => run_neJ _ _ w)).b, ?_⟩
          refine ⟨fun _ _ F => gR rfl rfl (arm_move (.inl rfl) (F.f 2 rfl)).b, ?_⟩
          refine ⟨fun _ _ F => gG F rfl rfl rfl rfl (arm_loadF rfl (F.k 5 (Value.pointer (some ⟨g5, 0, none⟩))) (V5.mono F.below)).b, ?_⟩
          refine ⟨fun _ _ F => gG F rfl rfl rfl rfl (arm_loadF rfl (F.k 7 (Value.pointer (some ⟨g7, 0, none⟩))) (V7.mono F.below)).b, ?_⟩
          refine ⟨fun _ _ F => gG F rfl rfl rfl rfl (arm_C2 rfl (enters Try.func16 rfl rfl) (F.f 4 rfl) (F.f 5 rfl) (fun va vb w h1 h2 => q_SameB va vb y y w h1 h2 (Nat.le_trans FO.out.1 (by decide)) (Nat.le_trans FO.out.2.1 (by decide)) (Nat.le_trans FO.out.1 (by decide)) (Nat.le_trans FO.out.2.1 (by decide))) (fun _ _ h => by have h' : RetV _ _ _ _ := h; rw [Fq.same_refl y] at h'; exact ofV h')).b, ?_⟩
          refine ⟨fun _ _ F => gG F rfl rfl rfl rfl (arm_not rfl (F.f 6 rfl)).b, ?_⟩
          refine ⟨fun _ _ F => gR rfl rfl (arm_pick rfl (F.f 3 rfl) (fun h => by cases h) (fun _ => (F.f 7 rfl))).b, ?_⟩
          refine ⟨fun _ _ F => gR rfl rfl (arm_move (.inl rfl) (F.f 8 rfl)).b, ?_⟩
          refine ⟨fun _ _ F => gG F rfl rfl rfl rfl (arm_move (.inl rfl) (F.k 6 (Value.int IntKind.i64 c))).b, ?_⟩
          refine ⟨fun _ _ F => gG F rfl rfl rfl rfl (arm_bin rfl (F.f 10 rfl) Is.const (fun _ => rfl) (fun w => by rw [HC.out]; rfl)).b, ?_⟩
          refine ⟨fun _ _ F => gG F rfl rfl rfl rfl (arm_move (.inl rfl) (F.f 11 rfl)).b, ?_⟩
          refine ⟨fun _ _ F => gS F rfl rfl rfl rfl rfl rfl, ?_⟩
          refine ⟨fun _ _ F => gS F rfl rfl rfl rfl rfl rfl, ?_⟩
          refine ⟨fun _ _ F => gS F rfl rfl rfl rfl rfl rfl, ?_⟩
          refine ⟨fun _ _ F => gS F rfl rfl rfl rfl rfl rfl, ?_⟩
          refine ⟨fun _ _ F => gG F rfl rfl rfl rfl (arm_pick rfl (F.f 12 rfl) (fun h => by cases h) (fun _ => Is.const)).b, ?_⟩
          refine ⟨fun _ _ F => gR rfl rfl (arm_pick rfl (F.f 9 rfl) (fun h => by cases h) (fun _ => (F.f 17 rfl))).b, ?_⟩
          exact trivial
        intro E' hE gp wp bp G Gs
        obtain rfl : E' = [] := by simpa [subs] using hE
        have e_18 : gp 18 = Value.bool false := G 18 44 _ (by simp) rfl
        clear G Gs hE
        simp only [lTeUT9]
        simp only [qA, setD, qZ, qS, e_18]
        refine wpAny_done (by kernel_rfl) ?_ _
        go_wp2_with fail
        go_meet
        case rel => exact ⟨rfl, (V0.mono bp), (V5.mono bp), (V7.mono bp), (hb1.trans (bp.mono hb1.size))⟩
      case rest =>
      clear V0 V5 V7 hb1
      obtain ⟨rfl, V0, V5, V7, hb1⟩ := hcut
      go_upto_region 7 with (fail)
      go_cut [47] (fun s_47 wx => s_47 = Value.bool true ∧ VarFR wx w.heap.size s L p N q ∧ VarQ wx g5 y ∧ VarQ wx g7 y ∧ Below w.heap.size w wx)
      case first =>
        refine tF Try.f4 7 (lTeUT10 s L p N q) [] 3 0 ?_ ?_
        · refine ⟨fun _ _ F => gR rfl rfl (arm_loadFR rfl (F.k 2 (Value.pointer (some ⟨w.heap.size, 0, none⟩))) (V0.mono F.below)).b, ?_⟩
          refine ⟨fun _ _ F => gR rfl rfl (arm_C1 rfl (enters Try.func18 rfl rfl) (F.f 0 rfl) (fun va w h1 => q_fitF va s L p N q w h1 hn) (fun _ _ h => ofV h)).b, ?_⟩
          refine ⟨fun _ _ F => gR rfl rfl (arm_not rfl (F.f 1 rfl)).b, ?_⟩
          exact trivial
        intro E' hE gp wp bp G Gs
        obtain rfl : E' = [] := by simpa [subs] using hE
        have e_2 : gp 2 = Value.bool true := G 2 47 _ (by simp) rfl
        clear G Gs hE
        simp only [lTeUT10]
        simp only [qA, setD, qZ, qS, e_2]
        refine wpAny_done (by kernel_rfl) ?_ _
        go_wp2_with fail
        go_meet
        case rel => exact ⟨rfl, (V0.mono bp), (V5.mono bp), (V7.mono bp), (hb1.trans (bp.mono hb1.size))⟩
      case rest =>
      clear V0 V5 V7 hb1
      obtain ⟨rfl, V0, V5, V7, hb1⟩ := hcut
      go_upto_region 8 with (fail)
      go_cut [4] (fun s_4 wx => s_4 = Value.bool true ∧ VarFR wx w.heap.size s L p N q ∧ VarQ wx g5 y ∧ VarQ wx g7 y ∧ Below w.heap.size w wx)
      case first =>
        refine tF Try.f4 8 (lTeUT11 ) [] 2 0 ?_ ?_
        · refine ⟨fun _ _ F => gR rfl rfl (arm_C0 rfl (enters Try.func11 rfl rfl)  (fun w => c_awake2 w) (fun _ _ h => ofV h)).b, ?_⟩
          refine ⟨fun _ _ F => gR rfl rfl (arm_move (.inr rfl) (F.f 0 rfl)).b, ?_⟩
          exact trivial
        intro E' hE gp wp bp G Gs
        obtain rfl : E' = [] := by simpa [subs] using hE
        have e_1 : gp 1 = Value.bool true := G 1 4 _ (by simp) rfl
        clear G Gs hE
        simp only [lTeUT11]
        simp only [qA, setD, qZ, qS, e_1]
        refine wpAny_done (by kernel_rfl) ?_ _
        go_wp2_with fail
        go_meet
        case rel => exact ⟨rfl, (V0.mono bp), (V5.mono bp), (V7.mono bp), (hb1.trans (bp.mono hb1.size))⟩
      case rest =>
      clear V0 V5 V7 hb1
      obtain ⟨rfl, V0, V5, V7, hb1⟩ := hcut
      go_wp2
      go_ret
      exact ⟨rfl, hb1⟩
  · have HS : Hid (true = decide (900 < (u.size : Int))) := Lib.hid (by symm; apply decide_eq_true; omega)
    clear hs
    obtain ⟨a0, c0, b0, d0, rfl, m0, k0⟩ := boxR ix
    clear ix
    go_enter Try.func4, Try.ntmps4
    go_upto_region 0 with (fail)
    go_cut [2, 4] (fun s_2 s_4 wx => s_2 = Value.pointer (some ⟨w.heap.size, 0, none⟩) ∧ s_4 = Value.bool false ∧ VarFR wx w.heap.size s L p N q ∧ Below w.heap.size w wx)
    case first =>
      go_wp2_with fail
      go_meet
      case rel => exact ⟨rfl, rfl, k0, m0⟩
    case rest =>
    clear m0 k0
    obtain ⟨rfl, rfl, V0, hb1⟩ := hcut
    go_upto_region 1 with (fail)
    go_cut [14] (fun s_14 wx => s_14 = Value.bool true ∧ VarFR wx w.heap.size s L p N q ∧ Below w.heap.size w wx)
    case first =>
      refine tF Try.f4 1 (lTeUT12 u) [] 3 0 ?_ ?_
      · refine ⟨fun _ _ F => gR rfl rfl (arm_move (.inl rfl) (F.k 1 (Value.string u))).b, ?_⟩
        refine ⟨fun _ _ F => gR rfl rfl (arm_lenStr rfl (F.f 0 rfl)).b, ?_⟩
        refine ⟨fun _ _ F => gR rfl rfl (arm_bin rfl (F.f 1 rfl) Is.const (fun _ => rfl) (fun w => by rw [HS.out]; rfl)).b, ?_⟩
        exact trivial
      intro E' hE gp wp bp G Gs
      obtain rfl : E' = [] := by simpa [subs] using hE
      have e_2 : gp 2 = Value.bool true := G 2 14 _ (by simp) rfl
      clear G Gs hE
      simp only [lTeUT12]
      simp only [qA, setD, qZ, qS, e_2]
      refine wpAny_done (by kernel_rfl) ?_ _
      go_wp2_with fail
      go_meet
      case rel => exact ⟨rfl, (V0.mono bp), (hb1.trans (bp.mono hb1.size))⟩
    case rest =>
    clear V0 hb1
    obtain ⟨rfl, V0, hb1⟩ := hcut
    go_upto_region 2 with (fail)
    go_cut [4] (fun s_4 wx => s_4 = Value.bool true ∧ VarFR wx w.heap.size s L p N q ∧ Below w.heap.size w wx)
    case first =>
      refine tF Try.f4 2 (lTeUT13 ) [] 2 0 ?_ ?_
      · refine ⟨fun _ _ F => gR rfl rfl (arm_C0 rfl (enters Try.func11 rfl rfl)  (fun w => c_awake2 w) (fun _ _ h => ofV h)).b, ?_⟩
        refine ⟨fun _ _ F => gR rfl rfl (arm_move (.inr rfl) (F.f 0 rfl)).b, ?_⟩
        exact trivial
      intro E' hE gp wp bp G Gs
      obtain rfl : E' = [] := by simpa [subs] using hE
      have e_1 : gp 1 = Value.bool true := G 1 4 _ (by simp) rfl
      clear G Gs hE
      simp only [lTeUT13]
      simp only [qA, setD, qZ, qS, e_1]
      refine wpAny_done (by kernel_rfl) ?_ _
      go_wp2_with fail
      go_meet
      case rel => exact ⟨rfl, (V0.mono bp), (hb1.trans (bp.mono hb1.size))⟩
    case rest =>
    clear V0 hb1
    obtain ⟨rfl, V0, hb1⟩ := hcut
    go_wp2
    go_ret
    exact ⟨rfl, hb1⟩
theorem c_FractionTexts (vx : Value) (s : Bool) (L p N q : Nat) (u : ByteArray) (w : World) (ix : IsFR w vx s L p N q) : Calls Try.prog 4 #[vx, .string u] w fun e w' => RetV w (.bool true) e w' := by
  by_cases hn : FitP s L p N q
  · obtain ⟨x, jx, hx, ex⟩ := FitP.split hn ix
    exact c_lTeT vx x u w jx hx ex
  · exact c_lTeU vx s L p N q u w ix hn
end Go.Proofs.Ytldnimohnbjfaaa
