/- fit; the law FractionValid. The plain law of fractions: what they stand for (rational numbers), and the laws of a field, of the order, of Lerp and of Floor. The law FractionFloors. What an argument of type api.Nat is: a row of digits. What an argument of type api.Frac is: a sign and two rows of digits. -/
import Derived.Test.YtldnimohnbjfaaaP14
import Derived.WalkKit
import Derived.ProofKit
import Derived.OpenShut
import Derived.ShutString
import Derived.ChangeOld
import Derived.Below
import Derived.Deep.Strs
namespace Go.Proofs.Ytldnimohnbjfaaa
set_option linter.unusedSimpArgs false
set_option linter.unusedVariables false
set_option maxRecDepth 100000
open Go.RowKit
def q_fitTT0 (w : World) (s : Bool) (L : Nat) (p : Nat) (N : Nat) (q : Nat) : List (Nat × Tmp × Sp) :=
   [(0, 3, .val (Value.pointer (some ⟨w.heap.size, 1, none⟩))),
    (1, 4, .val (Value.pointer (some ⟨w.heap.size, 1, none⟩))),
    (2, 5, .sl L),
    (3, 6, .val (Value.int IntKind.i64 (L : Int))),
    (4, 7, .val (Value.bool true)),
    (5, 8, .val (Value.bool true)),
    (6, 9, .val (Value.pointer (some ⟨w.heap.size, 2, none⟩))),
    (7, 10, .val (Value.pointer (some ⟨w.heap.size, 2, none⟩))),
    (8, 11, .sl N),
    (9, 12, .val (Value.int IntKind.i64 (N : Int))),
    (10, 13, .val (Value.bool true)),
    (11, 14, .val (Value.bool true)),
    (12, 15, .val (Value.bool true)),
    (13, 16, .frR s L p N q),
    (14, 17, .val (Value.bool true)),
    (15, 18, .val (Value.bool true)),
    (16, 2, .val (Value.bool true))]
set_option maxHeartbeats 4000000 in
theorem q_fitT (va : Value) (s : Bool) (L p N q : Nat) (w : World) (ha : IsFR w va s L p N q) (h : FitP s L p N q) :
    Calls Try.prog 18 #[va] w fun e w' => RetV w (.bool true) e w' := by
  obtain ⟨h1, h2, h3, h4, h5⟩ := h
  have HL : Hid (true = decide ((L : Int) ≤ 12)) := Lib.hid (by symm; apply decide_eq_true; omega)
  have HN : Hid (true = decide ((N : Int) ≤ 12)) := Lib.hid (by symm; apply decide_eq_true; omega)
  have bp : nl p ≤ 1000000 := by omega
  have bq : nl q ≤ 1000000 := by omega
  have H3 := Lib.hid h3
  have H4 := Lib.hid h4
  clear h1 h2 h3 h4
  obtain ⟨a0, c0, b0, d0, rfl, m0, k0⟩ := boxR ha
  clear ha
  go_enter Try.func18, Try.ntmps18
  go_upto_region 0 with (fail)
  go_cut [1, 2] (fun s_1 s_2 wx => s_1 = Value.pointer (some ⟨w.heap.size, 0, none⟩) ∧ s_2 = Value.bool false ∧ VarFR wx w.heap.size s L p N q ∧ Below w.heap.size w wx)
  case first =>
    go_wp2_with fail
    go_meet
    case rel => exact ⟨rfl, rfl, k0, m0⟩
  case rest =>
  clear m0 k0
  obtain ⟨rfl, rfl, V0, hb1⟩ := hcut
  go_upto_region 1 with (fail)
  go_cut [2] (fun s_2 wx => s_2 = Value.bool true ∧ VarFR wx w.heap.size s L p N q ∧ Below w.heap.size w wx)
  case first =>
    refine wp_tabGF Try.f18 1 (q_fitTT0 w s L p N q) [] (fun _ => false) 17 0 (by kernel_rfl) (by kernel_rfl) (by kernel_rfl) (by kernel_rfl) (by kernel_rfl) (EachX.of_all (fun _ h => by cases h) _) ?_ ?_
    · refine ⟨fun a' w' F => StepG.run rfl (wanted_none rfl) (arm_fieldF rfl (F.keep 1 (Value.pointer (some ⟨w.heap.size, 0, none⟩)) (by kernel_rfl) rfl).is (run_field1 _)).b, ?_⟩
      refine ⟨fun a' w' F => StepG.run rfl (wanted_none rfl) (arm_fieldN rfl (F.at' 0 3 _ rfl (by kernel_rfl)).is).b, ?_⟩
      refine ⟨fun a' w' F => StepG.run rfl (wanted_none rfl) (arm_loadW1 rfl (F.at' 1 4 _ rfl (by kernel_rfl)).is (V0.mono F.below)).b, ?_⟩
      refine ⟨fun a' w' F => StepG.run rfl (wanted_none rfl) (arm_lenW rfl (F.at' 2 5 _ rfl (by kernel_rfl)).is).b, ?_⟩
      refine ⟨fun a' w' F => StepG.run rfl (wanted_none rfl) (arm_bin rfl (F.at' 3 6 _ rfl (by kernel_rfl)).is Is.const (fun _ => rfl) (fun w => by rw [HL.out]; rfl)).b, ?_⟩
      refine ⟨fun a' w' F => StepG.run rfl (wanted_none rfl) (arm_move (.inl rfl) (F.at' 4 7 _ rfl (by kernel_rfl)).is).b, ?_⟩
      refine ⟨fun a' w' F => StepG.run rfl (wanted_some rfl rfl (F.at' 5 8 _ rfl (by kernel_rfl))) (arm_fieldF rfl (F.keep 1 (Value.pointer (some ⟨w.heap.size, 0, none⟩)) (by kernel_rfl) rfl).is (run_field2 _)).b, ?_⟩
      refine ⟨fun a' w' F => StepG.run rfl (wanted_some rfl rfl (F.at' 5 8 _ rfl (by kernel_rfl))) (arm_fieldN rfl (F.at' 6 9 _ rfl (by kernel_rfl)).is).b, ?_⟩
      refine ⟨fun a' w' F => StepG.run rfl (wanted_some rfl rfl (F.at' 5 8 _ rfl (by kernel_rfl))) (arm_loadW2 rfl (F.at' 7 10 _ rfl (by kernel_rfl)).is (V0.mono F.below)).b, ?_⟩
      refine ⟨fun a' w' F => StepG.run rfl (wanted_some rfl rfl (F.at' 5 8 _ rfl (by kernel_rfl))) (arm_lenW rfl (F.at' 8 11 _ rfl (by kernel_rfl)).is).b, ?_⟩
      refine ⟨fun a' w' F => StepG.run rfl (wanted_some rfl rfl (F.at' 5 8 _ rfl (by kernel_rfl))) (arm_bin rfl (F.at' 9 12 _ rfl (by kernel_rfl)).is Is.const (fun _ => rfl) (fun w => by rw [HN.out]; rfl)).b, ?_⟩
      refine ⟨fun a' w' F => StepG.run rfl (wanted_none rfl) (arm_pick rfl (F.at' 5 8 _ rfl (by kernel_rfl)).is (fun _ => (F.at' 10 13 _ rfl (by kernel_rfl)).is) (fun h => by cases h)).b, ?_⟩
      refine ⟨fun a' w' F => StepG.run rfl (wanted_none rfl) (arm_move (.inl rfl) (F.at' 11 14 _ rfl (by kernel_rfl)).is).b, ?_⟩
      refine ⟨fun a' w' F => StepG.run rfl (wanted_some rfl rfl (F.at' 12 15 _ rfl (by kernel_rfl))) (arm_loadFR rfl (F.keep 1 (Value.pointer (some ⟨w.heap.size, 0, none⟩)) (by kernel_rfl) rfl).is (V0.mono F.below)).b, ?_⟩
      refine ⟨fun a' w' F => StepG.run rfl (wanted_some rfl rfl (F.at' 12 15 _ rfl (by kernel_rfl))) (arm_C1 rfl (enters Try.func13 rfl rfl) (F.at' 13 16 _ rfl (by kernel_rfl)).is (fun va w h1 => q_rValid va (Fq.mk s p q) w (IsFR.isQ h1 H3.out H4.out) bp bq) (fun _ _ h => by have h' : RetV _ _ _ _ := h; rw [h5] at h'; exact ofV h')).b, ?_⟩
      refine ⟨fun a' w' F => StepG.run rfl (wanted_none rfl) (arm_pick rfl (F.at' 12 15 _ rfl (by kernel_rfl)).is (fun _ => (F.at' 14 17 _ rfl (by kernel_rfl)).is) (fun h => by cases h)).b, ?_⟩
      refine ⟨fun a' w' F => StepG.run rfl (wanted_none rfl) (arm_move (.inr rfl) (F.at' 15 18 _ rfl (by kernel_rfl)).is).b, ?_⟩
      exact trivial
    intro E' hE gp wp bp G Gs
    obtain rfl : E' = [] := by simpa [subs] using hE
    have e_16 : gp 16 = Value.bool true := G 16 2 _ (by simp) rfl
    clear G Gs hE
    simp only [q_fitTT0]
    simp only [putD, entries, List.map_cons, List.map_nil, List.foldl_cons, List.foldl_nil, Act.put, List.setIfInBounds_toArray, List.set_cons_zero, List.set_cons_succ, e_16]
    refine wpAny_done (by kernel_rfl) ?_ _
    go_wp2_with fail
    go_meet
    case rel => exact ⟨rfl, (V0.mono bp), (hb1.trans (bp.mono hb1.size))⟩
  case rest =>
  clear V0 hb1
  obtain ⟨rfl, V0, hb1⟩ := hcut
  go_wp2
  go_ret
  exact ⟨rfl, hb1⟩
def q_fitFT0 (w : World) (s : Bool) (L : Nat) (p : Nat) (N : Nat) (q : Nat) : List (Nat × Tmp × Sp) :=
   [(0, 3, .val (Value.pointer (some ⟨w.heap.size, 1, none⟩))),
    (1, 4, .val (Value.pointer (some ⟨w.heap.size, 1, none⟩))),
    (2, 5, .sl L),
    (3, 6, .val (Value.int IntKind.i64 (L : Int))),
    (4, 7, .val (Value.bool true)),
    (5, 8, .val (Value.bool true)),
    (6, 9, .val (Value.pointer (some ⟨w.heap.size, 2, none⟩))),
    (7, 10, .val (Value.pointer (some ⟨w.heap.size, 2, none⟩))),
    (8, 11, .sl N),
    (9, 12, .val (Value.int IntKind.i64 (N : Int))),
    (10, 13, .val (Value.bool true)),
    (11, 14, .val (Value.bool true)),
    (12, 15, .val (Value.bool true)),
    (13, 16, .frR s L p N q),
    (14, 17, .val (Value.bool false)),
    (15, 18, .val (Value.bool false)),
    (16, 2, .val (Value.bool false))]
def q_fitFT1 (w : World) (s : Bool) (L : Nat) (p : Nat) (N : Nat) (q : Nat) : List (Nat × Tmp × Sp) :=
   [(0, 3, .val (Value.pointer (some ⟨w.heap.size, 1, none⟩))),
    (1, 4, .val (Value.pointer (some ⟨w.heap.size, 1, none⟩))),
    (2, 5, .sl L),
    (3, 6, .val (Value.int IntKind.i64 (L : Int))),
    (4, 7, .val (Value.bool true)),
    (5, 8, .val (Value.bool true)),
    (6, 9, .val (Value.pointer (some ⟨w.heap.size, 2, none⟩))),
    (7, 10, .val (Value.pointer (some ⟨w.heap.size, 2, none⟩))),
    (8, 11, .sl N),
    (9, 12, .val (Value.int IntKind.i64 (N : Int))),
    (10, 13, .val (Value.bool true)),
    (11, 14, .val (Value.bool true)),
    (12, 15, .val (Value.bool true)),
    (13, 16, .frR s L p N q),
    (14, 17, .val (Value.bool false)),
    (15, 18, .val (Value.bool false)),
    (16, 2, .val (Value.bool false))]
def q_fitFT2 (w : World) (L : Nat) (N : Nat) : List (Nat × Tmp × Sp) :=
   [(0, 3, .val (Value.pointer (some ⟨w.heap.size, 1, none⟩))),
    (1, 4, .val (Value.pointer (some ⟨w.heap.size, 1, none⟩))),
    (2, 5, .sl L),
    (3, 6, .val (Value.int IntKind.i64 (L : Int))),
    (4, 7, .val (Value.bool true)),
    (5, 8, .val (Value.bool true)),
    (6, 9, .val (Value.pointer (some ⟨w.heap.size, 2, none⟩))),
    (7, 10, .val (Value.pointer (some ⟨w.heap.size, 2, none⟩))),
    (8, 11, .sl N),
    (9, 12, .val (Value.int IntKind.i64 (N : Int))),
    (10, 13, .val (Value.bool false)),
    (11, 14, .val (Value.bool false)),
    (12, 15, .val (Value.bool false)),
    (13, 16, .val undef),
    (14, 17, .val undef),
    (15, 18, .val (Value.bool false)),
    (16, 2, .val (Value.bool false))]
def q_fitFT3 (w : World) (L : Nat) : List (Nat × Tmp × Sp) :=
   [(0, 3, .val (Value.pointer (some ⟨w.heap.size, 1, none⟩))),
    (1, 4, .val (Value.pointer (some ⟨w.heap.size, 1, none⟩))),
    (2, 5, .sl L),
    (3, 6, .val (Value.int IntKind.i64 (L : Int))),
    (4, 7, .val (Value.bool false)),
    (5, 8, .val (Value.bool false)),
    (6, 9, .val undef),
    (7, 10, .val undef),
    (8, 11, .val undef),
    (9, 12, .val undef),
    (10, 13, .val undef),
    (11, 14, .val (Value.bool false)),
    (12, 15, .val (Value.bool false)),
    (13, 16, .val undef),
    (14, 17, .val undef),
    (15, 18, .val (Value.bool false)),
    (16, 2, .val (Value.bool false))]
set_option maxHeartbeats 4000000 in
theorem q_fitF (va : Value) (s : Bool) (L p N q : Nat) (w : World) (ha : IsFR w va s L p N q) (h : ¬ FitP s L p N q) :
    Calls Try.prog 18 #[va] w fun e w' => RetV w (.bool false) e w' := by
  by_cases h1 : L ≤ 12
  · have HL : Hid (true = decide ((L : Int) ≤ 12)) := Lib.hid (by symm; apply decide_eq_true; omega)
    by_cases h2 : N ≤ 12
    · have HN : Hid (true = decide ((N : Int) ≤ 12)) := Lib.hid (by symm; apply decide_eq_true; omega)
      by_cases h3 : nl p = L ∧ nl q = N
      · obtain ⟨h3, h4⟩ := h3
        have h5 : (Fq.mk s p q).valid = false := Bool.eq_false_iff.2 (fun h6 => h ⟨h1, h2, h3, h4, h6⟩)
        have bp : nl p ≤ 1000000 := by omega
        have bq : nl q ≤ 1000000 := by omega
        have H3 := Lib.hid h3
        have H4 := Lib.hid h4
        clear h h1 h2 h3 h4
        obtain ⟨a0, c0, b0, d0, rfl, m0, k0⟩ := boxR ha
        clear ha
        go_enter Try.func18, Try.ntmps18
        go_upto_region 0 with (fail)
        go_cut [1, 2] (fun s_1 s_2 wx => s_1 = Value.pointer (some ⟨w.heap.size, 0, none⟩) ∧ s_2 = Value.bool false ∧ VarFR wx w.heap.size s L p N q ∧ Below w.heap.size w wx)
        case first =>
          go_wp2_with fail
          go_meet
          case rel => exact ⟨rfl, rfl, k0, m0⟩
        case rest =>
        clear m0 k0
        obtain ⟨rfl, rfl, V0, hb1⟩ := hcut
        go_upto_region 1 with (fail)
        go_cut [2] (fun s_2 wx => s_2 = Value.bool false ∧ VarFR wx w.heap.size s L p N q ∧ Below w.heap.size w wx)
        case first =>
          refine wp_tabGF Try.f18 1 (q_fitFT0 w s L p N q) [] (fun _ => false) 17 0 (by kernel_rfl) (by kernel_rfl) (by kernel_rfl) (by kernel_rfl) (by kernel_rfl) (EachX.of_all (fun _ h => by cases h) _) ?_ ?_
          · refine ⟨fun a' w' F => StepG.run rfl (wanted_none rfl) (arm_fieldF rfl (F.keep 1 (Value.pointer (some ⟨w.heap.size, 0, none⟩)) (by kernel_rfl) rfl).is (run_field1 _)).b, ?_⟩
            refine ⟨fun a' w' F => StepG.run rfl (wanted_none rfl) (arm_fieldN rfl (F.at' 0 3 _ rfl (by kernel_rfl)).is).b, ?_⟩
            refine ⟨fun a' w' F => StepG.run rfl (wanted_none rfl) (arm_loadW1 rfl (F.at' 1 4 _ rfl (by kernel_rfl)).is (V0.mono F.below)).b, ?_⟩
            refine ⟨fun a' w' F => StepG.run rfl (wanted_none rfl) (arm_lenW rfl (F.at' 2 5 _ rfl (by kernel_rfl)).is).b, ?_⟩
            refine ⟨fun a' w' F => StepG.run rfl (wanted_none rfl) (arm_bin rfl (F.at' 3 6 _ rfl (by kernel_rfl)).is Is.const (fun _ => rfl) (fun w => by rw [HL.out]; rfl)).b, ?_⟩
            refine ⟨fun a' w' F => StepG.run rfl (wanted_none rfl) (arm_move (.inl rfl) (F.at' 4 7 _ rfl (by kernel_rfl)).is).b, ?_⟩
            refine ⟨fun a' w' F => StepG.run rfl (wanted_some rfl rfl (F.at' 5 8 _ rfl (by kernel_rfl))) (arm_fieldF rfl (F.keep 1 (Value.pointer (some ⟨w.heap.size, 0, none⟩)) (by kernel_rfl) rfl).is (run_field2 _)).b, ?_⟩
            refine ⟨fun a' w' F => StepG.run rfl (wanted_some rfl rfl (F.at' 5 8 _ rfl (by kernel_rfl))) (arm_fieldN rfl (F.at' 6 9 _ rfl (by kernel_rfl)).is).b, ?_⟩
            refine ⟨fun a' w' F => StepG.run rfl (wanted_some rfl rfl (F.at' 5 8 _ rfl (by kernel_rfl))) (arm_loadW2 rfl (F.at' 7 10 _ rfl (by kernel_rfl)).is (V0.mono F.below)).b, ?_⟩
            refine ⟨fun a' w' F => StepG.run rfl (wanted_some rfl rfl (F.at' 5 8 _ rfl (by kernel_rfl))) (arm_lenW rfl (F.at' 8 11 _ rfl (by kernel_rfl)).is).b, ?_⟩
            refine ⟨fun a' w' F => StepG.run rfl (wanted_some rfl rfl (F.at' 5 8 _ rfl (by kernel_rfl))) (arm_bin rfl (F.at' 9 12 _ rfl (by kernel_rfl)).is Is.const (fun _ => rfl) (fun w => by rw [HN.out]; rfl)).b, ?_⟩
            refine ⟨fun a' w' F => StepG.run rfl (wanted_none rfl) (arm_pick rfl (F.at' 5 8 _ rfl (by kernel_rfl)).is (fun _ => (F.at' 10 13 _ rfl (by kernel_rfl)).is) (fun h => by cases h)).b, ?_⟩
            refine ⟨fun a' w' F => StepG.run rfl (wanted_none rfl) (arm_move (.inl rfl) (F.at' 11 14 _ rfl (by kernel_rfl)).is).b, ?_⟩
            refine ⟨fun a' w' F => StepG.run rfl (wanted_some rfl rfl (F.at' 12 15 _ rfl (by kernel_rfl))) (arm_loadFR rfl (F.keep 1 (Value.pointer (some ⟨w.heap.size, 0, none⟩)) (by kernel_rfl) rfl).is (V0.mono F.below)).b, ?_⟩
            refine ⟨fun a' w' F => StepG.run rfl (wanted_some rfl rfl (F.at' 12 15 _ rfl (by kernel_rfl))) (arm_C1 rfl (enters Try.func13 rfl rfl) (F.at' 13 16 _ rfl (by kernel_rfl)).is (fun va w h1 => q_rValid va (Fq.mk s p q) w (IsFR.isQ h1 H3.out H4.out) bp bq) (fun _ _ h => by have h' : RetV _ _ _ _ := h; rw [h5] at h'; exact ofV h')).b, ?_⟩
            refine ⟨fun a' w' F => StepG.run rfl (wanted_none rfl) (arm_pick rfl (F.at' 12 15 _ rfl (by kernel_rfl)).is (fun _ => (F.at' 14 17 _ rfl (by kernel_rfl)).is) (fun h => by cases h)).b, ?_⟩
            refine ⟨fun a' w' F => StepG.run rfl (wanted_none rfl) (arm_move (.inr rfl) (F.at' 15 18 _ rfl (by kernel_rfl)).is).b, ?_⟩
            exact trivial
          intro E' hE gp wp bp G Gs
          obtain rfl : E' = [] := by simpa [subs] using hE
          have e_16 : gp 16 = Value.bool false := G 16 2 _ (by simp) rfl
          clear G Gs hE
          simp only [q_fitFT0]
          simp only [putD, entries, List.map_cons, List.map_nil, List.foldl_cons, List.foldl_nil, Act.put, List.setIfInBounds_toArray, List.set_cons_zero, List.set_cons_succ, e_16]
          refine wpAny_done (by kernel_rfl) ?_ _
          go_wp2_with fail
          go_meet
          case rel => exact ⟨rfl, (V0.mono bp), (hb1.trans (bp.mono hb1.size))⟩
        case rest =>
        clear V0 hb1
        obtain ⟨rfl, V0, hb1⟩ := hcut
        go_wp2
        go_ret
        exact ⟨rfl, hb1⟩
      · have hl : L ≤ 1000000 := by omega
        have hn : N ≤ 1000000 := by omega
        have H3 := Lib.hid h3
        clear h h1 h2 h3
        obtain ⟨a0, c0, b0, d0, rfl, m0, k0⟩ := boxR ha
        clear ha
        go_enter Try.func18, Try.ntmps18
        go_upto_region 0 with (fail)
        go_cut [1, 2] (fun s_1 s_2 wx => s_1 = Value.pointer (some ⟨w.heap.size, 0, none⟩) ∧ s_2 = Value.bool false ∧ VarFR wx w.heap.size s L p N q ∧ Below w.heap.size w wx)
        case first =>
          go_wp2_with fail
          go_meet
          case rel => exact ⟨rfl, rfl, k0, m0⟩
        case rest =>
        clear m0 k0
        obtain ⟨rfl, rfl, V0, hb1⟩ := hcut
        go_upto_region 1 with (fail)
        go_cut [2] (fun s_2 wx => s_2 = Value.bool false ∧ VarFR wx w.heap.size s L p N q ∧ Below w.heap.size w wx)
        case first =>
          refine wp_tabGF Try.f18 1 (q_fitFT1 w s L p N q) [] (fun _ => false) 17 0 (by kernel_rfl) (by kernel_rfl) (by kernel_rfl) (by kernel_rfl) (by kernel_rfl) (EachX.of_all (fun _ h => by cases h) _) ?_ ?_
          · refine ⟨fun a' w' F => StepG.run rfl (wanted_none rfl) (arm_fieldF rfl (F.keep 1 (Value.pointer (some ⟨w.heap.size, 0, none⟩)) (by kernel_rfl) rfl).is (run_field1 _)).b, ?_⟩
            refine ⟨fun a' w' F => StepG.run rfl (wanted_none rfl) (arm_fieldN rfl (F.at' 0 3 _ rfl (by kernel_rfl)).is).b, ?_⟩
            refine ⟨fun a' w' F => StepG.run rfl (wanted_none rfl) (arm_loadW1 rfl (F.at' 1 4 _ rfl (by kernel_rfl)).is (V0.mono F.below)).b, ?_⟩
            refine ⟨fun a' w' F => StepG.run rfl (wanted_none rfl) (arm_lenW rfl (F.at' 2 5 _ rfl (by kernel_rfl)).is).b, ?_⟩
            refine ⟨fun a' w' F => StepG.run rfl (wanted_none rfl) (arm_bin rfl (F.at' 3 6 _ rfl (by kernel_rfl)).is Is.const (fun _ => rfl) (fun w => by rw [HL.out]; rfl)).b, ?_⟩
            refine ⟨fun a' w' F => StepG.run rfl (wanted_none rfl) (arm_move (.inl rfl) (F.at' 4 7 _ rfl (by kernel_rfl)).is).b, ?_⟩
            refine ⟨fun a' w' F => StepG.run rfl (wanted_some rfl rfl (F.at' 5 8 _ rfl (by kernel_rfl))) (arm_fieldF rfl (F.keep 1 (Value.pointer (some ⟨w.heap.size, 0, none⟩)) (by kernel_rfl) rfl).is (run_field2 _)).b, ?_⟩
            refine ⟨fun a' w' F => StepG.run rfl (wanted_some rfl rfl (F.at' 5 8 _ rfl (by kernel_rfl))) (arm_fieldN rfl (F.at' 6 9 _ rfl (by kernel_rfl)).is).b, ?_⟩
            refine ⟨fun a' w' F => StepG.run rfl (wanted_some rfl rfl (F.at' 5 8 _ rfl (by kernel_rfl))) (arm_loadW2 rfl (F.at' 7 10 _ rfl (by kernel_rfl)).is (V0.mono F.below)).b, ?_⟩
            refine ⟨fun a' w' F => StepG.run rfl (wanted_some rfl rfl (F.at' 5 8 _ rfl (by kernel_rfl))) (arm_lenW rfl (F.at' 8 11 _ rfl (by kernel_rfl)).is).b, ?_⟩
            refine ⟨fun a' w' F => StepG.run rfl (wanted_some rfl rfl (F.at' 5 8 _ rfl (by kernel_rfl))) (arm_bin rfl (F.at' 9 12 _ rfl (by kernel_rfl)).is Is.const (fun _ => rfl) (fun w => by rw [HN.out]; rfl)).b, ?_⟩
            refine ⟨fun a' w' F => StepG.run rfl (wanted_none rfl) (arm_pick rfl (F.at' 5 8 _ rfl (by kernel_rfl)).is (fun _ => (F.at' 10 13 _ rfl (by kernel_rfl)).is) (fun h => by cases h)).b, ?_⟩
            refine ⟨fun a' w' F => StepG.run rfl (wanted_none rfl) (arm_move (.inl rfl) (F.at' 11 14 _ rfl (by kernel_rfl)).is).b, ?_⟩
            refine ⟨fun a' w' F => StepG.run rfl (wanted_some rfl rfl (F.at' 12 15 _ rfl (by kernel_rfl))) (arm_loadFR rfl (F.keep 1 (Value.pointer (some ⟨w.heap.size, 0, none⟩)) (by kernel_rfl) rfl).is (V0.mono F.below)).b, ?_⟩
            refine ⟨fun a' w' F => StepG.run rfl (wanted_some rfl rfl (F.at' 12 15 _ rfl (by kernel_rfl))) (arm_C1 rfl (enters Try.func13 rfl rfl) (F.at' 13 16 _ rfl (by kernel_rfl)).is (fun va w h1 => q_rValidR va s L p N q w h1 hl hn H3.out) (fun _ _ h => ofV h)).b, ?_⟩
            refine ⟨fun a' w' F => StepG.run rfl (wanted_none rfl) (arm_pick rfl (F.at' 12 15 _ rfl (by kernel_rfl)).is (fun _ => (F.at' 14 17 _ rfl (by kernel_rfl)).is) (fun h => by cases h)).b, ?_⟩
            refine ⟨fun a' w' F => StepG.run rfl (wanted_none rfl) (arm_move (.inr rfl) (F.at' 15 18 _ rfl (by kernel_rfl)).is).b, ?_⟩
            exact trivial
          intro E' hE gp wp bp G Gs
          obtain rfl : E' = [] := by simpa [subs] using hE
          have e_16 : gp 16 = Value.bool false := G 16 2 _ (by simp) rfl
          clear G Gs hE
          simp only [q_fitFT1]
          simp only [putD, entries, List.map_cons, List.map_nil, List.foldl_cons, List.foldl_nil, Act.put, List.setIfInBounds_toArray, List.set_cons_zero, List.set_cons_succ, e_16]
          refine wpAny_done (by kernel_rfl) ?_ _
          go_wp2_with fail
          go_meet
          case rel => exact ⟨rfl, (V0.mono bp), (hb1.trans (bp.mono hb1.size))⟩
        case rest =>
        clear V0 hb1
        obtain ⟨rfl, V0, hb1⟩ := hcut
        go_wp2
        go_ret
        exact ⟨rfl, hb1⟩
    · have HN : Hid (false = decide ((N : Int) ≤ 12)) := Lib.hid (by symm; apply decide_eq_false; omega)
      clear h h1 h2
      obtain ⟨a0, c0, b0, d0, rfl, m0, k0⟩ := boxR ha
      clear ha
      go_enter Try.func18, Try.ntmps18
      go_upto_region 0 with (fail)
      go_cut [1, 2] (fun s_1 s_2 wx => s_1 = Value.pointer (some ⟨w.heap.size, 0, none⟩) ∧ s_2 = Value.bool false ∧ VarFR wx w.heap.size s L p N q ∧ Below w.heap.size w wx)
      case first =>
        go_wp2_with fail
        go_meet
        case rel => exact ⟨rfl, rfl, k0, m0⟩
      case rest =>
      clear m0 k0
      obtain ⟨rfl, rfl, V0, hb1⟩ := hcut
      go_upto_region 1 with (fail)
      go_cut [2] (fun s_2 wx => s_2 = Value.bool false ∧ VarFR wx w.heap.size s L p N q ∧ Below w.heap.size w wx)
      case first =>
        refine wp_tabGF Try.f18 1 (q_fitFT2 w L N) [] (fun _ => false) 17 0 (by kernel_rfl) (by kernel_rfl) (by kernel_rfl) (by kernel_rfl) (by kernel_rfl) (EachX.of_all (fun _ h => by cases h) _) ?_ ?_
        · refine ⟨fun a' w' F => StepG.run rfl (wanted_none rfl) (arm_fieldF rfl (F.keep 1 (Value.pointer (some ⟨w.heap.size, 0, none⟩)) (by kernel_rfl) rfl).is (run_field1 _)).b, ?_⟩
          refine ⟨fun a' w' F => StepG.run rfl (wanted_none rfl) (arm_fieldN rfl (F.at' 0 3 _ rfl (by kernel_rfl)).is).b, ?_⟩
          refine ⟨fun a' w' F => StepG.run rfl (wanted_none rfl) (arm_loadW1 rfl (F.at' 1 4 _ rfl (by kernel_rfl)).is (V0.mono F.below)).b, ?_⟩
          refine ⟨fun a' w' F => StepG.run rfl (wanted_none rfl) (arm_lenW rfl (F.at' 2 5 _ rfl (by kernel_rfl)).is).b, ?_⟩
          refine ⟨fun a' w' F => StepG.run rfl (wanted_none rfl) (arm_bin rfl (F.at' 3 6 _ rfl (by kernel_rfl)).is Is.const (fun _ => rfl) (fun w => by rw [HL.out]; rfl)).b, ?_⟩
          refine ⟨fun a' w' F => StepG.run rfl (wanted_none rfl) (arm_move (.inl rfl) (F.at' 4 7 _ rfl (by kernel_rfl)).is).b, ?_⟩
          refine ⟨fun a' w' F => StepG.run rfl (wanted_some rfl rfl (F.at' 5 8 _ rfl (by kernel_rfl))) (arm_fieldF rfl (F.keep 1 (Value.pointer (some ⟨w.heap.size, 0, none⟩)) (by kernel_rfl) rfl).is (run_field2 _)).b, ?_⟩
          refine ⟨fun a' w' F => StepG.run rfl (wanted_some rfl rfl (F.at' 5 8 _ rfl (by kernel_rfl))) (arm_fieldN rfl (F.at' 6 9 _ rfl (by kernel_rfl)).is).b, ?_⟩
          refine ⟨fun a' w' F => StepG.run rfl (wanted_some rfl rfl (F.at' 5 8 _ rfl (by kernel_rfl))) (arm_loadW2 rfl (F.at' 7 10 _ rfl (by kernel_rfl)).is (V0.mono F.below)).b, ?_⟩
          refine ⟨fun a' w' F => StepG.run rfl (wanted_some rfl rfl (F.at' 5 8 _ rfl (by kernel_rfl))) (arm_lenW rfl (F.at' 8 11 _ rfl (by kernel_rfl)).is).b, ?_⟩
          refine ⟨fun a' w' F => StepG.run rfl (wanted_some rfl rfl (F.at' 5 8 _ rfl (by kernel_rfl))) (arm_bin rfl (F.at' 9 12 _ rfl (by kernel_rfl)).is Is.const (fun _ => rfl) (fun w => by rw [HN.out]; rfl)).b, ?_⟩
          refine ⟨fun a' w' F => StepG.run rfl (wanted_none rfl) (arm_pick rfl (F.at' 5 8 _ rfl (by kernel_rfl)).is (fun _ => (F.at' 10 13 _ rfl (by kernel_rfl)).is) (fun h => by cases h)).b, ?_⟩
          refine ⟨fun a' w' F => StepG.run rfl (wanted_none rfl) (arm_move (.inl rfl) (F.at' 11 14 _ rfl (by kernel_rfl)).is).b, ?_⟩
          refine ⟨fun a' w' F => StepG.skip rfl (unwanted rfl rfl (F.at' 12 15 _ rfl (by kernel_rfl)) rfl) rfl, ?_⟩
          refine ⟨fun a' w' F => StepG.skip rfl (unwanted rfl rfl (F.at' 12 15 _ rfl (by kernel_rfl)) rfl) rfl, ?_⟩
          refine ⟨fun a' w' F => StepG.run rfl (wanted_none rfl) (arm_pick rfl (F.at' 12 15 _ rfl (by kernel_rfl)).is (fun h => by cases h) (fun _ => Is.const)).b, ?_⟩
          refine ⟨fun a' w' F => StepG.run rfl (wanted_none rfl) (arm_move (.inr rfl) (F.at' 15 18 _ rfl (by kernel_rfl)).is).b, ?_⟩
          exact trivial
        intro E' hE gp wp bp G Gs
        obtain rfl : E' = [] := by simpa [subs] using hE
        have e_16 : gp 16 = Value.bool false := G 16 2 _ (by simp) rfl
        clear G Gs hE
        simp only [q_fitFT2]
        simp only [putD, entries, List.map_cons, List.map_nil, List.foldl_cons, List.foldl_nil, Act.put, List.setIfInBounds_toArray, List.set_cons_zero, List.set_cons_succ, e_16]
        refine wpAny_done (by kernel_rfl) ?_ _
        go_wp2_with fail
        go_meet
        case rel => exact ⟨rfl, (V0.mono bp), (hb1.trans (bp.mono hb1.size))⟩
      case rest =>
      clear V0 hb1
      obtain ⟨rfl, V0, hb1⟩ := hcut
      go_wp2
      go_ret
      exact ⟨rfl, hb1⟩
  · have HL : Hid (false = decide ((L : Int) ≤ 12)) := Lib.hid (by symm; apply decide_eq_false; omega)
    clear h h1
    obtain ⟨a0, c0, b0, d0, rfl, m0, k0⟩ := boxR ha
    clear ha
    go_enter Try.func18, Try.ntmps18
    go_upto_region 0 with (fail)
    go_cut [1, 2] (fun s_1 s_2 wx => s_1 = Value.pointer (some ⟨w.heap.size, 0, none⟩) ∧ s_2 = Value.bool false ∧ VarFR wx w.heap.size s L p N q ∧ Below w.heap.size w wx)
    case first =>
      go_wp2_with fail
      go_meet
      case rel => exact ⟨rfl, rfl, k0, m0⟩
    case rest =>
    clear m0 k0
    obtain ⟨rfl, rfl, V0, hb1⟩ := hcut
    go_upto_region 1 with (fail)
    go_cut [2] (fun s_2 wx => s_2 = Value.bool false ∧ VarFR wx w.heap.size s L p N q ∧ Below w.heap.size w wx)
    case first =>
      refine wp_tabGF Try.f18 1 (q_fitFT3 w L) [] (fun _ => false) 17 0 (by kernel_rfl) (by kernel_rfl) (by kernel_rfl) (by kernel_rfl) (by kernel_rfl) (EachX.of_all (fun _ h => by cases h) _) ?_ ?_
      · refine ⟨fun a' w' F => StepG.run rfl (wanted_none rfl) (arm_fieldF rfl (F.keep 1 (Value.pointer (some ⟨w.heap.size, 0, none⟩)) (by kernel_rfl) rfl).is (run_field1 _)).b, ?_⟩
        refine ⟨fun a' w' F => StepG.run rfl (wanted_none rfl) (arm_fieldN rfl (F.at' 0 3 _ rfl (by kernel_rfl)).is).b, ?_⟩
        refine ⟨fun a' w' F => StepG.run rfl (wanted_none rfl) (arm_loadW1 rfl (F.at' 1 4 _ rfl (by kernel_rfl)).is (V0.mono F.below)).b, ?_⟩
        refine ⟨fun a' w' F => StepG.run rfl (wanted_none rfl) (arm_lenW rfl (F.at' 2 5 _ rfl (by kernel_rfl)).is).b, ?_⟩
        refine ⟨fun a' w' F => StepG.run rfl (wanted_none rfl) (arm_bin rfl (F.at' 3 6 _ rfl (by kernel_rfl)).is Is.const (fun _ => rfl) (fun w => by rw [HL.out]; rfl)).b, ?_⟩
        refine ⟨fun a' w' F => StepG.run rfl (wanted_none rfl) (arm_move (.inl rfl) (F.at' 4 7 _ rfl (by kernel_rfl)).is).b, ?_⟩
        refine ⟨fun a' w' F => StepG.skip rfl (unwanted rfl rfl (F.at' 5 8 _ rfl (by kernel_rfl)) rfl) rfl, ?_⟩
        refine ⟨fun a' w' F => StepG.skip rfl (unwanted rfl rfl (F.at' 5 8 _ rfl (by kernel_rfl)) rfl) rfl, ?_⟩
        refine ⟨fun a' w' F => StepG.skip rfl (unwanted rfl rfl (F.at' 5 8 _ rfl (by kernel_rfl)) rfl) rfl, ?_⟩
        refine ⟨fun a' w' F => StepG.skip rfl (unwanted rfl rfl (F.at' 5 8 _ rfl (by kernel_rfl)) rfl) rfl, ?_⟩
        refine ⟨fun a' w' F => StepG.skip rfl (unwanted rfl rfl (F.at' 5 8 _ rfl (by kernel_rfl)) rfl) rfl, ?_⟩
        refine ⟨fun a' w' F => StepG.run rfl (wanted_none rfl) (arm_pick rfl (F.at' 5 8 _ rfl (by kernel_rfl)).is (fun h => by cases h) (fun _ => Is.const)).b, ?_⟩
        refine ⟨fun a' w' F => StepG.run rfl (wanted_none rfl) (arm_move (.inl rfl) (F.at' 11 14 _ rfl (by kernel_rfl)).is).b, ?_⟩
        refine ⟨fun a' w' F => StepG.skip rfl (unwanted rfl rfl (F.at' 12 15 _ rfl (by kernel_rfl)) rfl) rfl, ?_⟩
        refine ⟨fun a' w' F => StepG.skip rfl (unwanted rfl rfl (F.at' 12 15 _ rfl (by kernel_rfl)) rfl) rfl, ?_⟩
        refine ⟨fun a' w' F => StepG.run rfl (wanted_none rfl) (arm_pick rfl (F.at' 12 15 _ rfl (by kernel_rfl)).is (fun h => by cases h) (fun _ => Is.const)).b, ?_⟩
        refine ⟨fun a' w' F => StepG.run rfl (wanted_none rfl) (arm_move (.inr rfl) (F.at' 15 18 _ rfl (by kernel_rfl)).is).b, ?_⟩
        exact trivial
      intro E' hE gp wp bp G Gs
      obtain rfl : E' = [] := by simpa [subs] using hE
      have e_16 : gp 16 = Value.bool false := G 16 2 _ (by simp) rfl
      clear G Gs hE
      simp only [q_fitFT3]
      simp only [putD, entries, List.map_cons, List.map_nil, List.foldl_cons, List.foldl_nil, Act.put, List.setIfInBounds_toArray, List.set_cons_zero, List.set_cons_succ, e_16]
      refine wpAny_done (by kernel_rfl) ?_ _
      go_wp2_with fail
      go_meet
      case rel => exact ⟨rfl, (V0.mono bp), (hb1.trans (bp.mono hb1.size))⟩
    case rest =>
    clear V0 hb1
    obtain ⟨rfl, V0, hb1⟩ := hcut
    go_wp2
    go_ret
    exact ⟨rfl, hb1⟩
end Go.Proofs.Ytldnimohnbjfaaa
namespace Go.Proofs.Ytldnimohnbjfaaa
set_option linter.unusedSimpArgs false
set_option linter.unusedVariables false
set_option maxRecDepth 100000
open Go Go.Proofs
/-- The number that a fraction stands for. -/
def Fq.sg (s : Bool) (m : Nat) : Int := if s then -(m : Int) else m
def Fq.v (x : Fq) : Rat := mkRat (Fq.sg x.s x.p) x.q
theorem low_v {s : Bool} {m n : Nat} (h : n ≠ 0) : (Fq.low s m n).v = mkRat (Fq.sg s m) n := by
  unfold Fq.v Fq.low
  simp only
  have hg : 0 < Nat.gcd m n := Nat.gcd_pos_of_pos_right _ (Nat.pos_of_ne_zero h)
  have h1 : Nat.gcd m n * lowP m n = m := Nat.mul_div_cancel' (Nat.gcd_dvd_left _ _)
  have h2 : Nat.gcd m n * lowQ m n = n := Nat.mul_div_cancel' (Nat.gcd_dvd_right _ _)
  have h3 : lowQ m n ≠ 0 := by intro h3; rw [h3, Nat.mul_zero] at h2; exact h h2.symm
  rw [Rat.mkRat_eq_iff h3 h]
  have hs : Fq.sg (lowS s m) (lowP m n) = Fq.sg s (lowP m n) := by
    unfold lowS Fq.sg
    by_cases hm : m = 0
    · subst hm; simp [lowP]
    · simp [hm]
  rw [hs]
  generalize hP : lowP m n = P at *
  generalize hQ : lowQ m n = R at *
  generalize Nat.gcd m n = g at *
  subst h1; subst h2
  unfold Fq.sg
  cases s <;> simp only [Bool.false_eq_true, if_true, if_false] <;> grind
theorem low_valid {s : Bool} {m n : Nat} (h : n ≠ 0) : (Fq.low s m n).valid = true := by
  unfold Fq.valid
  have hg : 0 < Nat.gcd m n := Nat.gcd_pos_of_pos_right _ (Nat.pos_of_ne_zero h)
  have h1 : Nat.gcd m n * lowP m n = m := Nat.mul_div_cancel' (Nat.gcd_dvd_left _ _)
  have h2 : Nat.gcd m n * lowQ m n = n := Nat.mul_div_cancel' (Nat.gcd_dvd_right _ _)
  refine decide_eq_true ⟨?_, ?_, ?_⟩
  · show lowQ m n ≠ 0
    intro h3; rw [h3, Nat.mul_zero] at h2; exact h h2.symm
  · show ¬(lowS s m = true ∧ lowP m n = 0)
    rintro ⟨h3, h4⟩
    rw [h4, Nat.mul_zero] at h1
    rw [← h1] at h3; simp [lowS] at h3
  · exact Nat.coprime_div_gcd_div_gcd hg
theorem Fq.valid.n {x : Fq} (h : x.valid = true) : x.q ≠ 0 := (of_decide_eq_true h).1
theorem Fq.valid.s {x : Fq} (h : x.valid = true) : ¬(x.s = true ∧ x.p = 0) := (of_decide_eq_true h).2.1
theorem Fq.valid.g {x : Fq} (h : x.valid = true) : Nat.gcd x.p x.q = 1 := (of_decide_eq_true h).2.2
theorem sg_abs (s : Bool) (m : Nat) : (Fq.sg s m).natAbs = m := by unfold Fq.sg; cases s <;> simp
theorem v_num {x : Fq} (h : x.valid = true) : x.v.num = Fq.sg x.s x.p ∧ x.v.den = x.q := by
  have hn := Fq.valid.n h
  have hc : (Fq.sg x.s x.p).natAbs.Coprime x.q := by rw [sg_abs]; exact Fq.valid.g h
  have e : x.v = Rat.mk' (Fq.sg x.s x.p) x.q hn hc := (Rat.mk_eq_mkRat _ _ hn hc).symm
  rw [e]; exact ⟨rfl, rfl⟩
theorem sg_add (s s' : Bool) (X Y : Nat) : Fq.sg (addG s s' X Y) (addM s s' X Y) = Fq.sg s X + Fq.sg s' Y := by
  unfold Fq.sg addG addM
  by_cases h : s = s'
  · subst h; simp only [if_true]; cases s <;> simp <;> omega
  · simp only [h, if_false]
    by_cases hl : Y ≤ X
    · simp only [hl, if_true]; cases s <;> cases s' <;> simp at h ⊢ <;> omega
    · simp only [hl, if_false]; cases s <;> cases s' <;> simp at h ⊢ <;> omega
theorem sg_mulN (s : Bool) (X Y : Nat) : Fq.sg s (X * Y) = Fq.sg s X * (Y : Int) := by
  unfold Fq.sg
  cases s <;> simp <;> grind
theorem v_add {x y : Fq} (hx : x.q ≠ 0) (hy : y.q ≠ 0) : (x.add y).v = x.v + y.v := by
  unfold Fq.add
  rw [low_v (Nat.mul_ne_zero hx hy), sg_add, sg_mulN, sg_mulN]
  unfold Fq.v
  rw [Rat.mkRat_add_mkRat _ _ hx hy]
theorem v_neg {x : Fq} : x.neg.v = -x.v := by
  unfold Fq.neg Fq.v
  simp only
  rw [Rat.neg_mkRat]
  congr 1
  unfold Fq.sg lowS
  by_cases h : x.p = 0
  · rw [h]; simp
  · simp only [h, decide_false, Bool.not_false, Bool.and_true]; cases x.s <;> simp
theorem neg_valid {x : Fq} (h : x.valid = true) : x.neg.valid = true := by
  have h1 := Fq.valid.n h
  have h2 := Fq.valid.g h
  refine decide_eq_true ⟨h1, ?_, h2⟩
  show ¬(lowS (!x.s) x.p = true ∧ x.p = 0)
  rintro ⟨h1, h2⟩; rw [h2] at h1; simp [lowS] at h1
theorem v_sub {x y : Fq} (hx : x.q ≠ 0) (hy : y.q ≠ 0) : (x.sub y).v = x.v - y.v := by
  unfold Fq.sub
  rw [v_add hx (show y.neg.q ≠ 0 from hy), v_neg, Rat.sub_eq_add_neg]
theorem v_eq0 {x : Fq} (hx : x.q ≠ 0) : x.v = 0 ↔ x.p = 0 := by
  unfold Fq.v
  rw [Rat.mkRat_eq_zero hx]
  have := sg_abs x.s x.p
  constructor <;> intro h
  · rw [h] at this; exact this.symm
  · unfold Fq.sg; rw [h]; simp
theorem v_ofInt (n : Int) : (Fq.ofInt n).v = (n : Rat) := by
  unfold Fq.ofInt Fq.v
  simp only
  rw [Rat.mkRat_one]
  congr 1
  unfold Fq.sg
  by_cases h : n < 0
  · simp [h]; omega
  · simp [h]; omega
theorem ofInt_valid (n : Int) : (Fq.ofInt n).valid = true := by
  refine decide_eq_true ⟨Nat.one_ne_zero, ?_, Nat.gcd_one_right _⟩
  show ¬(decide (n < 0) = true ∧ n.natAbs = 0)
  rintro ⟨h1, h2⟩; have := of_decide_eq_true h1; omega
theorem sgn_cases {x : Fq} (hx : x.valid = true) : (x.v < 0 ∧ x.sgn = -1) ∨ (x.v = 0 ∧ x.sgn = 0) ∨ (0 < x.v ∧ x.sgn = 1) := by
  have hn := (v_num hx).1
  have h0 := v_eq0 (Fq.valid.n hx)
  have hs := Fq.valid.s hx
  by_cases hp : x.p = 0
  · exact Or.inr (Or.inl ⟨h0.2 hp, by unfold Fq.sgn; rw [if_pos hp]⟩)
  · have hne : x.v ≠ 0 := fun h => hp (h0.1 h)
    rcases Bool.eq_false_or_eq_true x.s with h | h
    · refine Or.inl ⟨?_, by unfold Fq.sgn; rw [if_neg hp, if_pos h]⟩
      have h1 : ¬ (0 ≤ x.v) := by rw [← Rat.num_nonneg, hn, h]; unfold Fq.sg; simp; omega
      exact Rat.not_le.1 h1
    · refine Or.inr (Or.inr ⟨?_, by unfold Fq.sgn; rw [if_neg hp, h]; rfl⟩)
      have h1 : 0 ≤ x.v := by rw [← Rat.num_nonneg, hn, h]; unfold Fq.sg; simp
      grind
theorem add_valid {x y : Fq} (hx : x.valid = true) (hy : y.valid = true) : (x.add y).valid = true := low_valid (Nat.mul_ne_zero (Fq.valid.n hx) (Fq.valid.n hy))
theorem sub_valid {x y : Fq} (hx : x.valid = true) (hy : y.valid = true) : (x.sub y).valid = true := add_valid hx (neg_valid hy)
theorem v_s {x y : Fq} (hx : x.valid = true) (hy : y.valid = true) : (x.sub y).v = x.v - y.v := v_sub (Fq.valid.n hx) (Fq.valid.n hy)
theorem cmp_cases {x y : Fq} (hx : x.valid = true) (hy : y.valid = true) : (x.v < y.v ∧ x.cmp y = -1) ∨ (x.v = y.v ∧ x.cmp y = 0) ∨ (y.v < x.v ∧ x.cmp y = 1) := by
  unfold Fq.cmp
  rcases sgn_cases (sub_valid hx hy) with ⟨h1, h2⟩ | ⟨h1, h2⟩ | ⟨h1, h2⟩ <;> rw [v_s hx hy] at h1
  · exact Or.inl ⟨by grind, h2⟩
  · exact Or.inr (Or.inl ⟨by grind, h2⟩)
  · exact Or.inr (Or.inr ⟨by grind, h2⟩)
section
variable {a b c t : Fq} (ha : a.valid = true) (hb : b.valid = true) (hc : c.valid = true) (ht : t.valid = true)
include ha hb
include hc
end
section
variable {a b t : Fq} (ha : a.valid = true) (hb : b.valid = true) (ht : t.valid = true)
include ha
include hb
include ht
end
theorem flM_v {x : Fq} (hx : x.valid = true) : x.v.floor = if x.s then -(x.flM : Int) else (x.flM : Int) := by
  have hn := v_num hx
  have hq : (0 : Int) < x.q := by have := Fq.valid.n hx; omega
  have e : x.v.floor = Fq.sg x.s x.p / (x.q : Int) := by rw [Rat.floor_def, hn.1, hn.2]
  rw [e]
  unfold Fq.flM Fq.sg
  rcases Bool.eq_false_or_eq_true x.s with h | h
  · rw [h]
    simp only [if_true, true_and]
    rw [Int.neg_ediv, Int.sign_eq_one_of_pos hq]
    by_cases hd : x.p % x.q = 0
    · rw [if_pos (by exact Int.natCast_dvd_natCast.2 (Nat.dvd_of_mod_eq_zero hd)), if_neg (by simpa using hd)]; simp
    · rw [if_neg (by rw [Int.natCast_dvd_natCast]; exact fun h => hd (Nat.mod_eq_zero_of_dvd h)), if_pos hd]; simp; omega
  · rw [h]
    simp
theorem floor_v {x : Fq} (hx : x.valid = true) (h : x.floor.2 = true) : x.floor.1 = x.v.floor := by
  rw [flM_v hx]
  unfold Fq.floor at h ⊢
  rcases Bool.eq_false_or_eq_true x.s with h1 | h1 <;> rw [h1] at h ⊢ <;> simp only [if_true, Bool.false_eq_true, if_false] at h ⊢
  · by_cases h2 : x.flM ≤ 9223372036854775808
    · rw [if_pos h2]
    · rw [if_neg h2] at h; cases h
  · by_cases h2 : x.flM < 9223372036854775808
    · rw [if_pos h2]
    · rw [if_neg h2] at h; cases h
theorem f_floor {x : Fq} (hx : x.valid = true) (h : x.floor.2 = true) : 0 ≤ (x.sub (Fq.ofInt x.floor.1)).sgn ∧ (x.sub (Fq.ofInt x.floor.1)).cmp (Fq.ofInt 1) < 0 := by
  have e := floor_v hx h
  have hv : (x.sub (Fq.ofInt x.floor.1)).v = x.v - ((x.v.floor : Int) : Rat) := by rw [v_s hx (ofInt_valid _), v_ofInt, e]
  have h1 := Rat.floor_le x.v
  have h2 := Rat.lt_floor (x := x.v)
  have hr := sub_valid hx (ofInt_valid x.floor.1)
  constructor
  · rcases sgn_cases hr with ⟨p1, p2⟩ | ⟨p1, p2⟩ | ⟨p1, p2⟩ <;> first | omega | (rw [hv] at p1; exfalso; grind)
  · rcases cmp_cases hr (ofInt_valid 1) with ⟨p1, p2⟩ | ⟨p1, p2⟩ | ⟨p1, p2⟩ <;> first | omega | (rw [hv, v_ofInt] at p1; exfalso; grind)
theorem floor_range {x : Fq} (h : x.floor.2 = true) : -9223372036854775808 ≤ x.floor.1 ∧ x.floor.1 < 9223372036854775808 := by
  unfold Fq.floor at h ⊢
  rcases Bool.eq_false_or_eq_true x.s with h1 | h1 <;> rw [h1] at h ⊢ <;> simp only [if_true, Bool.false_eq_true, if_false] at h ⊢
  · by_cases h2 : x.flM ≤ 9223372036854775808
    · rw [if_pos h2]; simp only; omega
    · rw [if_neg h2] at h; cases h
  · by_cases h2 : x.flM < 9223372036854775808
    · rw [if_pos h2]; simp only; omega
    · rw [if_neg h2] at h; cases h
end Go.Proofs.Ytldnimohnbjfaaa
namespace Go.Proofs.Ytldnimohnbjfaaa
set_option linter.unusedSimpArgs false
set_option linter.unusedVariables false
set_option maxRecDepth 100000
open Go.RowKit
theorem ok_int {v : Int} (lv : -9223372036854775808 ≤ v) (rv : v < 9223372036854775808) : (Fq.ofInt v).ok 2 := ⟨nl_abs lv rv, show nl 1 ≤ 2 by decide, Nat.one_ne_zero⟩
theorem run_neJ (t : TypeId) (n : Int) (w : World) : (binOp BinOp.neq t (.int .i64 n) (.int .i64 n)).run Try.prog w = .ok (.bool false) w := by
  have h : (binOp BinOp.neq t (.int .i64 n) (.int .i64 n)).run Try.prog w = .ok (.bool (n != n)) w := rfl
  rw [h]; simp
theorem q_fitQ (va : Value) (x : Fq) (w : World) (ha : IsQ w va x) (h : x.ok 12) (hv : x.valid = true) : Calls Try.prog 18 #[va] w fun e w' => RetV w (.bool true) e w' :=
  q_fitT va x.s (nl x.p) x.p (nl x.q) x.q w ha ⟨h.p, h.q, rfl, rfl, hv⟩
theorem FitP.split {w : World} {v : Value} {s : Bool} {L p N q : Nat} (h : FitP s L p N q) (ha : IsFR w v s L p N q) : ∃ x : Fq, IsQ w v x ∧ x.ok 12 ∧ x.valid = true :=
  ⟨⟨s, p, q⟩, ha.isQ h.2.2.1 h.2.2.2.1, h.ok, h.2.2.2.2⟩
theorem ofFl {w w' : World} {e : Ending} {x : Fq} {n : Int} {b : Bool} (hf : x.floor = (n, b)) (h : RetFl w x.floor e w') : ∃ v, e = .returned v ∧ (Sp.pair (.val (.int .i64 n)) (.val (.bool b))).p w' v ∧ Below w.heap.size w w' := by
  rw [hf] at h; exact ofPair h
def lFlT0 (x : Fq) : List (Nat × Tmp × Sp) :=
   [(0, 8, .fq x),
    (1, 9, .val (Value.bool true)),
    (2, 10, .val (Value.bool false))]
def lFlT1 (x : Fq) (n : Int) : List (Nat × Tmp × Sp) :=
   [(0, 13, .fq x),
    (1, 14, .pair (.val (Value.int IntKind.i64 n)) (.val (Value.bool false))),
    (2, 12, .pair (.val (Value.int IntKind.i64 n)) (.val (Value.bool false))),
    (3, 15, .val (Value.int IntKind.i64 n)),
    (4, 16, .val (Value.bool false)),
    (5, 3, .val (Value.int IntKind.i64 n)),
    (6, 4, .val (Value.bool false))]
def lFlT2 (x : Fq) (n : Int) : List (Nat × Tmp × Sp) :=
   [(0, 18, .fq x),
    (1, 19, .pair (.val (Value.int IntKind.i64 n)) (.val (Value.bool false))),
    (2, 17, .pair (.val (Value.int IntKind.i64 n)) (.val (Value.bool false))),
    (3, 20, .val (Value.int IntKind.i64 n)),
    (4, 21, .val (Value.bool false)),
    (5, 5, .val (Value.int IntKind.i64 n)),
    (6, 6, .val (Value.bool false))]
def lFlT3 (n : Int) : List (Nat × Tmp × Sp) :=
   [(0, 22, .val (Value.int IntKind.i64 n)),
    (1, 23, .val (Value.int IntKind.i64 n)),
    (2, 24, .val (Value.bool false)),
    (3, 25, .val (Value.bool false)),
    (4, 26, .val (Value.bool false)),
    (5, 27, .val (Value.bool false)),
    (6, 28, .val (Value.bool false)),
    (7, 29, .val (Value.bool false))]
def lFlT4  : List (Nat × Tmp × Sp) :=
   [(0, 30, .val (Value.bool false)),
    (1, 31, .val (Value.bool true))]
def lFlT5  : List (Nat × Tmp × Sp) :=
   [(0, 32, .val (Value.bool true)),
    (1, 2, .val (Value.bool true))]
def lFlT6 (x : Fq) : List (Nat × Tmp × Sp) :=
   [(0, 8, .fq x),
    (1, 9, .val (Value.bool true)),
    (2, 10, .val (Value.bool false))]
def lFlT7 (x : Fq) (n : Int) : List (Nat × Tmp × Sp) :=
   [(0, 13, .fq x),
    (1, 14, .pair (.val (Value.int IntKind.i64 n)) (.val (Value.bool true))),
    (2, 12, .pair (.val (Value.int IntKind.i64 n)) (.val (Value.bool true))),
    (3, 15, .val (Value.int IntKind.i64 n)),
    (4, 16, .val (Value.bool true)),
    (5, 3, .val (Value.int IntKind.i64 n)),
    (6, 4, .val (Value.bool true))]
def lFlT8 (x : Fq) (n : Int) : List (Nat × Tmp × Sp) :=
   [(0, 18, .fq x),
    (1, 19, .pair (.val (Value.int IntKind.i64 n)) (.val (Value.bool true))),
    (2, 17, .pair (.val (Value.int IntKind.i64 n)) (.val (Value.bool true))),
    (3, 20, .val (Value.int IntKind.i64 n)),
    (4, 21, .val (Value.bool true)),
    (5, 5, .val (Value.int IntKind.i64 n)),
    (6, 6, .val (Value.bool true))]
def lFlT9 (n : Int) : List (Nat × Tmp × Sp) :=
   [(0, 22, .val (Value.int IntKind.i64 n)),
    (1, 23, .val (Value.int IntKind.i64 n)),
    (2, 24, .val (Value.bool false)),
    (3, 25, .val (Value.bool false)),
    (4, 26, .val (Value.bool true)),
    (5, 27, .val (Value.bool true)),
    (6, 28, .val (Value.bool false)),
    (7, 29, .val (Value.bool false))]
def lFlT10  : List (Nat × Tmp × Sp) :=
   [(0, 30, .val (Value.bool true)),
    (1, 31, .val (Value.bool false))]
def lFlT11 (x : Fq) (n : Int) (base : Nat) : List (Nat × Tmp × Sp) :=
   [(0, 33, .fq x),
    (1, 34, .val (Value.int IntKind.i64 n)),
    (2, 35, .fq (Fq.ofInt n)),
    (3, 36, .fq (x.sub (Fq.ofInt n))),
    (4, 7, .varF base)]
def lFlT12 (x : Fq) (n : Int) : List (Nat × Tmp × Sp) :=
   [(0, 37, .fq (x.sub (Fq.ofInt n))),
    (1, 38, .val (Value.int IntKind.i64 (x.sub (Fq.ofInt n)).sgn)),
    (2, 39, .val (Value.bool true)),
    (3, 40, .val (Value.bool true)),
    (4, 41, .fq (x.sub (Fq.ofInt n))),
    (5, 42, .fq (Fq.ofInt 1)),
    (6, 43, .val (Value.int IntKind.i64 ((x.sub (Fq.ofInt n)).cmp (Fq.ofInt 1)))),
    (7, 44, .val (Value.bool true)),
    (8, 45, .val (Value.bool true)),
    (9, 46, .val (Value.bool true)),
    (10, 47, .val (Value.bool true)),
    (11, 48, .val (Value.bool true)),
    (12, 2, .val (Value.bool true))]
set_option maxHeartbeats 4000000 in
theorem c_lFlT (vx : Value) (x : Fq) (w : World) (ix : IsQ w vx x) (hx : x.ok 12) (ex : x.valid = true) :
    Calls Try.prog 7 #[vx] w fun e w' => RetV w (.bool true) e w' := by
  obtain ⟨n, b, hf0⟩ : ∃ n b, x.floor = (n, b) := ⟨_, _, rfl⟩
  have hf := Lib.hid hf0
  cases b
  · clear hf0
    obtain ⟨a0, c0, b0, d0, rfl, m0, k0⟩ := boxF ix
    clear ix
    go_enter Try.func7, Try.ntmps7
    go_upto_region 0 with (fail)
    go_cut [1, 2] (fun s_1 s_2 wx => s_1 = Value.pointer (some ⟨w.heap.size, 0, none⟩) ∧ s_2 = Value.bool false ∧ VarQ wx w.heap.size x ∧ Below w.heap.size w wx)
    case first =>
      go_wp2_with fail
      go_meet
      case rel => exact ⟨rfl, rfl, k0, m0⟩
    case rest =>
    clear m0 k0
    obtain ⟨rfl, rfl, V0, hb1⟩ := hcut
    go_upto_region 1 with (fail)
    go_cut [10] (fun s_10 wx => s_10 = Value.bool false ∧ VarQ wx w.heap.size x ∧ Below w.heap.size w wx)
    case first =>
      refine wp_tabGF Try.f7 1 (lFlT0 x) [] (fun _ => false) 3 0 (by kernel_rfl) (by kernel_rfl) (by kernel_rfl) (by kernel_rfl) (by kernel_rfl) (EachX.of_all (fun _ h => by cases h) _) ?_ ?_
      · refine ⟨fun a' w' F => StepG.run rfl (wanted_none rfl) (arm_loadF rfl (F.keep 1 (Value.pointer (some ⟨w.heap.size, 0, none⟩)) (by kernel_rfl) rfl).is (V0.mono F.below)).b, ?_⟩
        refine ⟨fun a' w' F => StepG.run rfl (wanted_none rfl) (arm_C1 rfl (enters Try.func18 rfl rfl) (F.at' 0 8 _ rfl (by kernel_rfl)).is (fun va w h1 => q_fitQ va x w h1 hx ex) (fun _ _ h => ofV h)).b, ?_⟩
        refine ⟨fun a' w' F => StepG.run rfl (wanted_none rfl) (arm_not rfl (F.at' 1 9 _ rfl (by kernel_rfl)).is).b, ?_⟩
        exact trivial
      intro E' hE gp wp bp G Gs
      obtain rfl : E' = [] := by simpa [subs] using hE
      have e_2 : gp 2 = Value.bool false := G 2 10 _ (by simp) rfl
      clear G Gs hE
      simp only [lFlT0]
      simp only [putD, entries, List.map_cons, List.map_nil, List.foldl_cons, List.foldl_nil, Act.put, List.setIfInBounds_toArray, List.set_cons_zero, List.set_cons_succ, e_2]
      refine wpAny_done (by kernel_rfl) ?_ _
      go_wp2_with fail
      go_meet
      case rel => exact ⟨rfl, (V0.mono bp), (hb1.trans (bp.mono hb1.size))⟩
    case rest =>
    clear V0 hb1
    obtain ⟨rfl, V0, hb1⟩ := hcut
    go_upto_region 3 with (fail)
    go_cut [3, 4] (fun s_3 s_4 wx => s_3 = Value.int IntKind.i64 n ∧ s_4 = Value.bool false ∧ VarQ wx w.heap.size x ∧ Below w.heap.size w wx)
    case first =>
      refine wp_tabGF Try.f7 3 (lFlT1 x n) [] (fun _ => false) 6 0 (by kernel_rfl) (by kernel_rfl) (by kernel_rfl) (by kernel_rfl) (by kernel_rfl) (EachX.of_all (fun _ h => by cases h) _) ?_ ?_
      · refine ⟨fun a' w' F => StepG.run rfl (wanted_none rfl) (arm_loadF rfl (F.keep 1 (Value.pointer (some ⟨w.heap.size, 0, none⟩)) (by kernel_rfl) rfl).is (V0.mono F.below)).b, ?_⟩
        refine ⟨fun a' w' F => StepG.run rfl (wanted_none rfl) (arm_C1 rfl (enters Try.func32 rfl rfl) (F.at' 0 13 _ rfl (by kernel_rfl)).is (fun va w h1 => q_fFloor va x w h1 (hx.mono (by decide))) (fun _ _ h => ofFl hf.out h)).b, ?_⟩
        refine ⟨fun a' w' F => StepG.run rfl (wanted_none rfl) (arm_move (.inl rfl) (F.at' 1 14 _ rfl (by kernel_rfl)).is).b, ?_⟩
        refine ⟨fun a' w' F => StepG.run rfl (wanted_none rfl) (arm_pair0 rfl (F.at' 2 12 _ rfl (by kernel_rfl)).is).b, ?_⟩
        refine ⟨fun a' w' F => StepG.run rfl (wanted_none rfl) (arm_pair1 rfl (F.at' 2 12 _ rfl (by kernel_rfl)).is).b, ?_⟩
        refine ⟨fun a' w' F => StepG.run rfl (wanted_none rfl) (arm_move (.inr rfl) (F.at' 3 15 _ rfl (by kernel_rfl)).is).b, ?_⟩
        refine ⟨fun a' w' F => StepG.run rfl (wanted_none rfl) (arm_move (.inr rfl) (F.at' 4 16 _ rfl (by kernel_rfl)).is).b, ?_⟩
        exact trivial
      intro E' hE gp wp bp G Gs
      obtain rfl : E' = [] := by simpa [subs] using hE
      have e_5 : gp 5 = Value.int IntKind.i64 n := G 5 3 _ (by simp) rfl
      have e_6 : gp 6 = Value.bool false := G 6 4 _ (by simp) rfl
      clear G Gs hE
      simp only [lFlT1]
      simp only [putD, entries, List.map_cons, List.map_nil, List.foldl_cons, List.foldl_nil, Act.put, List.setIfInBounds_toArray, List.set_cons_zero, List.set_cons_succ, e_5, e_6]
      refine wpAny_done (by kernel_rfl) ?_ _
      go_wp2_with fail
      go_meet
      case rel => exact ⟨rfl, rfl, (V0.mono bp), (hb1.trans (bp.mono hb1.size))⟩
    case rest =>
    clear V0 hb1
    obtain ⟨rfl, rfl, V0, hb1⟩ := hcut
    go_upto_region 4 with (fail)
    go_cut [5, 6] (fun s_5 s_6 wx => s_5 = Value.int IntKind.i64 n ∧ s_6 = Value.bool false ∧ VarQ wx w.heap.size x ∧ Below w.heap.size w wx)
    case first =>
      refine wp_tabGF Try.f7 4 (lFlT2 x n) [] (fun _ => false) 6 0 (by kernel_rfl) (by kernel_rfl) (by kernel_rfl) (by kernel_rfl) (by kernel_rfl) (EachX.of_all (fun _ h => by cases h) _) ?_ ?_
      · refine ⟨fun a' w' F => StepG.run rfl (wanted_none rfl) (arm_loadF rfl (F.keep 1 (Value.pointer (some ⟨w.heap.size, 0, none⟩)) (by kernel_rfl) rfl).is (V0.mono F.below)).b, ?_⟩
        refine ⟨fun a' w' F => StepG.run rfl (wanted_none rfl) (arm_C1 rfl (enters Try.func33 rfl rfl) (F.at' 0 18 _ rfl (by kernel_rfl)).is (fun va w h1 => q_rFloor va x w h1 (hx.mono (by decide))) (fun _ _ h => ofFl hf.out h)).b, ?_⟩
        refine ⟨fun a' w' F => StepG.run rfl (wanted_none rfl) (arm_move (.inl rfl) (F.at' 1 19 _ rfl (by kernel_rfl)).is).b, ?_⟩
        refine ⟨fun a' w' F => StepG.run rfl (wanted_none rfl) (arm_pair0 rfl (F.at' 2 17 _ rfl (by kernel_rfl)).is).b, ?_⟩
        refine ⟨fun a' w' F => StepG.run rfl (wanted_none rfl) (arm_pair1 rfl (F.at' 2 17 _ rfl (by kernel_rfl)).is).b, ?_⟩
        refine ⟨fun a' w' F => StepG.run rfl (wanted_none rfl) (arm_move (.inr rfl) (F.at' 3 20 _ rfl (by kernel_rfl)).is).b, ?_⟩
        refine ⟨fun a' w' F => StepG.run rfl (wanted_none rfl) (arm_move (.inr rfl) (F.at' 4 21 _ rfl (by kernel_rfl)).is).b, ?_⟩
        exact trivial
      intro E' hE gp wp bp G Gs
      obtain rfl : E' = [] := by simpa [subs] using hE
      have e_5 : gp 5 = Value.int IntKind.i64 n := G 5 5 _ (by simp) rfl
      have e_6 : gp 6 = Value.bool false := G 6 6 _ (by simp) rfl
      clear G Gs hE
      simp only [lFlT2]
      simp only [putD, entries, List.map_cons, List.map_nil, List.foldl_cons, List.foldl_nil, Act.put, List.setIfInBounds_toArray, List.set_cons_zero, List.set_cons_succ, e_5, e_6]
      refine wpAny_done (by kernel_rfl) ?_ _
      go_wp2_with fail
      go_meet
      case rel => exact ⟨rfl, rfl, (V0.mono bp), (hb1.trans (bp.mono hb1.size))⟩
    case rest =>
    clear V0 hb1
    obtain ⟨rfl, rfl, V0, hb1⟩ := hcut
    go_upto_region 5 with (fail)
    go_cut [29] (fun s_29 wx => s_29 = Value.bool false ∧ VarQ wx w.heap.size x ∧ Below w.heap.size w wx)
    case first =>
      refine wp_tabGF Try.f7 5 (lFlT3 n) [] (fun _ => false) 6 0 (by kernel_rfl) (by kernel_rfl) (by kernel_rfl) (by kernel_rfl) (by kernel_rfl) (EachX.of_all (fun _ h => by cases h) _) ?_ ?_
      · refine ⟨fun a' w' F => StepG.run rfl (wanted_none rfl) (arm_move (.inl rfl) (F.keep 3 (Value.int IntKind.i64 n) (by kernel_rfl) rfl).is).b, ?_⟩
        refine ⟨fun a' w' F => StepG.run rfl (wanted_none rfl) (arm_move (.inl rfl) (F.keep 5 (Value.int IntKind.i64 n) (by kernel_rfl) rfl).is).b, ?_⟩
        refine ⟨fun a' w' F => StepG.run rfl (wanted_none rfl) (arm_bin rfl (F.at' 0 22 _ rfl (by kernel_rfl)).is (F.at' 1 23 _ rfl (by kernel_rfl)).is (fun _ => rfl) (fun w => run_neJ _ _ w)).b, ?_⟩
        refine ⟨fun a' w' F => StepG.run rfl (wanted_none rfl) (arm_move (.inl rfl) (F.at' 2 24 _ rfl (by kernel_rfl)).is).b, ?_⟩
        refine ⟨fun a' w' F => StepG.run rfl (wanted_some rfl rfl (F.at' 3 25 _ rfl (by kernel_rfl))) (arm_move (.inl rfl) (F.keep 4 (Value.bool false) (by kernel_rfl) rfl).is).b, ?_⟩
        refine ⟨fun a' w' F => StepG.run rfl (wanted_some rfl rfl (F.at' 3 25 _ rfl (by kernel_rfl))) (arm_move (.inl rfl) (F.keep 6 (Value.bool false) (by kernel_rfl) rfl).is).b, ?_⟩
        refine ⟨fun a' w' F => StepG.run rfl (wanted_some rfl rfl (F.at' 3 25 _ rfl (by kernel_rfl))) (arm_bin rfl (F.at' 4 26 _ rfl (by kernel_rfl)).is (F.at' 5 27 _ rfl (by kernel_rfl)).is (fun _ => rfl) (fun _ => rfl)).b, ?_⟩
        refine ⟨fun a' w' F => StepG.run rfl (wanted_none rfl) (arm_pick rfl (F.at' 3 25 _ rfl (by kernel_rfl)).is (fun h => by cases h) (fun _ => (F.at' 6 28 _ rfl (by kernel_rfl)).is)).b, ?_⟩
        exact trivial
      intro E' hE gp wp bp G Gs
      obtain rfl : E' = [] := by simpa [subs] using hE
      have e_7 : gp 7 = Value.bool false := G 7 29 _ (by simp) rfl
      clear G Gs hE
      simp only [lFlT3]
      simp only [putD, entries, List.map_cons, List.map_nil, List.foldl_cons, List.foldl_nil, Act.put, List.setIfInBounds_toArray, List.set_cons_zero, List.set_cons_succ, e_7]
      refine wpAny_done (by kernel_rfl) ?_ _
      go_wp2_with fail
      go_meet
      case rel => exact ⟨rfl, (V0.mono bp), (hb1.trans (bp.mono hb1.size))⟩
    case rest =>
    clear V0 hb1
    obtain ⟨rfl, V0, hb1⟩ := hcut
    go_upto_region 7 with (fail)
    go_cut [31] (fun s_31 wx => s_31 = Value.bool true ∧ VarQ wx w.heap.size x ∧ Below w.heap.size w wx)
    case first =>
      refine wp_tabGF Try.f7 7 (lFlT4 ) [] (fun _ => false) 2 0 (by kernel_rfl) (by kernel_rfl) (by kernel_rfl) (by kernel_rfl) (by kernel_rfl) (EachX.of_all (fun _ h => by cases h) _) ?_ ?_
      · refine ⟨fun a' w' F => StepG.run rfl (wanted_none rfl) (arm_move (.inl rfl) (F.keep 4 (Value.bool false) (by kernel_rfl) rfl).is).b, ?_⟩
        refine ⟨fun a' w' F => StepG.run rfl (wanted_none rfl) (arm_not rfl (F.at' 0 30 _ rfl (by kernel_rfl)).is).b, ?_⟩
        exact trivial
      intro E' hE gp wp bp G Gs
      obtain rfl : E' = [] := by simpa [subs] using hE
      have e_1 : gp 1 = Value.bool true := G 1 31 _ (by simp) rfl
      clear G Gs hE
      simp only [lFlT4]
      simp only [putD, entries, List.map_cons, List.map_nil, List.foldl_cons, List.foldl_nil, Act.put, List.setIfInBounds_toArray, List.set_cons_zero, List.set_cons_succ, e_1]
      refine wpAny_done (by kernel_rfl) ?_ _
      go_wp2_with fail
      go_meet
      case rel => exact ⟨rfl, (V0.mono bp), (hb1.trans (bp.mono hb1.size))⟩
    case rest =>
    clear V0 hb1
    obtain ⟨rfl, V0, hb1⟩ := hcut
    go_upto_region 8 with (fail)
    go_cut [2] (fun s_2 wx => s_2 = Value.bool true ∧ VarQ wx w.heap.size x ∧ Below w.heap.size w wx)
    case first =>
      refine wp_tabGF Try.f7 8 (lFlT5 ) [] (fun _ => false) 2 0 (by kernel_rfl) (by kernel_rfl) (by kernel_rfl) (by kernel_rfl) (by kernel_rfl) (EachX.of_all (fun _ h => by cases h) _) ?_ ?_
      · refine ⟨fun a' w' F => StepG.run rfl (wanted_none rfl) (arm_C0 rfl (enters Try.func11 rfl rfl)  (fun w => c_awake2 w) (fun _ _ h => ofV h)).b, ?_⟩
        refine ⟨fun a' w' F => StepG.run rfl (wanted_none rfl) (arm_move (.inr rfl) (F.at' 0 32 _ rfl (by kernel_rfl)).is).b, ?_⟩
        exact trivial
      intro E' hE gp wp bp G Gs
      obtain rfl : E' = [] := by simpa [subs] using hE
      have e_1 : gp 1 = Value.bool true := G 1 2 _ (by simp) rfl
      clear G Gs hE
      simp only [lFlT5]
      simp only [putD, entries, List.map_cons, List.map_nil, List.foldl_cons, List.foldl_nil, Act.put, List.setIfInBounds_toArray, List.set_cons_zero, List.set_cons_succ, e_1]
      refine wpAny_done (by kernel_rfl) ?_ _
      go_wp2_with fail
      go_meet
      case rel => exact ⟨rfl, (V0.mono bp), (hb1.trans (bp.mono hb1.size))⟩
    case rest =>
    clear V0 hb1
    obtain ⟨rfl, V0, hb1⟩ := hcut
    go_wp2
    go_ret
    exact ⟨rfl, hb1⟩
  · have h2 : x.floor.2 = true := by rw [hf0]
    have hr := floor_range h2
    have h3 := f_floor ex h2
    rw [show x.floor.1 = n by rw [hf0]] at hr h3
    obtain ⟨ln, rn⟩ := hr
    obtain ⟨h4, h5⟩ := h3
    have G1 : Hid (true = decide (0 ≤ (x.sub (Fq.ofInt n)).sgn)) := Lib.hid (by symm; exact decide_eq_true h4)
    have G2 : Hid (true = decide ((x.sub (Fq.ofInt n)).cmp (Fq.ofInt 1) < 0)) := Lib.hid (by symm; exact decide_eq_true h5)
    clear hf0 h2 h4 h5
    obtain ⟨a0, c0, b0, d0, rfl, m0, k0⟩ := boxF ix
    clear ix
    go_enter Try.func7, Try.ntmps7
    go_upto_region 0 with (fail)
    go_cut [1, 2] (fun s_1 s_2 wx => s_1 = Value.pointer (some ⟨w.heap.size, 0, none⟩) ∧ s_2 = Value.bool false ∧ VarQ wx w.heap.size x ∧ Below w.heap.size w wx)
    case first =>
      go_wp2_with fail
      go_meet
      case rel => exact ⟨rfl, rfl, k0, m0⟩
    case rest =>
    clear m0 k0
    obtain ⟨rfl, rfl, V0, hb1⟩ := hcut
    go_upto_region 1 with (fail)
    go_cut [10] (fun s_10 wx => s_10 = Value.bool false ∧ VarQ wx w.heap.size x ∧ Below w.heap.size w wx)
    case first =>
      refine wp_tabGF Try.f7 1 (lFlT6 x) [] (fun _ => false) 3 0 (by kernel_rfl) (by kernel_rfl) (by kernel_rfl) (by kernel_rfl) (by kernel_rfl) (EachX.of_all (fun _ h => by cases h) _) ?_ ?_
      · refine ⟨fun a' w' F => StepG.run rfl (wanted_none rfl) (arm_loadF rfl (F.keep 1 (Value.pointer (some ⟨w.heap.size, 0, none⟩)) (by kernel_rfl) rfl).is (V0.mono F.below)).b, ?_⟩
        refine ⟨fun a' w' F => StepG.run rfl (wanted_none rfl) (arm_C1 rfl (enters Try.func18 rfl rfl) (F.at' 0 8 _ rfl (by kernel_rfl)).is (fun va w h1 => q_fitQ va x w h1 hx ex) (fun _ _ h => ofV h)).b, ?_⟩
        refine ⟨fun a' w' F => StepG.run rfl (wanted_none rfl) (arm_not rfl (F.at' 1 9 _ rfl (by kernel_rfl)).is).b, ?_⟩
        exact trivial
      intro E' hE gp wp bp G Gs
      obtain rfl : E' = [] := by simpa [subs] using hE
      have e_2 : gp 2 = Value.bool false := G 2 10 _ (by simp) rfl
      clear G Gs hE
      simp only [lFlT6]
      simp only [putD, entries, List.map_cons, List.map_nil, List.foldl_cons, List.foldl_nil, Act.put, List.setIfInBounds_toArray, List.set_cons_zero, List.set_cons_succ, e_2]
      refine wpAny_done (by kernel_rfl) ?_ _
      go_wp2_with fail
      go_meet
      case rel => exact ⟨rfl, (V0.mono bp), (hb1.trans (bp.mono hb1.size))⟩
    case rest =>
    clear V0 hb1
    obtain ⟨rfl, V0, hb1⟩ := hcut
    go_upto_region 3 with (fail)
    go_cut [3, 4] (fun s_3 s_4 wx => s_3 = Value.int IntKind.i64 n ∧ s_4 = Value.bool true ∧ VarQ wx w.heap.size x ∧ Below w.heap.size w wx)
    case first =>
      refine wp_tabGF Try.f7 3 (lFlT7 x n) [] (fun _ => false) 6 0 (by kernel_rfl) (by kernel_rfl) (by kernel_rfl) (by kernel_rfl) (by kernel_rfl) (EachX.of_all (fun _ h => by cases h) _) ?_ ?_
      · refine ⟨fun a' w' F => StepG.run rfl (wanted_none rfl) (arm_loadF rfl (F.keep 1 (Value.pointer (some ⟨w.heap.size, 0, none⟩)) (by kernel_rfl) rfl).is (V0.mono F.below)).b, ?_⟩
        refine ⟨fun a' w' F => StepG.run rfl (wanted_none rfl) (arm_C1 rfl (enters Try.func32 rfl rfl) (F.at' 0 13 _ rfl (by kernel_rfl)).is (fun va w h1 => q_fFloor va x w h1 (hx.mono (by decide))) (fun _ _ h => ofFl hf.out h)).b, ?_⟩
        refine ⟨fun a' w' F => StepG.run rfl (wanted_none rfl) (arm_move (.inl rfl) (F.at' 1 14 _ rfl (by kernel_rfl)).is).b, ?_⟩
        refine ⟨fun a' w' F => StepG.run rfl (wanted_none rfl) (arm_pair0 rfl (F.at' 2 12 _ rfl (by kernel_rfl)).is).b, ?_⟩
        refine ⟨fun a' w' F => StepG.run rfl (wanted_none rfl) (arm_pair1 rfl (F.at' 2 12 _ rfl (by kernel_rfl)).is).b, ?_⟩
        refine ⟨fun a' w' F => StepG.run rfl (wanted_none rfl) (arm_move (.inr rfl) (F.at' 3 15 _ rfl (by kernel_rfl)).is).b, ?_⟩
        refine ⟨fun a' w' F => StepG.run rfl (wanted_none rfl) (arm_move (.inr rfl) (F.at' 4 16 _ rfl (by kernel_rfl)).is).b, ?_⟩
        exact trivial
      intro E' hE gp wp bp G Gs
      obtain rfl : E' = [] := by simpa [subs] using hE
      have e_5 : gp 5 = Value.int IntKind.i64 n := G 5 3 _ (by simp) rfl
      have e_6 : gp 6 = Value.bool true := G 6 4 _ (by simp) rfl
      clear G Gs hE
      simp only [lFlT7]
      simp only [putD, entries, List.map_cons, List.map_nil, List.foldl_cons, List.foldl_nil, Act.put, List.setIfInBounds_toArray, List.set_cons_zero, List.set_cons_succ, e_5, e_6]
      refine wpAny_done (by kernel_rfl) ?_ _
      go_wp2_with fail
      go_meet
      case rel => exact ⟨rfl, rfl, (V0.mono bp), (hb1.trans (bp.mono hb1.size))⟩
    case rest =>
    clear V0 hb1
    obtain ⟨rfl, rfl, V0, hb1⟩ := hcut
    go_upto_region 4 with (fail)
    go_cut [5, 6] (fun s_5 s_6 wx => s_5 = Value.int IntKind.i64 n ∧ s_6 = Value.bool true ∧ VarQ wx w.heap.size x ∧ Below w.heap.size w wx)
    case first =>
      refine wp_tabGF Try.f7 4 (lFlT8 x n) [] (fun _ => false) 6 0 (by kernel_rfl) (by kernel_rfl) (by kernel_rfl) (by kernel_rfl) (by kernel_rfl) (EachX.of_all (fun _ h => by cases h) _) ?_ ?_
      · refine ⟨fun a' w' F => StepG.run rfl (wanted_none rfl) (arm_loadF rfl (F.keep 1 (Value.pointer (some ⟨w.heap.size, 0, none⟩)) (by kernel_rfl) rfl).is (V0.mono F.below)).b, ?_⟩
        refine ⟨fun a' w' F => StepG.run rfl (wanted_none rfl) (arm_C1 rfl (enters Try.func33 rfl rfl) (F.at' 0 18 _ rfl (by kernel_rfl)).is (fun va w h1 => q_rFloor va x w h1 (hx.mono (by decide))) (fun _ _ h => ofFl hf.out h)).b, ?_⟩
        refine ⟨fun a' w' F => StepG.run rfl (wanted_none rfl) (arm_move (.inl rfl) (F.at' 1 19 _ rfl (by kernel_rfl)).is).b, ?_⟩
        refine ⟨fun a' w' F => StepG.run rfl (wanted_none rfl) (arm_pair0 rfl (F.at' 2 17 _ rfl (by kernel_rfl)).is).b, ?_⟩
        refine ⟨fun a' w' F => StepG.run rfl (wanted_none rfl) (arm_pair1 rfl (F.at' 2 17 _ rfl (by kernel_rfl)).is).b, ?_⟩
        refine ⟨fun a' w' F => StepG.run rfl (wanted_none rfl) (arm_move (.inr rfl) (F.at' 3 20 _ rfl (by kernel_rfl)).is).b, ?_⟩
        refine ⟨fun a' w' F => StepG.run rfl (wanted_none rfl) (arm_move (.inr rfl) (F.at' 4 21 _ rfl (by kernel_rfl)).is).b, ?_⟩
        exact trivial
      intro E' hE gp wp bp G Gs
      obtain rfl : E' = [] := by simpa [subs] using hE
      have e_5 : gp 5 = Value.int IntKind.i64 n := G 5 5 _ (by simp) rfl
      have e_6 : gp 6 = Value.bool true := G 6 6 _ (by simp) rfl
      clear G Gs hE
      simp only [lFlT8]
      simp only [putD, entries, List.map_cons, List.map_nil, List.foldl_cons, List.foldl_nil, Act.put, List.setIfInBounds_toArray, List.set_cons_zero, List.set_cons_succ, e_5, e_6]
      refine wpAny_done (by kernel_rfl) ?_ _
      go_wp2_with fail
      go_meet
      case rel => exact ⟨rfl, rfl, (V0.mono bp), (hb1.trans (bp.mono hb1.size))⟩
    case rest =>
    clear V0 hb1
    obtain ⟨rfl, rfl, V0, hb1⟩ := hcut
    go_upto_region 5 with (fail)
    go_cut [29] (fun s_29 wx => s_29 = Value.bool false ∧ VarQ wx w.heap.size x ∧ Below w.heap.size w wx)
    case first =>
      refine wp_tabGF Try.f7 5 (lFlT9 n) [] (fun _ => false) 6 0 (by kernel_rfl) (by kernel_rfl) (by kernel_rfl) (by kernel_rfl) (by kernel_rfl) (EachX.of_all (fun _ h => by cases h) _) ?_ ?_
      · refine ⟨fun a' w' F => StepG.run rfl (wanted_none rfl) (arm_move (.inl rfl) (F.keep 3 (Value.int IntKind.i64 n) (by kernel_rfl) rfl).is).b, ?_⟩
        refine ⟨fun a' w' F => StepG.run rfl (wanted_none rfl) (arm_move (.inl rfl) (F.keep 5 (Value.int IntKind.i64 n) (by kernel_rfl) rfl).is).b, ?_⟩
        refine ⟨fun a' w' F => StepG.run rfl (wanted_none rfl) (arm_bin rfl (F.at' 0 22 _ rfl (by kernel_rfl)).is (F.at' 1 23 _ rfl (by kernel_rfl)).is (fun _ => rfl) (fun w => run_neJ _ _ w)).b, ?_⟩
        refine ⟨fun a' w' F => StepG.run rfl (wanted_none rfl) (arm_move (.inl rfl) (F.at' 2 24 _ rfl (by kernel_rfl)).is).b, ?_⟩
        refine ⟨fun a' w' F => StepG.run rfl (wanted_some rfl rfl (F.at' 3 25 _ rfl (by kernel_rfl))) (arm_move (.inl rfl) (F.keep 4 (Value.bool true) (by kernel_rfl) rfl).is).b, ?_⟩
        refine ⟨fun a' w' F => StepG.run rfl (wanted_some rfl rfl (F.at' 3 25 _ rfl (by kernel_rfl))) (arm_move (.inl rfl) (F.keep 6 (Value.bool true) (by kernel_rfl) rfl).is).b, ?_⟩
        refine ⟨fun a' w' F => StepG.run rfl (wanted_some rfl rfl (F.at' 3 25 _ rfl (by kernel_rfl))) (arm_bin rfl (F.at' 4 26 _ rfl (by kernel_rfl)).is (F.at' 5 27 _ rfl (by kernel_rfl)).is (fun _ => rfl) (fun _ => rfl)).b, ?_⟩
        refine ⟨fun a' w' F => StepG.run rfl (wanted_none rfl) (arm_pick rfl (F.at' 3 25 _ rfl (by kernel_rfl)).is (fun h => by cases h) (fun _ => (F.at' 6 28 _ rfl (by kernel_rfl)).is)).b, ?_⟩
        exact trivial
      intro E' hE gp wp bp G Gs
      obtain rfl : E' = [] := by simpa [subs] using hE
      have e_7 : gp 7 = Value.bool false := G 7 29 _ (by simp) rfl
      clear G Gs hE
      simp only [lFlT9]
      simp only [putD, entries, List.map_cons, List.map_nil, List.foldl_cons, List.foldl_nil, Act.put, List.setIfInBounds_toArray, List.set_cons_zero, List.set_cons_succ, e_7]
      refine wpAny_done (by kernel_rfl) ?_ _
      go_wp2_with fail
      go_meet
      case rel => exact ⟨rfl, (V0.mono bp), (hb1.trans (bp.mono hb1.size))⟩
    case rest =>
    clear V0 hb1
    obtain ⟨rfl, V0, hb1⟩ := hcut
    go_upto_region 7 with (fail)
    go_cut [31] (fun s_31 wx => s_31 = Value.bool false ∧ VarQ wx w.heap.size x ∧ Below w.heap.size w wx)
    case first =>
      refine wp_tabGF Try.f7 7 (lFlT10 ) [] (fun _ => false) 2 0 (by kernel_rfl) (by kernel_rfl) (by kernel_rfl) (by kernel_rfl) (by kernel_rfl) (EachX.of_all (fun _ h => by cases h) _) ?_ ?_
      · refine ⟨fun a' w' F => StepG.run rfl (wanted_none rfl) (arm_move (.inl rfl) (F.keep 4 (Value.bool true) (by kernel_rfl) rfl).is).b, ?_⟩
        refine ⟨fun a' w' F => StepG.run rfl (wanted_none rfl) (arm_not rfl (F.at' 0 30 _ rfl (by kernel_rfl)).is).b, ?_⟩
        exact trivial
      intro E' hE gp wp bp G Gs
      obtain rfl : E' = [] := by simpa [subs] using hE
      have e_1 : gp 1 = Value.bool false := G 1 31 _ (by simp) rfl
      clear G Gs hE
      simp only [lFlT10]
      simp only [putD, entries, List.map_cons, List.map_nil, List.foldl_cons, List.foldl_nil, Act.put, List.setIfInBounds_toArray, List.set_cons_zero, List.set_cons_succ, e_1]
      refine wpAny_done (by kernel_rfl) ?_ _
      go_wp2_with fail
      go_meet
      case rel => exact ⟨rfl, (V0.mono bp), (hb1.trans (bp.mono hb1.size))⟩
    case rest =>
    clear V0 hb1
    obtain ⟨rfl, V0, hb1⟩ := hcut
    go_upto_region 9 with (fail)
    go_cut [7] (fun s_7 wx => ∃ g7, s_7 = Value.pointer (some ⟨g7, 0, none⟩) ∧ w.heap.size + 1 ≤ g7 ∧ VarQ wx g7 (x.sub (Fq.ofInt n)) ∧ VarQ wx w.heap.size x ∧ Below w.heap.size w wx)
    case first =>
      obtain ⟨base, hbase0⟩ : ∃ b : Nat, Hid (b = wc.heap.size) := ⟨_, Lib.hid rfl⟩
      have hbase : base ≤ wc.heap.size := by rw [hbase0.out]; exact Nat.le_refl _
      have hbw : w.heap.size + 1 ≤ base := by have := hb1.size; have h1 := V0.lt; rw [hbase0.out]; omega
      have l_V0 : w.heap.size < base := by rw [hbase0.out]; exact V0.lt
      refine wp_tabG Try.f7 9 (lFlT11 x n base) [] (fun i => i == 4) 4 1 (by kernel_rfl) (by kernel_rfl) (by kernel_rfl) (by kernel_rfl) (by kernel_rfl) ⟨fun h => (by cases h), ⟨fun h => (by cases h), ⟨fun h => (by cases h), ⟨fun h => (by cases h), ⟨fun _ w v h => Sp.varF_lt h, trivial⟩⟩⟩⟩⟩ ?_ ?_
      · refine ⟨fun a' w' F => StepG.run rfl (wanted_none rfl) (arm_loadF rfl (F.keep 1 (Value.pointer (some ⟨w.heap.size, 0, none⟩)) (by kernel_rfl) rfl).is (V0.mono F.below)).b, ?_⟩
        refine ⟨fun a' w' F => StepG.run rfl (wanted_none rfl) (arm_move (.inl rfl) (F.keep 3 (Value.int IntKind.i64 n) (by kernel_rfl) rfl).is).b, ?_⟩
        refine ⟨fun a' w' F => StepG.run rfl (wanted_none rfl) (arm_C1 rfl (enters Try.func22 rfl rfl) (F.at' 1 34 _ rfl (by kernel_rfl)).is (fun va w h1 => by have e_va : va = _ := h1; subst e_va; exact q_fInt n w ln rn) (fun _ _ h => ofQ h)).b, ?_⟩
        refine ⟨fun a' w' F => StepG.run rfl (wanted_none rfl) (arm_C2 rfl (enters Try.func34 rfl rfl) (F.at' 0 33 _ rfl (by kernel_rfl)).is (F.at' 2 35 _ rfl (by kernel_rfl)).is (fun va vb w h1 h2 => q_fSub va vb x (Fq.ofInt n) w h1 h2 (hx.mono (by decide)) ((ok_int ln rn).mono (by decide))) (fun _ _ h => ofQ h)).b, ?_⟩
        refine ⟨fun a' w' F => StepG.run rfl (wanted_none rfl) (arm_allocF rfl (Nat.le_trans hbase F.below.size)), ?_⟩
        exact trivial
      intro E' hE gp wp bp G Gs
      obtain rfl : E' = [] := by simpa [subs] using hE
      obtain ⟨g7, e_4, lg_4, hv_4⟩ := G 4 7 _ (by simp) rfl
      have n_3 : (Sp.fq (x.sub (Fq.ofInt n))).p wp (gp 3) := G 3 36 _ (by simp) rfl
      clear G Gs hE
      simp only [lFlT11]
      simp only [putD, entries, List.map_cons, List.map_nil, List.foldl_cons, List.foldl_nil, Act.put, List.setIfInBounds_toArray, List.set_cons_zero, List.set_cons_succ, e_4]
      have T0 := hv_4
      refine wpAny_storeFr (j := 5) (by kernel_rfl) rfl rfl rfl rfl rfl n_3 T0.any ?_
      intro w0 u0 v0
      have O0 := T0.own
      refine wpAny_done (by kernel_rfl) ?_ _
      go_wp2_with fail
      go_meet
      case rel => exact ⟨g7, rfl, (by omega), v0, ((V0.mono bp).upd O0 u0 (by omega)), (Upd.below (hb1.trans (bp.mono hb1.size)) u0 (by omega))⟩
    case rest =>
    clear V0 hb1
    obtain ⟨g7, rfl, lg7, V7, V0, hb1⟩ := hcut
    go_upto_region 10 with (fail)
    go_cut [2] (fun s_2 wx => s_2 = Value.bool true ∧ VarQ wx w.heap.size x ∧ VarQ wx g7 (x.sub (Fq.ofInt n)) ∧ Below w.heap.size w wx)
    case first =>
      refine wp_tabG Try.f7 10 (lFlT12 x n) [] (fun _ => false) 12 0 (by kernel_rfl) (by kernel_rfl) (by kernel_rfl) (by kernel_rfl) (by kernel_rfl) (EachX.of_all (fun _ h => by cases h) _) ?_ ?_
      · refine ⟨fun a' w' F => StepG.run rfl (wanted_none rfl) (arm_loadF rfl (F.keep 7 (Value.pointer (some ⟨g7, 0, none⟩)) (by kernel_rfl) rfl).is (V7.mono F.below)).b, ?_⟩
        refine ⟨fun a' w' F => StepG.run rfl (wanted_none rfl) (arm_C1 rfl (enters Try.func35 rfl rfl) (F.at' 0 37 _ rfl (by kernel_rfl)).is (fun va w h1 => q_fSign va (x.sub (Fq.ofInt n)) w h1 ((hx.sub (ok_int ln rn)).mono (by decide))) (fun _ _ h => ofV h)).b, ?_⟩
        refine ⟨fun a' w' F => StepG.run rfl (wanted_none rfl) (arm_bin rfl (F.at' 1 38 _ rfl (by kernel_rfl)).is Is.const (fun _ => rfl) (fun w => by rw [G1.out]; rfl)).b, ?_⟩
        refine ⟨fun a' w' F => StepG.run rfl (wanted_none rfl) (arm_move (.inl rfl) (F.at' 2 39 _ rfl (by kernel_rfl)).is).b, ?_⟩
        refine ⟨fun a' w' F => StepG.run rfl (wanted_some rfl rfl (F.at' 3 40 _ rfl (by kernel_rfl))) (arm_loadF rfl (F.keep 7 (Value.pointer (some ⟨g7, 0, none⟩)) (by kernel_rfl) rfl).is (V7.mono F.below)).b, ?_⟩
        refine ⟨fun a' w' F => StepG.run rfl (wanted_some rfl rfl (F.at' 3 40 _ rfl (by kernel_rfl))) (arm_C1 rfl (enters Try.func23 rfl rfl) Is.const (fun va w h1 => by have e_va : va = _ := h1; subst e_va; exact q_rInt 1 w (by decide) (by decide)) (fun _ _ h => ofQ h)).b, ?_⟩
        refine ⟨fun a' w' F => StepG.run rfl (wanted_some rfl rfl (F.at' 3 40 _ rfl (by kernel_rfl))) (arm_C2 rfl (enters Try.func36 rfl rfl) (F.at' 4 41 _ rfl (by kernel_rfl)).is (F.at' 5 42 _ rfl (by kernel_rfl)).is (fun va vb w h1 h2 => q_fCmp va vb (x.sub (Fq.ofInt n)) (Fq.ofInt 1) w h1 h2 ((hx.sub (ok_int ln rn)).mono (by decide)) ((ok_int (by decide) (by decide)).mono (by decide))) (fun _ _ h => ofV h)).b, ?_⟩
        refine ⟨fun a' w' F => StepG.run rfl (wanted_some rfl rfl (F.at' 3 40 _ rfl (by kernel_rfl))) (arm_bin rfl (F.at' 6 43 _ rfl (by kernel_rfl)).is Is.const (fun _ => rfl) (fun w => by rw [G2.out]; rfl)).b, ?_⟩
        refine ⟨fun a' w' F => StepG.run rfl (wanted_none rfl) (arm_pick rfl (F.at' 3 40 _ rfl (by kernel_rfl)).is (fun _ => (F.at' 7 44 _ rfl (by kernel_rfl)).is) (fun h => by cases h)).b, ?_⟩
        refine ⟨fun a' w' F => StepG.run rfl (wanted_none rfl) (arm_move (.inl rfl) (F.at' 8 45 _ rfl (by kernel_rfl)).is).b, ?_⟩
        refine ⟨fun a' w' F => StepG.run rfl (wanted_some rfl rfl (F.at' 9 46 _ rfl (by kernel_rfl))) (arm_C0 rfl (enters Try.func11 rfl rfl)  (fun w => c_awake2 w) (fun _ _ h => ofV h)).b, ?_⟩
        refine ⟨fun a' w' F => StepG.run rfl (wanted_none rfl) (arm_pick rfl (F.at' 9 46 _ rfl (by kernel_rfl)).is (fun _ => (F.at' 10 47 _ rfl (by kernel_rfl)).is) (fun h => by cases h)).b, ?_⟩
        refine ⟨fun a' w' F => StepG.run rfl (wanted_none rfl) (arm_move (.inr rfl) (F.at' 11 48 _ rfl (by kernel_rfl)).is).b, ?_⟩
        exact trivial
      intro E' hE gp wp bp G Gs
      obtain rfl : E' = [] := by simpa [subs] using hE
      have e_12 : gp 12 = Value.bool true := G 12 2 _ (by simp) rfl
      clear G Gs hE
      simp only [lFlT12]
      simp only [putD, entries, List.map_cons, List.map_nil, List.foldl_cons, List.foldl_nil, Act.put, List.setIfInBounds_toArray, List.set_cons_zero, List.set_cons_succ, e_12]
      refine wpAny_done (by kernel_rfl) ?_ _
      go_wp2_with fail
      go_meet
      case rel => exact ⟨rfl, (V0.mono bp), (V7.mono bp), (hb1.trans (bp.mono hb1.size))⟩
    case rest =>
    clear V0 V7 hb1
    obtain ⟨rfl, V0, V7, hb1⟩ := hcut
    go_wp2
    go_ret
    exact ⟨rfl, hb1⟩
def lFlUT0 (sx : Bool) (Lx : Nat) (px : Nat) (Nx : Nat) (qx : Nat) : List (Nat × Tmp × Sp) :=
   [(0, 8, .frR sx Lx px Nx qx),
    (1, 9, .val (Value.bool false)),
    (2, 10, .val (Value.bool true))]
def lFlUT1  : List (Nat × Tmp × Sp) :=
   [(0, 11, .val (Value.bool true)),
    (1, 2, .val (Value.bool true))]
set_option maxHeartbeats 4000000 in
theorem c_lFlU (vx : Value) (sx : Bool) (Lx px Nx qx : Nat) (w : World) (ix : IsFR w vx sx Lx px Nx qx) (hn : ¬(FitP sx Lx px Nx qx)) :
    Calls Try.prog 7 #[vx] w fun e w' => RetV w (.bool true) e w' := by
  have fx : ¬ FitP sx Lx px Nx qx := fun h9 => hn h9
  clear hn
  obtain ⟨a0, c0, b0, d0, rfl, m0, k0⟩ := boxR ix
  clear ix
  go_enter Try.func7, Try.ntmps7
  go_upto_region 0 with (fail)
  go_cut [1, 2] (fun s_1 s_2 wx => s_1 = Value.pointer (some ⟨w.heap.size, 0, none⟩) ∧ s_2 = Value.bool false ∧ VarFR wx w.heap.size sx Lx px Nx qx ∧ Below w.heap.size w wx)
  case first =>
    go_wp2_with fail
    go_meet
    case rel => exact ⟨rfl, rfl, k0, m0⟩
  case rest =>
  clear m0 k0
  obtain ⟨rfl, rfl, V0, hb1⟩ := hcut
  go_upto_region 1 with (fail)
  go_cut [10] (fun s_10 wx => s_10 = Value.bool true ∧ VarFR wx w.heap.size sx Lx px Nx qx ∧ Below w.heap.size w wx)
  case first =>
    refine wp_tabGF Try.f7 1 (lFlUT0 sx Lx px Nx qx) [] (fun _ => false) 3 0 (by kernel_rfl) (by kernel_rfl) (by kernel_rfl) (by kernel_rfl) (by kernel_rfl) (EachX.of_all (fun _ h => by cases h) _) ?_ ?_
    · refine ⟨fun a' w' F => StepG.run rfl (wanted_none rfl) (arm_loadFR rfl (F.keep 1 (Value.pointer (some ⟨w.heap.size, 0, none⟩)) (by kernel_rfl) rfl).is (V0.mono F.below)).b, ?_⟩
      refine ⟨fun a' w' F => StepG.run rfl (wanted_none rfl) (arm_C1 rfl (enters Try.func18 rfl rfl) (F.at' 0 8 _ rfl (by kernel_rfl)).is (fun va w h1 => q_fitF va sx Lx px Nx qx w h1 fx) (fun _ _ h => ofV h)).b, ?_⟩
      refine ⟨fun a' w' F => StepG.run rfl (wanted_none rfl) (arm_not rfl (F.at' 1 9 _ rfl (by kernel_rfl)).is).b, ?_⟩
      exact trivial
    intro E' hE gp wp bp G Gs
    obtain rfl : E' = [] := by simpa [subs] using hE
    have e_2 : gp 2 = Value.bool true := G 2 10 _ (by simp) rfl
    clear G Gs hE
    simp only [lFlUT0]
    simp only [putD, entries, List.map_cons, List.map_nil, List.foldl_cons, List.foldl_nil, Act.put, List.setIfInBounds_toArray, List.set_cons_zero, List.set_cons_succ, e_2]
    refine wpAny_done (by kernel_rfl) ?_ _
    go_wp2_with fail
    go_meet
    case rel => exact ⟨rfl, (V0.mono bp), (hb1.trans (bp.mono hb1.size))⟩
  case rest =>
  clear V0 hb1
  obtain ⟨rfl, V0, hb1⟩ := hcut
  go_upto_region 2 with (fail)
  go_cut [2] (fun s_2 wx => s_2 = Value.bool true ∧ VarFR wx w.heap.size sx Lx px Nx qx ∧ Below w.heap.size w wx)
  case first =>
    refine wp_tabGF Try.f7 2 (lFlUT1 ) [] (fun _ => false) 2 0 (by kernel_rfl) (by kernel_rfl) (by kernel_rfl) (by kernel_rfl) (by kernel_rfl) (EachX.of_all (fun _ h => by cases h) _) ?_ ?_
    · refine ⟨fun a' w' F => StepG.run rfl (wanted_none rfl) (arm_C0 rfl (enters Try.func11 rfl rfl)  (fun w => c_awake2 w) (fun _ _ h => ofV h)).b, ?_⟩
      refine ⟨fun a' w' F => StepG.run rfl (wanted_none rfl) (arm_move (.inr rfl) (F.at' 0 11 _ rfl (by kernel_rfl)).is).b, ?_⟩
      exact trivial
    intro E' hE gp wp bp G Gs
    obtain rfl : E' = [] := by simpa [subs] using hE
    have e_1 : gp 1 = Value.bool true := G 1 2 _ (by simp) rfl
    clear G Gs hE
    simp only [lFlUT1]
    simp only [putD, entries, List.map_cons, List.map_nil, List.foldl_cons, List.foldl_nil, Act.put, List.setIfInBounds_toArray, List.set_cons_zero, List.set_cons_succ, e_1]
    refine wpAny_done (by kernel_rfl) ?_ _
    go_wp2_with fail
    go_meet
    case rel => exact ⟨rfl, (V0.mono bp), (hb1.trans (bp.mono hb1.size))⟩
  case rest =>
  clear V0 hb1
  obtain ⟨rfl, V0, hb1⟩ := hcut
  go_wp2
  go_ret
  exact ⟨rfl, hb1⟩
theorem c_FractionFloors (vx : Value) (sx : Bool) (Lx px Nx qx : Nat) (w : World) (ix : IsFR w vx sx Lx px Nx qx) :
    Calls Try.prog 7 #[vx] w fun e w' => RetV w (.bool true) e w' := by
  by_cases hn : FitP sx Lx px Nx qx
  · have fx := hn
    obtain ⟨x, jx, hx, ex⟩ := FitP.split fx ix
    exact c_lFlT vx x w jx hx ex
  · exact c_lFlU vx sx Lx px Nx qx w ix hn
end Go.Proofs.Ytldnimohnbjfaaa
namespace Go.Proofs.Ytldnimohnbjfaaa
set_option linter.unusedSimpArgs false
set_option linter.unusedVariables false
set_option maxRecDepth 100000
open Go.RowKit
open Go.ChangeShapes Go.WideShapes Go.ChangeAt Go.RowKit
theorem digits_exist (f : Nat → Nat) (hf : ∀ j, f j < 4294967296) : ∀ L, ∃ N, N < 4294967296 ^ L ∧ ∀ j, j < L → D N j = f j
  | 0 => ⟨0, by simp, fun j h => by omega⟩
  | L + 1 => by
    obtain ⟨N, h1, h2⟩ := digits_exist f hf L
    refine ⟨upd N L (f L), upd_lt (Nat.lt_of_lt_of_le h1 (Nat.pow_le_pow_right (by decide) (Nat.le_succ L))) (Nat.lt_succ_self L) (hf L), fun j hj => ?_⟩
    by_cases e : j = L
    · subst e; exact D_upd_same N j (f j) (hf j)
    · rw [D_upd_other N L (f L) j (hf L) e]; exact h2 j (by omega)
end Go.Proofs.Ytldnimohnbjfaaa
namespace Go.Proofs.Ytldnimohnbjfaaa
set_option linter.unusedSimpArgs false
set_option linter.unusedVariables false
set_option maxRecDepth 100000
open Go.RowKit
open Go.ChangeShapes Go.WideShapes Go.ChangeAt Go.RowKit
theorem open_natc {H : Type} {enc : TypeId × Value → H} {W : World} {fuel : Nat} {u : Value} {x : DataW H × List MemPlace} (hf : DataW.trod enc Try.prog W 0 (fun _ => true) true fuel 24 [u] = some x) :
    ∃ a L cap m, u = .slice a L cap ∧ IsR W (.agg #[.slice a L cap]) L m ∧ L ≤ 9223372036854775807 := by
  obtain ⟨y0, n, hy, hl0, h1⟩ := trod_struct1 Try.underlying24 hf
  have hc2 : Try.prog.cellsOf 22 = 1 := by kernel_rfl
  simp [hc2] at h1
  rcases open_ints Try.underlying22 Try.underlying69 (by kernel_rfl) h1 with ⟨hcs, _⟩ | ⟨x, l, c, zs, hcs, _, hl, hm, hz, _, hcell, hwz⟩
  · simp at hcs
    subst hcs
    exact ⟨none, 0, 0, 0, rfl, ⟨none, 0, rfl, Nat.le_refl _, by simp, fun h => by omega⟩, by decide⟩
  · simp at hcs
    subst hcs
    obtain ⟨N, hN, hD⟩ := digits_exist (fun j => (zs.getD j 0).toNat) (fun j => by
      have := range_u32 hwz j
      have e : zs.getD j 0 = zs[j]?.getD 0 := by simp
      rw [e]; omega) l
    refine ⟨some x, l, c, N, rfl, ⟨some x, c, rfl, hl, hN, fun h0 => ?_⟩, by simp only [maxLen] at hm; omega⟩
    obtain ⟨b, off, spot⟩ := x
    have hc0 := hcell 0 (by rw [hz]; simp; omega)
    have hspot : spot = none := by simpa [Addr.add] using World.cell?_spot hc0
    subst hspot
    refine ⟨b, off, rfl, fun j hj => ?_⟩
    have h2 := hcell j (by rw [hz]; simp; omega)
    have hadd : (⟨b, off, none⟩ : Addr).add j = ⟨b, off + j, none⟩ := by unfold Addr.add; split <;> simp_all
    rw [hadd] at h2
    rw [h2, hD j hj]
    have := range_u32 hwz j
    have e : zs.getD j 0 = zs[j]?.getD 0 := by simp
    rw [e, Int.toNat_of_nonneg this.1]
theorem three {α : Type} {cs : Array α} (h : cs.size = 3) : ∃ a b c, cs = #[a, b, c] :=
  ⟨cs[0], cs[1], cs[2], by
    apply Array.ext
    · simp [h]
    · intro i h1 h2
      have : i = 0 ∨ i = 1 ∨ i = 2 := by omega
      rcases this with rfl | rfl | rfl <;> rfl⟩
theorem open_frac {H : Type} {enc : TypeId × Value → H} {W : World} {base : Nat} {v : Value} {d : DataW H} {p : List MemPlace} (hval : Value.okWide Try.prog W .any base 26 v) (h : DataW.Trod enc Try.prog W 0 (fun _ => true) true 26 v d p) :
    ∃ s L m N k, IsFR W v s L m N k ∧ L ≤ 9223372036854775807 ∧ N ≤ 9223372036854775807 := by
  obtain ⟨cs, rfl, hcs⟩ := okWide_struct Try.underlying26 hval
  obtain ⟨fuel, hf⟩ := h
  have hc : Try.prog.cellsOf 26 = 3 := by kernel_rfl
  have hcn : Try.prog.cellsOf 24 = 1 := by kernel_rfl
  have hcb : Try.prog.cellsOf 4 = 1 := by kernel_rfl
  rw [hc] at hcs
  obtain ⟨u0, u1, u2, rfl⟩ := three hcs
  obtain ⟨y0, y1, y2, n, hy, hl0, h0, h1, h2⟩ := Go.Deep.trod_struct3 Try.underlying26 hf
  simp [Value.cells, hcn, hcb] at h0 h1 h2
  obtain ⟨s, h3, _⟩ := DataW.trod_bool Try.underlying4 h0
  obtain rfl : u0 = .bool s := by simpa using h3
  obtain ⟨a, L, c, m, rfl, i1, l1⟩ := open_natc h1
  obtain ⟨a', N, c', k, rfl, i2, l2⟩ := open_natc h2
  exact ⟨s, L, m, N, k, ⟨a, c, a', c', rfl, i1, i2⟩, l1, l2⟩
end Go.Proofs.Ytldnimohnbjfaaa
