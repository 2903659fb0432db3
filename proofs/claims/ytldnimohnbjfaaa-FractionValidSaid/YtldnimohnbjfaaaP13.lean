/- fit; the law FractionValid. What an argument of type api.Nat is: a row of digits. What an argument of type api.Frac is: a sign and two rows of digits. -/
import Derived.Test.YtldnimohnbjfaaaP12
import Derived.WalkKit
import Derived.ProofKit
import Derived.OpenShut
import Derived.ShutString
import Derived.ChangeOld
import Derived.Below
import Derived.Deep.Strs
namespace Go.Proofs.Ytldnimohnbjfaaa
set_option linter.unusedSimpArgs false
set_option linter.unusedVariables false
set_option maxRecDepth 100000
open Go.RowKit
def lawValidT0 (w : World) (L : Nat) (N : Nat) : List (Nat × Tmp × Sp) :=
   [(0, 3, .val (Value.pointer (some ⟨w.heap.size, 1, none⟩))),
    (1, 4, .val (Value.pointer (some ⟨w.heap.size, 1, none⟩))),
    (2, 5, .sl L),
    (3, 6, .val (Value.int IntKind.i64 (L : Int))),
    (4, 7, .val (Value.bool false)),
    (5, 8, .val (Value.bool false)),
    (6, 9, .val (Value.pointer (some ⟨w.heap.size, 2, none⟩))),
    (7, 10, .val (Value.pointer (some ⟨w.heap.size, 2, none⟩))),
    (8, 11, .sl N),
    (9, 12, .val (Value.int IntKind.i64 (N : Int))),
    (10, 13, .val (Value.bool false)),
    (11, 14, .val (Value.bool false))]
def lawValidT1 (s : Bool) (L : Nat) (p : Nat) (N : Nat) (q : Nat) (V : Bool) : List (Nat × Tmp × Sp) :=
   [(0, 16, .frR s L p N q),
    (1, 17, .val (Value.bool V)),
    (2, 18, .frR s L p N q),
    (3, 19, .val (Value.bool V)),
    (4, 20, .val (Value.bool true)),
    (5, 21, .val (Value.bool true)),
    (6, 22, .val (Value.bool true)),
    (7, 23, .val (Value.bool true)),
    (8, 2, .val (Value.bool true))]
def lawValidT2 (w : World) (L : Nat) (N : Nat) : List (Nat × Tmp × Sp) :=
   [(0, 3, .val (Value.pointer (some ⟨w.heap.size, 1, none⟩))),
    (1, 4, .val (Value.pointer (some ⟨w.heap.size, 1, none⟩))),
    (2, 5, .sl L),
    (3, 6, .val (Value.int IntKind.i64 (L : Int))),
    (4, 7, .val (Value.bool false)),
    (5, 8, .val (Value.bool false)),
    (6, 9, .val (Value.pointer (some ⟨w.heap.size, 2, none⟩))),
    (7, 10, .val (Value.pointer (some ⟨w.heap.size, 2, none⟩))),
    (8, 11, .sl N),
    (9, 12, .val (Value.int IntKind.i64 (N : Int))),
    (10, 13, .val (Value.bool false)),
    (11, 14, .val (Value.bool false))]
def lawValidT3 (s : Bool) (L : Nat) (p : Nat) (N : Nat) (q : Nat) : List (Nat × Tmp × Sp) :=
   [(0, 16, .frR s L p N q),
    (1, 17, .val (Value.bool false)),
    (2, 18, .frR s L p N q),
    (3, 19, .val (Value.bool false)),
    (4, 20, .val (Value.bool true)),
    (5, 21, .val (Value.bool true)),
    (6, 22, .val (Value.bool true)),
    (7, 23, .val (Value.bool true)),
    (8, 2, .val (Value.bool true))]
def lawValidT4 (w : World) (L : Nat) (N : Nat) : List (Nat × Tmp × Sp) :=
   [(0, 3, .val (Value.pointer (some ⟨w.heap.size, 1, none⟩))),
    (1, 4, .val (Value.pointer (some ⟨w.heap.size, 1, none⟩))),
    (2, 5, .sl L),
    (3, 6, .val (Value.int IntKind.i64 (L : Int))),
    (4, 7, .val (Value.bool false)),
    (5, 8, .val (Value.bool false)),
    (6, 9, .val (Value.pointer (some ⟨w.heap.size, 2, none⟩))),
    (7, 10, .val (Value.pointer (some ⟨w.heap.size, 2, none⟩))),
    (8, 11, .sl N),
    (9, 12, .val (Value.int IntKind.i64 (N : Int))),
    (10, 13, .val (Value.bool true)),
    (11, 14, .val (Value.bool true))]
def lawValidT5  : List (Nat × Tmp × Sp) :=
   [(0, 15, .val (Value.bool true)),
    (1, 2, .val (Value.bool true))]
def lawValidT6 (w : World) (L : Nat) : List (Nat × Tmp × Sp) :=
   [(0, 3, .val (Value.pointer (some ⟨w.heap.size, 1, none⟩))),
    (1, 4, .val (Value.pointer (some ⟨w.heap.size, 1, none⟩))),
    (2, 5, .sl L),
    (3, 6, .val (Value.int IntKind.i64 (L : Int))),
    (4, 7, .val (Value.bool true)),
    (5, 8, .val (Value.bool true)),
    (6, 9, .val undef),
    (7, 10, .val undef),
    (8, 11, .val undef),
    (9, 12, .val undef),
    (10, 13, .val undef),
    (11, 14, .val (Value.bool true))]
def lawValidT7  : List (Nat × Tmp × Sp) :=
   [(0, 15, .val (Value.bool true)),
    (1, 2, .val (Value.bool true))]
set_option maxHeartbeats 4000000 in
theorem c_FractionValid (va : Value) (s : Bool) (L p N q : Nat) (w : World) (ha : IsFR w va s L p N q) :
    Calls Try.prog 3 #[va] w fun e w' => RetV w (.bool true) e w' := by
  by_cases h1 : L ≤ 12
  · have HL : Hid (false = decide (12 < (L : Int))) := Lib.hid (by symm; apply decide_eq_false; omega)
    by_cases h2 : N ≤ 12
    · have HN : Hid (false = decide (12 < (N : Int))) := Lib.hid (by symm; apply decide_eq_false; omega)
      have hl : L ≤ 1000000 := by omega
      have hn : N ≤ 1000000 := by omega
      by_cases h3 : nl p = L ∧ nl q = N
      · obtain ⟨h3, h4⟩ := h3
        have bp : nl p ≤ 1000000 := by omega
        have bq : nl q ≤ 1000000 := by omega
        have H3 := Lib.hid h3
        have H4 := Lib.hid h4
        clear h1 h2 h3 h4
        obtain ⟨V, hV⟩ : ∃ V : Bool, Hid ((Fq.mk s p q).valid = V) := ⟨_, Lib.hid rfl⟩
        have HV : Hid (true = (V == V)) := Lib.hid (by simp)
        obtain ⟨a0, c0, b0, d0, rfl, m0, k0⟩ := boxR ha
        clear ha
        go_enter Try.func3, Try.ntmps3
        go_upto_region 0 with (fail)
        go_cut [1, 2] (fun s_1 s_2 wx => s_1 = Value.pointer (some ⟨w.heap.size, 0, none⟩) ∧ s_2 = Value.bool false ∧ VarFR wx w.heap.size s L p N q ∧ Below w.heap.size w wx)
        case first =>
          go_wp2_with fail
          go_meet
          case rel => exact ⟨rfl, rfl, k0, m0⟩
        case rest =>
        clear m0 k0
        obtain ⟨rfl, rfl, V0, hb1⟩ := hcut
        go_upto_region 1 with (fail)
        go_cut [14] (fun s_14 wx => s_14 = Value.bool false ∧ VarFR wx w.heap.size s L p N q ∧ Below w.heap.size w wx)
        case first =>
          refine wp_tabGF Try.f3 1 (lawValidT0 w L N) [] (fun _ => false) 12 0 (by kernel_rfl) (by kernel_rfl) (by kernel_rfl) (by kernel_rfl) (by kernel_rfl) (EachX.of_all (fun _ h => by cases h) _) ?_ ?_
          · refine ⟨fun a' w' F => StepG.run rfl (wanted_none rfl) (arm_fieldF rfl (F.keep 1 (Value.pointer (some ⟨w.heap.size, 0, none⟩)) (by kernel_rfl) rfl).is (run_field1 _)).b, ?_⟩
            refine ⟨fun a' w' F => StepG.run rfl (wanted_none rfl) (arm_fieldN rfl (F.at' 0 3 _ rfl (by kernel_rfl)).is).b, ?_⟩
            refine ⟨fun a' w' F => StepG.run rfl (wanted_none rfl) (arm_loadW1 rfl (F.at' 1 4 _ rfl (by kernel_rfl)).is (V0.mono F.below)).b, ?_⟩
            refine ⟨fun a' w' F => StepG.run rfl (wanted_none rfl) (arm_lenW rfl (F.at' 2 5 _ rfl (by kernel_rfl)).is).b, ?_⟩
            refine ⟨fun a' w' F => StepG.run rfl (wanted_none rfl) (arm_bin rfl (F.at' 3 6 _ rfl (by kernel_rfl)).is Is.const (fun _ => rfl) (fun w => by rw [HL.out]; rfl)).b, ?_⟩
            refine ⟨fun a' w' F => StepG.run rfl (wanted_none rfl) (arm_move (.inl rfl) (F.at' 4 7 _ rfl (by kernel_rfl)).is).b, ?_⟩
            refine ⟨fun a' w' F => StepG.run rfl (wanted_some rfl rfl (F.at' 5 8 _ rfl (by kernel_rfl))) (arm_fieldF rfl (F.keep 1 (Value.pointer (some ⟨w.heap.size, 0, none⟩)) (by kernel_rfl) rfl).is (run_field2 _)).b, ?_⟩
            refine ⟨fun a' w' F => StepG.run rfl (wanted_some rfl rfl (F.at' 5 8 _ rfl (by kernel_rfl))) (arm_fieldN rfl (F.at' 6 9 _ rfl (by kernel_rfl)).is).b, ?_⟩
            refine ⟨fun a' w' F => StepG.run rfl (wanted_some rfl rfl (F.at' 5 8 _ rfl (by kernel_rfl))) (arm_loadW2 rfl (F.at' 7 10 _ rfl (by kernel_rfl)).is (V0.mono F.below)).b, ?_⟩
            refine ⟨fun a' w' F => StepG.run rfl (wanted_some rfl rfl (F.at' 5 8 _ rfl (by kernel_rfl))) (arm_lenW rfl (F.at' 8 11 _ rfl (by kernel_rfl)).is).b, ?_⟩
            refine ⟨fun a' w' F => StepG.run rfl (wanted_some rfl rfl (F.at' 5 8 _ rfl (by kernel_rfl))) (arm_bin rfl (F.at' 9 12 _ rfl (by kernel_rfl)).is Is.const (fun _ => rfl) (fun w => by rw [HN.out]; rfl)).b, ?_⟩
            refine ⟨fun a' w' F => StepG.run rfl (wanted_none rfl) (arm_pick rfl (F.at' 5 8 _ rfl (by kernel_rfl)).is (fun h => by cases h) (fun _ => (F.at' 10 13 _ rfl (by kernel_rfl)).is)).b, ?_⟩
            exact trivial
          intro E' hE gp wp bp G Gs
          obtain rfl : E' = [] := by simpa [subs] using hE
          have e_11 : gp 11 = Value.bool false := G 11 14 _ (by simp) rfl
          clear G Gs hE
          simp only [lawValidT0]
          simp only [putD, entries, List.map_cons, List.map_nil, List.foldl_cons, List.foldl_nil, Act.put, List.setIfInBounds_toArray, List.set_cons_zero, List.set_cons_succ, e_11]
          refine wpAny_done (by kernel_rfl) ?_ _
          go_wp2_with fail
          go_meet
          case rel => exact ⟨rfl, (V0.mono bp), (hb1.trans (bp.mono hb1.size))⟩
        case rest =>
        clear V0 hb1
        obtain ⟨rfl, V0, hb1⟩ := hcut
        go_upto_region 3 with (fail)
        go_cut [2] (fun s_2 wx => s_2 = Value.bool true ∧ VarFR wx w.heap.size s L p N q ∧ Below w.heap.size w wx)
        case first =>
          refine wp_tabG Try.f3 3 (lawValidT1 s L p N q V) [] (fun _ => false) 8 0 (by kernel_rfl) (by kernel_rfl) (by kernel_rfl) (by kernel_rfl) (by kernel_rfl) (EachX.of_all (fun _ h => by cases h) _) ?_ ?_
          · refine ⟨fun a' w' F => StepG.run rfl (wanted_none rfl) (arm_loadFR rfl (F.keep 1 (Value.pointer (some ⟨w.heap.size, 0, none⟩)) (by kernel_rfl) rfl).is (V0.mono F.below)).b, ?_⟩
            refine ⟨fun a' w' F => StepG.run rfl (wanted_none rfl) (arm_C1 rfl (enters Try.func12 rfl rfl) (F.at' 0 16 _ rfl (by kernel_rfl)).is (fun va w h1 => q_fValid va (Fq.mk s p q) w (IsFR.isQ h1 H3.out H4.out) bp bq) (fun _ _ h => by have h' : RetV _ _ _ _ := h; rw [hV.out] at h'; exact ofV h')).b, ?_⟩
            refine ⟨fun a' w' F => StepG.run rfl (wanted_none rfl) (arm_loadFR rfl (F.keep 1 (Value.pointer (some ⟨w.heap.size, 0, none⟩)) (by kernel_rfl) rfl).is (V0.mono F.below)).b, ?_⟩
            refine ⟨fun a' w' F => StepG.run rfl (wanted_none rfl) (arm_C1 rfl (enters Try.func13 rfl rfl) (F.at' 2 18 _ rfl (by kernel_rfl)).is (fun va w h1 => q_rValid va (Fq.mk s p q) w (IsFR.isQ h1 H3.out H4.out) bp bq) (fun _ _ h => by have h' : RetV _ _ _ _ := h; rw [hV.out] at h'; exact ofV h')).b, ?_⟩
            refine ⟨fun a' w' F => StepG.run rfl (wanted_none rfl) (arm_bin rfl (F.at' 1 17 _ rfl (by kernel_rfl)).is (F.at' 3 19 _ rfl (by kernel_rfl)).is (fun _ => rfl) (fun w => by rw [HV.out]; exact run_eqBB _ _ w)).b, ?_⟩
            refine ⟨fun a' w' F => StepG.run rfl (wanted_none rfl) (arm_move (.inl rfl) (F.at' 4 20 _ rfl (by kernel_rfl)).is).b, ?_⟩
            refine ⟨fun a' w' F => StepG.run rfl (wanted_some rfl rfl (F.at' 5 21 _ rfl (by kernel_rfl))) (arm_C0 rfl (enters Try.func11 rfl rfl)  (fun w => c_awake2 w) (fun _ _ h => ofV h)).b, ?_⟩
            refine ⟨fun a' w' F => StepG.run rfl (wanted_none rfl) (arm_pick rfl (F.at' 5 21 _ rfl (by kernel_rfl)).is (fun _ => (F.at' 6 22 _ rfl (by kernel_rfl)).is) (fun h => by cases h)).b, ?_⟩
            refine ⟨fun a' w' F => StepG.run rfl (wanted_none rfl) (arm_move (.inr rfl) (F.at' 7 23 _ rfl (by kernel_rfl)).is).b, ?_⟩
            exact trivial
          intro E' hE gp wp bp G Gs
          obtain rfl : E' = [] := by simpa [subs] using hE
          have e_8 : gp 8 = Value.bool true := G 8 2 _ (by simp) rfl
          clear G Gs hE
          simp only [lawValidT1]
          simp only [putD, entries, List.map_cons, List.map_nil, List.foldl_cons, List.foldl_nil, Act.put, List.setIfInBounds_toArray, List.set_cons_zero, List.set_cons_succ, e_8]
          refine wpAny_done (by kernel_rfl) ?_ _
          go_wp2_with fail
          go_meet
          case rel => exact ⟨rfl, (V0.mono bp), (hb1.trans (bp.mono hb1.size))⟩
        case rest =>
        clear V0 hb1
        obtain ⟨rfl, V0, hb1⟩ := hcut
        go_wp2
        go_ret
        exact ⟨rfl, hb1⟩
      · have H3 := Lib.hid h3
        clear h1 h2 h3
        obtain ⟨a0, c0, b0, d0, rfl, m0, k0⟩ := boxR ha
        clear ha
        go_enter Try.func3, Try.ntmps3
        go_upto_region 0 with (fail)
        go_cut [1, 2] (fun s_1 s_2 wx => s_1 = Value.pointer (some ⟨w.heap.size, 0, none⟩) ∧ s_2 = Value.bool false ∧ VarFR wx w.heap.size s L p N q ∧ Below w.heap.size w wx)
        case first =>
          go_wp2_with fail
          go_meet
          case rel => exact ⟨rfl, rfl, k0, m0⟩
        case rest =>
        clear m0 k0
        obtain ⟨rfl, rfl, V0, hb1⟩ := hcut
        go_upto_region 1 with (fail)
        go_cut [14] (fun s_14 wx => s_14 = Value.bool false ∧ VarFR wx w.heap.size s L p N q ∧ Below w.heap.size w wx)
        case first =>
          refine wp_tabGF Try.f3 1 (lawValidT2 w L N) [] (fun _ => false) 12 0 (by kernel_rfl) (by kernel_rfl) (by kernel_rfl) (by kernel_rfl) (by kernel_rfl) (EachX.of_all (fun _ h => by cases h) _) ?_ ?_
          · refine ⟨fun a' w' F => StepG.run rfl (wanted_none rfl) (arm_fieldF rfl (F.keep 1 (Value.pointer (some ⟨w.heap.size, 0, none⟩)) (by kernel_rfl) rfl).is (run_field1 _)).b, ?_⟩
            refine ⟨fun a' w' F => StepG.run rfl (wanted_none rfl) (arm_fieldN rfl (F.at' 0 3 _ rfl (by kernel_rfl)).is).b, ?_⟩
            refine ⟨fun a' w' F => StepG.run rfl (wanted_none rfl) (arm_loadW1 rfl (F.at' 1 4 _ rfl (by kernel_rfl)).is (V0.mono F.below)).b, ?_⟩
            refine ⟨fun a' w' F => StepG.run rfl (wanted_none rfl) (arm_lenW rfl (F.at' 2 5 _ rfl (by kernel_rfl)).is).b, ?_⟩
            refine ⟨fun a' w' F => StepG.run rfl (wanted_none rfl) (arm_bin rfl (F.at' 3 6 _ rfl (by kernel_rfl)).is Is.const (fun _ => rfl) (fun w => by rw [HL.out]; rfl)).b, ?_⟩
            refine ⟨fun a' w' F => StepG.run rfl (wanted_none rfl) (arm_move (.inl rfl) (F.at' 4 7 _ rfl (by kernel_rfl)).is).b, ?_⟩
            refine ⟨fun a' w' F => StepG.run rfl (wanted_some rfl rfl (F.at' 5 8 _ rfl (by kernel_rfl))) (arm_fieldF rfl (F.keep 1 (Value.pointer (some ⟨w.heap.size, 0, none⟩)) (by kernel_rfl) rfl).is (run_field2 _)).b, ?_⟩
            refine ⟨fun a' w' F => StepG.run rfl (wanted_some rfl rfl (F.at' 5 8 _ rfl (by kernel_rfl))) (arm_fieldN rfl (F.at' 6 9 _ rfl (by kernel_rfl)).is).b, ?_⟩
            refine ⟨fun a' w' F => StepG.run rfl (wanted_some rfl rfl (F.at' 5 8 _ rfl (by kernel_rfl))) (arm_loadW2 rfl (F.at' 7 10 _ rfl (by kernel_rfl)).is (V0.mono F.below)).b, ?_⟩
            refine ⟨fun a' w' F => StepG.run rfl (wanted_some rfl rfl (F.at' 5 8 _ rfl (by kernel_rfl))) (arm_lenW rfl (F.at' 8 11 _ rfl (by kernel_rfl)).is).b, ?_⟩
            refine ⟨fun a' w' F => StepG.run rfl (wanted_some rfl rfl (F.at' 5 8 _ rfl (by kernel_rfl))) (arm_bin rfl (F.at' 9 12 _ rfl (by kernel_rfl)).is Is.const (fun _ => rfl) (fun w => by rw [HN.out]; rfl)).b, ?_⟩
            refine ⟨fun a' w' F => StepG.run rfl (wanted_none rfl) (arm_pick rfl (F.at' 5 8 _ rfl (by kernel_rfl)).is (fun h => by cases h) (fun _ => (F.at' 10 13 _ rfl (by kernel_rfl)).is)).b, ?_⟩
            exact trivial
          intro E' hE gp wp bp G Gs
          obtain rfl : E' = [] := by simpa [subs] using hE
          have e_11 : gp 11 = Value.bool false := G 11 14 _ (by simp) rfl
          clear G Gs hE
          simp only [lawValidT2]
          simp only [putD, entries, List.map_cons, List.map_nil, List.foldl_cons, List.foldl_nil, Act.put, List.setIfInBounds_toArray, List.set_cons_zero, List.set_cons_succ, e_11]
          refine wpAny_done (by kernel_rfl) ?_ _
          go_wp2_with fail
          go_meet
          case rel => exact ⟨rfl, (V0.mono bp), (hb1.trans (bp.mono hb1.size))⟩
        case rest =>
        clear V0 hb1
        obtain ⟨rfl, V0, hb1⟩ := hcut
        go_upto_region 3 with (fail)
        go_cut [2] (fun s_2 wx => s_2 = Value.bool true ∧ VarFR wx w.heap.size s L p N q ∧ Below w.heap.size w wx)
        case first =>
          refine wp_tabG Try.f3 3 (lawValidT3 s L p N q) [] (fun _ => false) 8 0 (by kernel_rfl) (by kernel_rfl) (by kernel_rfl) (by kernel_rfl) (by kernel_rfl) (EachX.of_all (fun _ h => by cases h) _) ?_ ?_
          · refine ⟨fun a' w' F => StepG.run rfl (wanted_none rfl) (arm_loadFR rfl (F.keep 1 (Value.pointer (some ⟨w.heap.size, 0, none⟩)) (by kernel_rfl) rfl).is (V0.mono F.below)).b, ?_⟩
            refine ⟨fun a' w' F => StepG.run rfl (wanted_none rfl) (arm_C1 rfl (enters Try.func12 rfl rfl) (F.at' 0 16 _ rfl (by kernel_rfl)).is (fun va w h1 => q_fValidR va s L p N q w h1 hl hn H3.out) (fun _ _ h => ofV h)).b, ?_⟩
            refine ⟨fun a' w' F => StepG.run rfl (wanted_none rfl) (arm_loadFR rfl (F.keep 1 (Value.pointer (some ⟨w.heap.size, 0, none⟩)) (by kernel_rfl) rfl).is (V0.mono F.below)).b, ?_⟩
            refine ⟨fun a' w' F => StepG.run rfl (wanted_none rfl) (arm_C1 rfl (enters Try.func13 rfl rfl) (F.at' 2 18 _ rfl (by kernel_rfl)).is (fun va w h1 => q_rValidR va s L p N q w h1 hl hn H3.out) (fun _ _ h => ofV h)).b, ?_⟩
            refine ⟨fun a' w' F => StepG.run rfl (wanted_none rfl) (arm_bin rfl (F.at' 1 17 _ rfl (by kernel_rfl)).is (F.at' 3 19 _ rfl (by kernel_rfl)).is (fun _ => rfl) (fun _ => rfl)).b, ?_⟩
            refine ⟨fun a' w' F => StepG.run rfl (wanted_none rfl) (arm_move (.inl rfl) (F.at' 4 20 _ rfl (by kernel_rfl)).is).b, ?_⟩
            refine ⟨fun a' w' F => StepG.run rfl (wanted_some rfl rfl (F.at' 5 21 _ rfl (by kernel_rfl))) (arm_C0 rfl (enters Try.func11 rfl rfl)  (fun w => c_awake2 w) (fun _ _ h => ofV h)).b, ?_⟩
            refine ⟨fun a' w' F => StepG.run rfl (wanted_none rfl) (arm_pick rfl (F.at' 5 21 _ rfl (by kernel_rfl)).is (fun _ => (F.at' 6 22 _ rfl (by kernel_rfl)).is) (fun h => by cases h)).b, ?_⟩
            refine ⟨fun a' w' F => StepG.run rfl (wanted_none rfl) (arm_move (.inr rfl) (F.at' 7 23 _ rfl (by kernel_rfl)).is).b, ?_⟩
            exact trivial
          intro E' hE gp wp bp G Gs
          obtain rfl : E' = [] := by simpa [subs] using hE
          have e_8 : gp 8 = Value.bool true := G 8 2 _ (by simp) rfl
          clear G Gs hE
          simp only [lawValidT3]
          simp only [putD, entries, List.map_cons, List.map_nil, List.foldl_cons, List.foldl_nil, Act.put, List.setIfInBounds_toArray, List.set_cons_zero, List.set_cons_succ, e_8]
          refine wpAny_done (by kernel_rfl) ?_ _
          go_wp2_with fail
          go_meet
          case rel => exact ⟨rfl, (V0.mono bp), (hb1.trans (bp.mono hb1.size))⟩
        case rest =>
        clear V0 hb1
        obtain ⟨rfl, V0, hb1⟩ := hcut
        go_wp2
        go_ret
        exact ⟨rfl, hb1⟩
    · have HN : Hid (true = decide (12 < (N : Int))) := Lib.hid (by symm; apply decide_eq_true; omega)
      clear h1 h2
      obtain ⟨a0, c0, b0, d0, rfl, m0, k0⟩ := boxR ha
      clear ha
      go_enter Try.func3, Try.ntmps3
      go_upto_region 0 with (fail)
      go_cut [1, 2] (fun s_1 s_2 wx => s_1 = Value.pointer (some ⟨w.heap.size, 0, none⟩) ∧ s_2 = Value.bool false ∧ VarFR wx w.heap.size s L p N q ∧ Below w.heap.size w wx)
      case first =>
        go_wp2_with fail
        go_meet
        case rel => exact ⟨rfl, rfl, k0, m0⟩
      case rest =>
      clear m0 k0
      obtain ⟨rfl, rfl, V0, hb1⟩ := hcut
      go_upto_region 1 with (fail)
      go_cut [14] (fun s_14 wx => s_14 = Value.bool true ∧ VarFR wx w.heap.size s L p N q ∧ Below w.heap.size w wx)
      case first =>
        refine wp_tabGF Try.f3 1 (lawValidT4 w L N) [] (fun _ => false) 12 0 (by kernel_rfl) (by kernel_rfl) (by kernel_rfl) (by kernel_rfl) (by kernel_rfl) (EachX.of_all (fun _ h => by cases h) _) ?_ ?_
        · refine ⟨fun a' w' F => StepG.run rfl (wanted_none rfl) (arm_fieldF rfl (F.keep 1 (Value.pointer (some ⟨w.heap.size, 0, none⟩)) (by kernel_rfl) rfl).is (run_field1 _)).b, ?_⟩
          refine ⟨fun a' w' F => StepG.run rfl (wanted_none rfl) (arm_fieldN rfl (F.at' 0 3 _ rfl (by kernel_rfl)).is).b, ?_⟩
          refine ⟨fun a' w' F => StepG.run rfl (wanted_none rfl) (arm_loadW1 rfl (F.at' 1 4 _ rfl (by kernel_rfl)).is (V0.mono F.below)).b, ?_⟩
          refine ⟨fun a' w' F => StepG.run rfl (wanted_none rfl) (arm_lenW rfl (F.at' 2 5 _ rfl (by kernel_rfl)).is).b, ?_⟩
          refine ⟨fun a' w' F => StepG.run rfl (wanted_none rfl) (arm_bin rfl (F.at' 3 6 _ rfl (by kernel_rfl)).is Is.const (fun _ => rfl) (fun w => by rw [HL.out]; rfl)).b, ?_⟩
          refine ⟨fun a' w' F => StepG.run rfl (wanted_none rfl) (arm_move (.inl rfl) (F.at' 4 7 _ rfl (by kernel_rfl)).is).b, ?_⟩
          refine ⟨fun a' w' F => StepG.run rfl (wanted_some rfl rfl (F.at' 5 8 _ rfl (by kernel_rfl))) (arm_fieldF rfl (F.keep 1 (Value.pointer (some ⟨w.heap.size, 0, none⟩)) (by kernel_rfl) rfl).is (run_field2 _)).b, ?_⟩
          refine ⟨fun a' w' F => StepG.run rfl (wanted_some rfl rfl (F.at' 5 8 _ rfl (by kernel_rfl))) (arm_fieldN rfl (F.at' 6 9 _ rfl (by kernel_rfl)).is).b, ?_⟩
          refine ⟨fun a' w' F => StepG.run rfl (wanted_some rfl rfl (F.at' 5 8 _ rfl (by kernel_rfl))) (arm_loadW2 rfl (F.at' 7 10 _ rfl (by kernel_rfl)).is (V0.mono F.below)).b, ?_⟩
          refine ⟨fun a' w' F => StepG.run rfl (wanted_some rfl rfl (F.at' 5 8 _ rfl (by kernel_rfl))) (arm_lenW rfl (F.at' 8 11 _ rfl (by kernel_rfl)).is).b, ?_⟩
          refine ⟨fun a' w' F => StepG.run rfl (wanted_some rfl rfl (F.at' 5 8 _ rfl (by kernel_rfl))) (arm_bin rfl (F.at' 9 12 _ rfl (by kernel_rfl)).is Is.const (fun _ => rfl) (fun w => by rw [HN.out]; rfl)).b, ?_⟩
          refine ⟨fun a' w' F => StepG.run rfl (wanted_none rfl) (arm_pick rfl (F.at' 5 8 _ rfl (by kernel_rfl)).is (fun h => by cases h) (fun _ => (F.at' 10 13 _ rfl (by kernel_rfl)).is)).b, ?_⟩
          exact trivial
        intro E' hE gp wp bp G Gs
        obtain rfl : E' = [] := by simpa [subs] using hE
        have e_11 : gp 11 = Value.bool true := G 11 14 _ (by simp) rfl
        clear G Gs hE
        simp only [lawValidT4]
        simp only [putD, entries, List.map_cons, List.map_nil, List.foldl_cons, List.foldl_nil, Act.put, List.setIfInBounds_toArray, List.set_cons_zero, List.set_cons_succ, e_11]
        refine wpAny_done (by kernel_rfl) ?_ _
        go_wp2_with fail
        go_meet
        case rel => exact ⟨rfl, (V0.mono bp), (hb1.trans (bp.mono hb1.size))⟩
      case rest =>
      clear V0 hb1
      obtain ⟨rfl, V0, hb1⟩ := hcut
      go_upto_region 2 with (fail)
      go_cut [2] (fun s_2 wx => s_2 = Value.bool true ∧ VarFR wx w.heap.size s L p N q ∧ Below w.heap.size w wx)
      case first =>
        refine wp_tabGF Try.f3 2 (lawValidT5 ) [] (fun _ => false) 2 0 (by kernel_rfl) (by kernel_rfl) (by kernel_rfl) (by kernel_rfl) (by kernel_rfl) (EachX.of_all (fun _ h => by cases h) _) ?_ ?_
        · refine ⟨fun a' w' F => StepG.run rfl (wanted_none rfl) (arm_C0 rfl (enters Try.func11 rfl rfl)  (fun w => c_awake2 w) (fun _ _ h => ofV h)).b, ?_⟩
          refine ⟨fun a' w' F => StepG.run rfl (wanted_none rfl) (arm_move (.inr rfl) (F.at' 0 15 _ rfl (by kernel_rfl)).is).b, ?_⟩
          exact trivial
        intro E' hE gp wp bp G Gs
        obtain rfl : E' = [] := by simpa [subs] using hE
        have e_1 : gp 1 = Value.bool true := G 1 2 _ (by simp) rfl
        clear G Gs hE
        simp only [lawValidT5]
        simp only [putD, entries, List.map_cons, List.map_nil, List.foldl_cons, List.foldl_nil, Act.put, List.setIfInBounds_toArray, List.set_cons_zero, List.set_cons_succ, e_1]
        refine wpAny_done (by kernel_rfl) ?_ _
        go_wp2_with fail
        go_meet
        case rel => exact ⟨rfl, (V0.mono bp), (hb1.trans (bp.mono hb1.size))⟩
      case rest =>
      clear V0 hb1
      obtain ⟨rfl, V0, hb1⟩ := hcut
      go_wp2
      go_ret
      exact ⟨rfl, hb1⟩
  · have HL : Hid (true = decide (12 < (L : Int))) := Lib.hid (by symm; apply decide_eq_true; omega)
    clear h1
    obtain ⟨a0, c0, b0, d0, rfl, m0, k0⟩ := boxR ha
    clear ha
    go_enter Try.func3, Try.ntmps3
    go_upto_region 0 with (fail)
    go_cut [1, 2] (fun s_1 s_2 wx => s_1 = Value.pointer (some ⟨w.heap.size, 0, none⟩) ∧ s_2 = Value.bool false ∧ VarFR wx w.heap.size s L p N q ∧ Below w.heap.size w wx)
    case first =>
      go_wp2_with fail
      go_meet
      case rel => exact ⟨rfl, rfl, k0, m0⟩
    case rest =>
    clear m0 k0
    obtain ⟨rfl, rfl, V0, hb1⟩ := hcut
    go_upto_region 1 with (fail)
    go_cut [14] (fun s_14 wx => s_14 = Value.bool true ∧ VarFR wx w.heap.size s L p N q ∧ Below w.heap.size w wx)
    case first =>
      refine wp_tabGF Try.f3 1 (lawValidT6 w L) [] (fun _ => false) 12 0 (by kernel_rfl) (by kernel_rfl) (by kernel_rfl) (by kernel_rfl) (by kernel_rfl) (EachX.of_all (fun _ h => by cases h) _) ?_ ?_
      · refine ⟨fun a' w' F => StepG.run rfl (wanted_none rfl) (arm_fieldF rfl (F.keep 1 (Value.pointer (some ⟨w.heap.size, 0, none⟩)) (by kernel_rfl) rfl).is (run_field1 _)).b, ?_⟩
        refine ⟨fun a' w' F => StepG.run rfl (wanted_none rfl) (arm_fieldN rfl (F.at' 0 3 _ rfl (by kernel_rfl)).is).b, ?_⟩
        refine ⟨fun a' w' F => StepG.run rfl (wanted_none rfl) (arm_loadW1 rfl (F.at' 1 4 _ rfl (by kernel_rfl)).is (V0.mono F.below)).b, ?_⟩
        refine ⟨fun a' w' F => StepG.run rfl (wanted_none rfl) (arm_lenW rfl (F.at' 2 5 _ rfl (by kernel_rfl)).is).b, ?_⟩
        refine ⟨fun a' w' F => StepG.run rfl (wanted_none rfl) (arm_bin rfl (F.at' 3 6 _ rfl (by kernel_rfl)).is Is.const (fun _ => rfl) (fun w => by rw [HL.out]; rfl)).b, ?_⟩
        refine ⟨fun a' w' F => StepG.run rfl (wanted_none rfl) (arm_move (.inl rfl) (F.at' 4 7 _ rfl (by kernel_rfl)).is).b, ?_⟩
        refine ⟨fun a' w' F => StepG.skip rfl (unwanted rfl rfl (F.at' 5 8 _ rfl (by kernel_rfl)) rfl) rfl, ?_⟩
        refine ⟨fun a' w' F => StepG.skip rfl (unwanted rfl rfl (F.at' 5 8 _ rfl (by kernel_rfl)) rfl) rfl, ?_⟩
        refine ⟨fun a' w' F => StepG.skip rfl (unwanted rfl rfl (F.at' 5 8 _ rfl (by kernel_rfl)) rfl) rfl, ?_⟩
        refine ⟨fun a' w' F => StepG.skip rfl (unwanted rfl rfl (F.at' 5 8 _ rfl (by kernel_rfl)) rfl) rfl, ?_⟩
        refine ⟨fun a' w' F => StepG.skip rfl (unwanted rfl rfl (F.at' 5 8 _ rfl (by kernel_rfl)) rfl) rfl, ?_⟩
        refine ⟨fun a' w' F => StepG.run rfl (wanted_none rfl) (arm_pick rfl (F.at' 5 8 _ rfl (by kernel_rfl)).is (fun _ => Is.const) (fun h => by cases h)).b, ?_⟩
        exact trivial
      intro E' hE gp wp bp G Gs
      obtain rfl : E' = [] := by simpa [subs] using hE
      have e_11 : gp 11 = Value.bool true := G 11 14 _ (by simp) rfl
      clear G Gs hE
      simp only [lawValidT6]
      simp only [putD, entries, List.map_cons, List.map_nil, List.foldl_cons, List.foldl_nil, Act.put, List.setIfInBounds_toArray, List.set_cons_zero, List.set_cons_succ, e_11]
      refine wpAny_done (by kernel_rfl) ?_ _
      go_wp2_with fail
      go_meet
      case rel => exact ⟨rfl, (V0.mono bp), (hb1.trans (bp.mono hb1.size))⟩
    case rest =>
    clear V0 hb1
    obtain ⟨rfl, V0, hb1⟩ := hcut
    go_upto_region 2 with (fail)
    go_cut [2] (fun s_2 wx => s_2 = Value.bool true ∧ VarFR wx w.heap.size s L p N q ∧ Below w.heap.size w wx)
    case first =>
      refine wp_tabGF Try.f3 2 (lawValidT7 ) [] (fun _ => false) 2 0 (by kernel_rfl) (by kernel_rfl) (by kernel_rfl) (by kernel_rfl) (by kernel_rfl) (EachX.of_all (fun _ h => by cases h) _) ?_ ?_
      · refine ⟨fun a' w' F => StepG.run rfl (wanted_none rfl) (arm_C0 rfl (enters Try.func11 rfl rfl)  (fun w => c_awake2 w) (fun _ _ h => ofV h)).b, ?_⟩
        refine ⟨fun a' w' F => StepG.run rfl (wanted_none rfl) (arm_move (.inr rfl) (F.at' 0 15 _ rfl (by kernel_rfl)).is).b, ?_⟩
        exact trivial
      intro E' hE gp wp bp G Gs
      obtain rfl : E' = [] := by simpa [subs] using hE
      have e_1 : gp 1 = Value.bool true := G 1 2 _ (by simp) rfl
      clear G Gs hE
      simp only [lawValidT7]
      simp only [putD, entries, List.map_cons, List.map_nil, List.foldl_cons, List.foldl_nil, Act.put, List.setIfInBounds_toArray, List.set_cons_zero, List.set_cons_succ, e_1]
      refine wpAny_done (by kernel_rfl) ?_ _
      go_wp2_with fail
      go_meet
      case rel => exact ⟨rfl, (V0.mono bp), (hb1.trans (bp.mono hb1.size))⟩
    case rest =>
    clear V0 hb1
    obtain ⟨rfl, V0, hb1⟩ := hcut
    go_wp2
    go_ret
    exact ⟨rfl, hb1⟩
end Go.Proofs.Ytldnimohnbjfaaa
namespace Go.Proofs.Ytldnimohnbjfaaa
set_option linter.unusedSimpArgs false
set_option linter.unusedVariables false
set_option maxRecDepth 100000
open Go.RowKit
open Go.ChangeShapes Go.WideShapes Go.ChangeAt Go.RowKit
theorem digits_exist (f : Nat → Nat) (hf : ∀ j, f j < 4294967296) : ∀ L, ∃ N, N < 4294967296 ^ L ∧ ∀ j, j < L → D N j = f j
  | 0 => ⟨0, by simp, fun j h => by omega⟩
  | L + 1 => by
    obtain ⟨N, h1, h2⟩ := digits_exist f hf L
    refine ⟨upd N L (f L), upd_lt (Nat.lt_of_lt_of_le h1 (Nat.pow_le_pow_right (by decide) (Nat.le_succ L))) (Nat.lt_succ_self L) (hf L), fun j hj => ?_⟩
    by_cases e : j = L
    · subst e; exact D_upd_same N j (f j) (hf j)
    · rw [D_upd_other N L (f L) j (hf L) e]; exact h2 j (by omega)
end Go.Proofs.Ytldnimohnbjfaaa
namespace Go.Proofs.Ytldnimohnbjfaaa
set_option linter.unusedSimpArgs false
set_option linter.unusedVariables false
set_option maxRecDepth 100000
open Go.RowKit
open Go.ChangeShapes Go.WideShapes Go.ChangeAt Go.RowKit
theorem open_natc {H : Type} {enc : TypeId × Value → H} {W : World} {fuel : Nat} {u : Value} {x : DataW H × List MemPlace} (hf : DataW.trod enc Try.prog W 0 (fun _ => true) true fuel 24 [u] = some x) :
    ∃ a L cap m, u = .slice a L cap ∧ IsR W (.agg #[.slice a L cap]) L m ∧ L ≤ 9223372036854775807 := by
  obtain ⟨y0, n, hy, hl0, h1⟩ := trod_struct1 Try.underlying24 hf
  have hc2 : Try.prog.cellsOf 22 = 1 := by kernel_rfl
  simp [hc2] at h1
  rcases open_ints Try.underlying22 Try.underlying69 (by kernel_rfl) h1 with ⟨hcs, _⟩ | ⟨x, l, c, zs, hcs, _, hl, hm, hz, _, hcell, hwz⟩
  · simp at hcs
    subst hcs
    exact ⟨none, 0, 0, 0, rfl, ⟨none, 0, rfl, Nat.le_refl _, by simp, fun h => by omega⟩, by decide⟩
  · simp at hcs
    subst hcs
    obtain ⟨N, hN, hD⟩ := digits_exist (fun j => (zs.getD j 0).toNat) (fun j => by
      have := range_u32 hwz j
      have e : zs.getD j 0 = zs[j]?.getD 0 := by simp
      rw [e]; omega) l
    refine ⟨some x, l, c, N, rfl, ⟨some x, c, rfl, hl, hN, fun h0 => ?_⟩, by simp only [maxLen] at hm; omega⟩
    obtain ⟨b, off, spot⟩ := x
    have hc0 := hcell 0 (by rw [hz]; simp; omega)
    have hspot : spot = none := by simpa [Addr.add] using World.cell?_spot hc0
    subst hspot
    refine ⟨b, off, rfl, fun j hj => ?_⟩
    have h2 := hcell j (by rw [hz]; simp; omega)
    have hadd : (⟨b, off, none⟩ : Addr).add j = ⟨b, off + j, none⟩ := by unfold Addr.add; split <;> simp_all
    rw [hadd] at h2
    rw [h2, hD j hj]
    have := range_u32 hwz j
    have e : zs.getD j 0 = zs[j]?.getD 0 := by simp
    rw [e, Int.toNat_of_nonneg this.1]
theorem three {α : Type} {cs : Array α} (h : cs.size = 3) : ∃ a b c, cs = #[a, b, c] :=
  ⟨cs[0], cs[1], cs[2], by
    apply Array.ext
    · simp [h]
    · intro i h1 h2
      have : i = 0 ∨ i = 1 ∨ i = 2 := by omega
      rcases this with rfl | rfl | rfl <;> rfl⟩
theorem open_frac {H : Type} {enc : TypeId × Value → H} {W : World} {base : Nat} {v : Value} {d : DataW H} {p : List MemPlace} (hval : Value.okWide Try.prog W .any base 26 v) (h : DataW.Trod enc Try.prog W 0 (fun _ => true) true 26 v d p) :
    ∃ s L m N k, IsFR W v s L m N k ∧ L ≤ 9223372036854775807 ∧ N ≤ 9223372036854775807 := by
  obtain ⟨cs, rfl, hcs⟩ := okWide_struct Try.underlying26 hval
  obtain ⟨fuel, hf⟩ := h
  have hc : Try.prog.cellsOf 26 = 3 := by kernel_rfl
  have hcn : Try.prog.cellsOf 24 = 1 := by kernel_rfl
  have hcb : Try.prog.cellsOf 4 = 1 := by kernel_rfl
  rw [hc] at hcs
  obtain ⟨u0, u1, u2, rfl⟩ := three hcs
  obtain ⟨y0, y1, y2, n, hy, hl0, h0, h1, h2⟩ := Go.Deep.trod_struct3 Try.underlying26 hf
  simp [Value.cells, hcn, hcb] at h0 h1 h2
  obtain ⟨s, h3, _⟩ := DataW.trod_bool Try.underlying4 h0
  obtain rfl : u0 = .bool s := by simpa using h3
  obtain ⟨a, L, c, m, rfl, i1, l1⟩ := open_natc h1
  obtain ⟨a', N, c', k, rfl, i2, l2⟩ := open_natc h2
  exact ⟨s, L, m, N, k, ⟨a, c, a', c', rfl, i1, i2⟩, l1, l2⟩
end Go.Proofs.Ytldnimohnbjfaaa
